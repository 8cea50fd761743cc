/- A part of the proofs about chapter 7 (image): contracts of functions and plain laws (V105, V71, V106, ShelfC, O5, V107). -/
import Derived.Shelf.Strings.Builder1
import Derived.Shelf.Strings.Builder2
import Derived.Shelf.Strings.OnBuilder
import Derived.Shelf.Small.Strs
import Derived.Shelf.Small.Wraps
import Derived.Shelf.Strings.BuilderF
import Derived.Shelf.Strings.BuilderK
import Derived.Shelf.Utf8.RuneCount
import Derived.Shelf.Strings.Builder2Cap
import Derived.Shelf.Strconv.Itoa0
import Derived.Shelf.Strconv.Itoa1
import Derived.Shelf.LaysM
import Derived.Shelf.Strconv.Itoa2
import Derived.Shelf.Strconv.Itoa3
import Derived.Shelf.Strings.Search1
import Derived.Shelf.Strings.Search2
import Derived.Shelf.Strings.Search3
import Derived.Shelf.Strings.Count
import Derived.Shelf.Strings.Shaped
import Derived.Shelf.Strings.Prefix
import Derived.Shelf.Strings.Split
import Derived.Shelf.Strings.SplitShaped
import Derived.Shelf.Unicode.Decode
import Derived.Shelf.Strings.RuneCount
import Derived.Shelf.Strings.Explode
import Derived.Shelf.Bits.Mul64
import Derived.Shelf.Unicode.DecodeSlow
import Derived.Shelf.Unicode.DecodeAny
import Derived.Shelf.Slices.Equal
import Derived.Ground.Names2Prog
import Derived.Shelf.Slices.Clone
import Derived.Shelf.Slices.SearchI
import Derived.Shelf.Slices.Empties2
import Derived.Ground.SlgnProg
import Derived.Shelf.SlicesE.Clone
import Derived.Test.YtdimmlljjmmdbaaGreatDoorProg
import Derived.Test.YtdimmlljjmmdbaaGreatDoorRows
import Derived.Shelf.Vars
import Derived.Lib.AppendIntMem
import Derived.Test.YtdimmlljjmmdbaaGreatDoorZ14a
import Derived.Test.YtdimmlljjmmdbaaGreatDoorZ14b
import Derived.Test.YtdimmlljjmmdbaaGreatDoorZ14f
import Derived.Test.YtdimmlljjmmdbaaGreatDoorZ14i
import Derived.Test.YtdimmlljjmmdbaaGreatDoorZ14j
import Derived.Test.YtdimmlljjmmdbaaGreatDoorZ14k
set_option linter.all false
namespace Go.Proofs.YtdimmlljjmmdbaaGreatDoor
open Go.RowKit
set_option maxHeartbeats 16000000
set_option maxRecDepth 100000
namespace Tx
open Lib
def pT (c r : Nat) (l : List Int) (k : Nat) : List UInt8 := txtL (rowL wG [(c : Int), (r : Int)] :: rws c k l)
def pI (c r : Nat) (l : List Int) (k j : Nat) : List UInt8 := pT c r l k ++ wR ++ rowX ((Im.rowK c l k).take j)
theorem pT_len {c r : Nat} {l : List Int} (g : Im.Gr c r l) (hc : c ≤ 16) (hr : r ≤ 16) (k : Nat) (hk : k ≤ r) : (pT c r l k).length ≤ 4096 := by
 have h1 := rws_length_le c k l (fun x hx => by have := gr_range g x hx; omega)
 have h2 := rowX_length (l := [(c : Int), (r : Int)]) (fun x hx => by simp at hx; omega)
 have h3 : k * (4 * c + 4) ≤ 16 * 68 := Nat.mul_le_mul (by omega) (by omega)
 show (((rowL wG [(c : Int), (r : Int)]) ++ [10]) ++ txtL (rws c k l)).length ≤ _
 unfold rowL
 simp only [List.length_append, wG, List.length_cons, List.length_nil] at h2 ⊢
 omega
theorem pI_len {c r : Nat} {l : List Int} (g : Im.Gr c r l) (hc : c ≤ 16) (hr : r ≤ 16) (k j : Nat) (hk : k ≤ r) : (pI c r l k j).length ≤ 5000 := by
 have h1 := pT_len g hc hr k hk
 have h2 := rowX_length (l := (Im.rowK c l k).take j) (fun x hx => by have := gr_range g x (List.mem_of_mem_drop (List.mem_of_mem_take (List.mem_of_mem_take hx))); omega)
 have h3 : ((Im.rowK c l k).take j).length ≤ c := by unfold Im.rowK; rw [List.length_take, List.length_take]; omega
 unfold pI
 simp only [List.length_append, wR, List.length_cons, List.length_nil]
 omega
theorem pI_snoc {c r : Nat} {l : List Int} {k j : Nat} {x : Int} (h : (Im.rowK c l k)[j]? = some x) : pI c r l k (j + 1) = pI c r l k j ++ [32] ++ decDigits x.toNat := by
 unfold pI
 rw [List.take_add_one, h]
 simp [rowX, tx]
theorem pT_succ (c r : Nat) (l : List Int) (k : Nat) : pT c r l (k + 1) = pI c r l k c ++ [10] := by
 unfold pI pT
 rw [rws_snoc, List.take_of_length_le (by unfold Im.rowK; rw [List.length_take]; omega), ← List.cons_append, txtL_snoc]
 simp [rowL]
theorem pT_zero (c r : Nat) (l : List Int) : (⟨(pT c r l 0).toArray⟩ : ByteArray) = { data := #[103, 114, 111, 117, 110, 100, 32] } ++ tx c ++ { data := #[32] } ++ tx r ++ { data := #[10] } := by
 have e : pT c r l 0 = [103, 114, 111, 117, 110, 100, 32] ++ decDigits (c : Int).toNat ++ [32] ++ decDigits (r : Int).toNat ++ [10] := by
  simp [pT, rws, txtL, rowL, wG, rowX, tx]
 rw [e, ← ba_app, ← ba_app, ← ba_app, ← ba_app]
 rfl
theorem tx_size {x : Int} (h : 0 ≤ x ∧ x < 1000) : (tx x).size ≤ 3 := by
 have := dec_len x.toNat 2 (by omega)
 show (decDigits x.toNat).toArray.size ≤ 3
 simpa using this
theorem ls_size (L : List UInt8) : (⟨L.toArray⟩ : ByteArray).size = L.length := by simp [ByteArray.size]
end Tx
/-- the reference's text of a ground -/
theorem c83 (c r : Nat) (A : Option Addr) (n cap : Nat) (l : List Int) (w : World) (g : Im.Gr c r l) (hc : c ≤ 16) (hr : r ≤ 16) (H : RdI w A n l) :
  Calls Tryz.prog 83 #[.agg #[.int .i64 c, .int .i64 r, .slice A n cap]] w fun en w' => en = .returned (.string ⟨(Tx.grT c r l).toArray⟩) ∧ Below w.heap.size w w' := by
 have hn : n = c * r := by rw [← H.len, g.len]
 have hn2 : c * r ≤ 256 := Nat.mul_le_mul hc hr
 have HN := Lib.hid hn
 have HN2 := Lib.hid hn2
 clear hn hn2
 obtain ⟨S, hS⟩ : ∃ S : List UInt8 → ByteArray, S = fun L => ⟨L.toArray⟩ := ⟨_, rfl⟩
 have hSa : ∀ a b, S a ++ S b = S (a ++ b) := fun a b => by rw [hS]; exact ba_app a b
 have hSs : ∀ a, (S a).size = a.length := fun a => by rw [hS]; exact Tx.ls_size a
 have HEND : Hid ((⟨(Tx.grT c r l).toArray⟩ : ByteArray) = S (Tx.pT c r l r)) := Lib.hid (by rw [hS]; rfl)
 have HSA := Lib.hid hSa
 have HSS := Lib.hid hSs
 have HZ : Hid (S (Tx.pT c r l 0) = { data := #[103, 114, 111, 117, 110, 100, 32] } ++ tx c ++ { data := #[32] } ++ tx r ++ { data := #[10] }) := Lib.hid (by rw [hS]; exact Tx.pT_zero c r l)
 have HL1 : Hid (({ data := #[32] } : ByteArray) = S [32] ∧ ({ data := #[10] } : ByteArray) = S [10] ∧ ({ data := #[114, 111, 119] } : ByteArray) = S Tx.wR ∧ ∀ x, tx x = S (Lib.decDigits x.toNat)) := Lib.hid (by rw [hS]; exact ⟨rfl, rfl, rfl, fun _ => rfl⟩)
 have HTS : Hid (∀ x ∈ (c : Int) :: (r : Int) :: l, 0 ≤ x ∧ x < 1000) := Lib.hid (fun x hx => by
  simp only [List.mem_cons] at hx
  rcases hx with rfl | rfl | hx
  ·omega
  ·omega
  ·have := Tx.gr_range g x hx; omega)
 have HPT : Hid (∀ k, k ≤ r → (S (Tx.pT c r l k)).size ≤ 4096) := Lib.hid (fun k hk => by rw [hSs]; exact Tx.pT_len g hc hr k hk)
 have HPI : Hid (∀ k j, k ≤ r → (S (Tx.pI c r l k j)).size ≤ 5000) := Lib.hid (fun k j hk => by rw [hSs]; exact Tx.pI_len g hc hr k j hk)
 have HLL := Lib.hid g.len
 have K139 : Hid (∀ (x : Int) (W : World), x ∈ (c : Int) :: (r : Int) :: l → Calls Tryz.prog 139 #[.int .i64 x] W fun en w' => en = .returned (.string (tx x)) ∧ Below W.heap.size W w') := Lib.hid (fun x W hx => c139x (by have := HTS.out x hx; omega) W)
 have hsc : (tx c).size ≤ 3 := Tx.tx_size (HTS.out _ (by simp))
 have hsr : (tx r).size ≤ 3 := Tx.tx_size (HTS.out _ (by simp))
 obtain ⟨Xc, hXc⟩ : ∃ X, X = tx c := ⟨_, rfl⟩
 obtain ⟨Xr, hXr⟩ : ∃ X, X = tx r := ⟨_, rfl⟩
 have KC : Hid (∀ W, Calls Tryz.prog 139 #[.int .i64 c] W fun en w' => en = .returned (.string Xc) ∧ Below W.heap.size W w') := Lib.hid (fun W => by rw [hXc]; exact K139.out _ W (by simp))
 have KR : Hid (∀ W, Calls Tryz.prog 139 #[.int .i64 r] W fun en w' => en = .returned (.string Xr) ∧ Below W.heap.size W w') := Lib.hid (fun W => by rw [hXr]; exact K139.out _ W (by simp))
 rw [← hXc, ← hXr] at HZ
 rw [← hXc] at hsc
 rw [← hXr] at hsr
 have s1 : ¬ (9223372036854775807 < 7 + Xc.size) := by omega
 have s2 : ¬ (9223372036854775807 < 7 + Xc.size + 1) := by omega
 have s3 : ¬ (9223372036854775807 < 7 + Xc.size + 1 + Xr.size) := by omega
 have s4 : ¬ (9223372036854775807 < 7 + Xc.size + 1 + Xr.size + 1) := by omega
 rw [HEND.out]
 obtain ⟨w0, hW⟩ : ∃ W, W = w.alloc (Obj.cells #[.int .i64 c, .int .i64 r, .slice A n cap] 24) := ⟨_, rfl⟩
 have hT0 : w0.heap[w.heap.size]? = some (.cells #[.int .i64 c, .int .i64 r, .slice A n cap] 24 (0, 0)) := by rw [hW]; exact heap_new (by simp)
 have hB0 : Below w.heap.size w w0 := by rw [hW]; exact (Below.refl _ _).alloc (Nat.le_refl _) _
 replace H := H.below hB0
 clear hS hSa hSs hXc hXr hsc hsr
 go_enter Tryz.func83, Tryz.ntmps83
 go_wp2_with fail
 rw [← hW]
 clear hW
 have q0 : w0.cell? ⟨w.heap.size, 0, none⟩ = some (.int .i64 c) := cell_at hT0 rfl
 have q1 : w0.cell? ⟨w.heap.size, 1, none⟩ = some (.int .i64 r) := cell_at hT0 rfl
 have z0 := cell_lt q0
 refine wp_region_plan [(0, true), (1, true), (5, true), (6, true), (2, false), (3, true), (4, true), (7, false), (8, true), (9, true), (10, true)] w0.heap.size (by kernel_rfl) (by kernel_rfl) (Nat.le_refl _) (fun _ _ d _ _ h => by cases d <;> exact h) ?_
 have hC : Below w0.heap.size w0 w0 := Below.refl _ _
 repeat (first | (refine wpPlanA_skip _ rfl (by rfl) ?_; simp only [Act.put, List.setIfInBounds_toArray, List.set_cons_zero, List.set_cons_succ]) | (refine wpPlanA_soft _ ?_ rfl (by rfl) ?_ ?_; rotate_left; (intro wq hq hcq; go_simp; first | exact rfl | exact ⟨rfl, rfl⟩); simp only [Act.put, List.setIfInBounds_toArray, List.set_cons_zero, List.set_cons_succ]))
 refine wpPlanA_hard _ rfl (by rfl) (fun w3 hS K hK => ?_)
 go_simp
 refine (KC.out _).mono ?_
 rintro e w4 ⟨rfl, hb⟩
 replace hC := (hC.call hS rfl).call hb rfl
 refine hK _ _ hC ?_
 clear hK K hS hb
 try simp only [Act.put, List.setIfInBounds_toArray, List.set_cons_zero, List.set_cons_succ]
 repeat (first | (refine wpPlanA_skip _ rfl (by rfl) ?_; simp only [Act.put, List.setIfInBounds_toArray, List.set_cons_zero, List.set_cons_succ]) | (refine wpPlanA_soft _ ?_ rfl (by rfl) ?_ ?_; rotate_left; (intro wq hq hcq; go_simp; first | exact rfl | exact ⟨rfl, rfl⟩); simp only [Act.put, List.setIfInBounds_toArray, List.set_cons_zero, List.set_cons_succ]))
 refine wpPlanA_hard _ rfl (by rfl) (fun w5 hS K hK => ?_)
 go_simp
 refine (KR.out _).mono ?_
 rintro e w6 ⟨rfl, hb⟩
 replace hC := (hC.call hS rfl).call hb rfl
 refine hK _ _ hC ?_
 clear hK K hS hb
 try simp only [Act.put, List.setIfInBounds_toArray, List.set_cons_zero, List.set_cons_succ]
 repeat (first | (refine wpPlanA_skip _ rfl (by rfl) ?_; simp only [Act.put, List.setIfInBounds_toArray, List.set_cons_zero, List.set_cons_succ]) | (refine wpPlanA_soft _ ?_ rfl (by rfl) ?_ ?_; rotate_left; (intro wq hq hcq; go_simp; first | exact rfl | exact ⟨rfl, rfl⟩); simp only [Act.put, List.setIfInBounds_toArray, List.set_cons_zero, List.set_cons_succ]))
 refine wpPlanA_nil (fun w7 hS => ?_)
 have hC7 := hC.call hS rfl
 replace hT0 := blkb hT0 hC7
 replace H := H.below hC7
 have hB7 := hB0.call hC7 rfl
 clear hS hC hC7 q0 q1 z0 s1 s2 s3 s4 hB0
 rw [← HZ.out]
 have HB7 := Lib.hid hB7
 clear hB7
 go_wp2_with fail
 go_loopw [3, 4] (fun x i wr => ∃ k : Nat, k ≤ r ∧ x = .string (S (Tx.pT c r l k)) ∧ i = .int .i64 k ∧ Below w7.heap.size w7 wr) (fun _ i _ => r - (intOf i).toNat)
 case atStart => exact ⟨0, Nat.zero_le _, rfl, rfl, Below.refl _ _⟩
 case round =>
  obtain ⟨k, hk, rfl, rfl, hbr⟩ := hrel
  have hT1 := blkb hT0 hbr
  have H1 := H.below hbr
  have q0 : wr.cell? ⟨w.heap.size, 0, none⟩ = some (.int .i64 c) := cell_at hT1 rfl
  have q1 : wr.cell? ⟨w.heap.size, 1, none⟩ = some (.int .i64 r) := cell_at hT1 rfl
  have q2 : wr.cell? ⟨w.heap.size, 2, none⟩ = some (.slice A n cap) := cell_at hT1 rfl
  have z0 := cell_lt q0
  by_cases hlt : k < r
  ·have hlti : (k : Int) < (r : Int) := by omega
   have hwk : IntKind.i64.wrap ((k : Int) + 1) = ((k + 1 : Nat) : Int) := by rw [wrapI (by omega)]; simp
   have HWK := Lib.hid hwk
   have hsz := HPT.out k hk
   obtain ⟨T1, hTT⟩ : ∃ T, T = S (Tx.pT c r l k) := ⟨_, rfl⟩
   rw [← hTT] at hsz ⊢
   have HT1 := Lib.hid hTT
   have s5 : ¬ (9223372036854775807 < T1.size + 3) := by omega
   have HI0 : Hid (T1 ++ { data := #[114, 111, 119] } = S (Tx.pI c r l k 0)) := Lib.hid (by
    rw [HL1.out.2.2.1, HT1.out, HSA.out]
    congr 1
    simp [Tx.pI, rowX])
   have HBR := Lib.hid hbr
   clear hTT hwk hsz hbr
   obtain ⟨wk, hwk⟩ : ∃ W, W = wr := ⟨_, rfl⟩
   subst hwk
   go_wp2_with fail
   rw [HI0.out]
   go_loopw [3, 5] (fun x i wr => ∃ j : Nat, j ≤ c ∧ x = .string (S (Tx.pI c r l k j)) ∧ i = .int .i64 j ∧ Below wk.heap.size wk wr) (fun _ i _ => c - (intOf i).toNat)
   case atStart => exact ⟨0, Nat.zero_le _, rfl, rfl, Below.refl _ _⟩
   case round =>
    obtain ⟨j, hj, rfl, rfl, hbj⟩ := hrel
    have hT2 := blkb hT1 hbj
    have H2 := H1.below hbj
    have q0 : wr.cell? ⟨w.heap.size, 0, none⟩ = some (.int .i64 c) := cell_at hT2 rfl
    have q2 : wr.cell? ⟨w.heap.size, 2, none⟩ = some (.slice A n cap) := cell_at hT2 rfl
    have z0 := cell_lt q0
    have HBJ := Lib.hid (HBR.out.call hbj rfl)
    have HBI := Lib.hid hbj
    have hsz := HPI.out k j hk
    by_cases hjc : j < c
    ·have hjci : (j : Int) < (c : Int) := by omega
     have hkc : k * c + j < n := by
      rw [HN.out]
      have : (k + 1) * c ≤ r * c := Nat.mul_le_mul hlt (Nat.le_refl _)
      rw [Nat.add_mul, Nat.mul_comm r c] at this
      omega
     obtain ⟨b, off, x, rfl, hx, hb, h0⟩ := H2.at hkc
     have hxr : (Im.rowK c l k)[j]? = some x := by
      unfold Im.rowK
      rw [List.getElem?_take, if_pos hjc, List.getElem?_drop]; exact hx
     have hxm : x ∈ (c : Int) :: (r : Int) :: l := by simp [List.mem_of_getElem? hx]
     have hn := HN.out
     have hn2 := HN2.out
     have hw1 : IntKind.i64.wrap ((k : Int) * (c : Int)) = ((k * c : Nat) : Int) := by
      rw [show (k : Int) * (c : Int) = ((k * c : Nat) : Int) by simp, wrapI (by omega)]
     have hw2 : IntKind.i64.wrap (((k * c : Nat) : Int) + (j : Int)) = ((k * c + j : Nat) : Int) := by
      rw [show ((k * c : Nat) : Int) + (j : Int) = ((k * c + j : Nat) : Int) by simp, wrapI (by omega)]
     have hwj : IntKind.i64.wrap ((j : Int) + 1) = ((j + 1 : Nat) : Int) := by rw [wrapI (by omega)]; simp
     obtain ⟨ix, hix⟩ : ∃ i, i = k * c + j := ⟨_, rfl⟩
     rw [← hix] at hw2 h0 hkc
     obtain ⟨kc, hkcE⟩ : ∃ i, i = k * c := ⟨_, rfl⟩
     rw [← hkcE] at hw1 hw2
     have hxs := Tx.tx_size (HTS.out _ hxm)
     obtain ⟨T2, hT2E⟩ : ∃ T, T = S (Tx.pI c r l k j) := ⟨_, rfl⟩
     rw [← hT2E] at hsz ⊢
     obtain ⟨X, hX⟩ : ∃ X, X = tx x := ⟨_, rfl⟩
     have KX : Hid (∀ W, Calls Tryz.prog 139 #[.int .i64 x] W fun en w' => en = .returned (.string X) ∧ Below W.heap.size W w') := Lib.hid (fun W => by rw [hX]; exact K139.out _ W hxm)
     have HNX : Hid (T2 ++ { data := #[32] } ++ X = S (Tx.pI c r l k (j + 1))) := Lib.hid (by
      rw [hX, HL1.out.1, HL1.out.2.2.2 x, hT2E, HSA.out, HSA.out, Tx.pI_snoc hxr])
     rw [← hX] at hxs
     have s6 : ¬ (9223372036854775807 < T2.size + 1) := by omega
     have s7 : ¬ (9223372036854775807 < T2.size + 1 + X.size) := by omega
     have hixi : (ix : Int) < (n : Int) := by omega
     clear hn hn2 hix hkcE hxr hxm hT2E hX hx hb hxs hsz hbj
     go_wp2_with fail
     refine (KX.out _).mono ?_
     rintro e w8 ⟨rfl, hb8⟩
     have HB8 := Lib.hid (HBI.out.call hb8 rfl)
     clear hb8
     go_wp2_with fail
     rw [HNX.out]
     go_wp2
     go_roundw
     case rel => exact ⟨j + 1, by omega, rfl, by go_num, HB8.out⟩
     case measure => simp [intOf]; omega
    ·obtain rfl : j = c := by omega
     have hji : ¬ ((j : Int) < (j : Int)) := by omega
     obtain ⟨T2, hT2E⟩ : ∃ T, T = S (Tx.pI j r l k j) := ⟨_, rfl⟩
     have s8 : ¬ (9223372036854775807 < T2.size + 1) := by
      rw [← hT2E] at hsz
      omega
     have HNT : Hid (T2 ++ { data := #[10] } = S (Tx.pT j r l (k + 1))) := Lib.hid (by
      rw [hT2E, HL1.out.2.1, HSA.out, Tx.pT_succ])
     rw [← hT2E]
     have hwk := HWK.out
     clear hT2E hbj hsz
     go_wp2_with fail
     rw [HNT.out]
     go_wp2
     go_roundw
     case rel => exact ⟨k + 1, by omega, rfl, by go_num, HBJ.out⟩
     case measure => simp [intOf]; omega
  ·obtain rfl : k = r := by omega
   have HB8 := Lib.hid (HB7.out.call hbr rfl)
   clear hbr
   go_wp2
   go_ret
   exact ⟨rfl, HB8.out⟩
end Go.Proofs.YtdimmlljjmmdbaaGreatDoor
namespace Go.Proofs.YtdimmlljjmmdbaaGreatDoor
open Go.RowKit Go.Shelf
set_option maxHeartbeats 8000000
set_option maxRecDepth 100000
theorem c70_eq (c r : Int) (A B : Option Addr) (n cap cap2 : Nat) (l : List Int) (w : World) (hl : n ≤ 1000000) (H : RdI w A n l) (G : RdI w B n l) :
  Calls Tryz.prog 70 #[.agg #[.int .i64 c, .int .i64 r, .slice A n cap], .agg #[.int .i64 c, .int .i64 r, .slice B n cap2]] w fun en w' => en = .returned (.bool true) ∧ Below w.heap.size w w' := by
 obtain ⟨w0, hW⟩ : ∃ W, W = (w.alloc (Obj.cells #[.int .i64 c, .int .i64 r, .slice A n cap] 24)).alloc (Obj.cells #[.int .i64 c, .int .i64 r, .slice B n cap2] 24) := ⟨_, rfl⟩
 have hT0 : w0.heap[w.heap.size]? = some (.cells #[.int .i64 c, .int .i64 r, .slice A n cap] 24 (0, 0)) := by rw [hW]; exact heap_old (by simp <;> omega) (heap_new (by simp))
 have hT1 : w0.heap[w.heap.size + 1]? = some (.cells #[.int .i64 c, .int .i64 r, .slice B n cap2] 24 (0, 0)) := by rw [hW]; exact heap_new (by simp)
 have hB0 : Below w.heap.size w w0 := by rw [hW]; exact (((Below.refl _ _).alloc (by first | omega | (simp <;> omega)) _).alloc (by first | omega | (simp <;> omega)) _)
 replace H := H.below hB0
 replace G := G.below hB0
 go_enter Tryz.func70, Tryz.ntmps70
 go_wp2_with fail
 rw [← hW]
 clear hW
 have qhT0_0 : w0.cell? ⟨w.heap.size, 0, none⟩ = some (.int .i64 c) := cell_at hT0 rfl
 have qhT0_1 : w0.cell? ⟨w.heap.size, 1, none⟩ = some (.int .i64 r) := cell_at hT0 rfl
 have qhT0_2 : w0.cell? ⟨w.heap.size, 2, none⟩ = some (.slice A n cap) := cell_at hT0 rfl
 have qhT1_0 : w0.cell? ⟨w.heap.size + 1, 0, none⟩ = some (.int .i64 c) := cell_at hT1 rfl
 have qhT1_1 : w0.cell? ⟨w.heap.size + 1, 1, none⟩ = some (.int .i64 r) := cell_at hT1 rfl
 have qhT1_2 : w0.cell? ⟨w.heap.size + 1, 2, none⟩ = some (.slice B n cap2) := cell_at hT1 rfl
 go_wp2_with fail
 refine (c30 A B n n cap cap2 l l _ hl hl H G).mono ?_
 rintro e w1 ⟨rfl, hb⟩
 clear qhT0_0 qhT0_1 qhT0_2 qhT1_0 qhT1_1 qhT1_2
 have hS := hb
 have hB1 := hB0.call hS rfl
 replace hT0 := blkb hT0 hS
 replace hT1 := blkb hT1 hS
 replace H := H.below hS
 replace G := G.below hS
 clear hS hB0
 have qhT0_0 : w1.cell? ⟨w.heap.size, 0, none⟩ = some (.int .i64 c) := cell_at hT0 rfl
 have qhT0_1 : w1.cell? ⟨w.heap.size, 1, none⟩ = some (.int .i64 r) := cell_at hT0 rfl
 have qhT0_2 : w1.cell? ⟨w.heap.size, 2, none⟩ = some (.slice A n cap) := cell_at hT0 rfl
 have qhT1_0 : w1.cell? ⟨w.heap.size + 1, 0, none⟩ = some (.int .i64 c) := cell_at hT1 rfl
 have qhT1_1 : w1.cell? ⟨w.heap.size + 1, 1, none⟩ = some (.int .i64 r) := cell_at hT1 rfl
 have qhT1_2 : w1.cell? ⟨w.heap.size + 1, 2, none⟩ = some (.slice B n cap2) := cell_at hT1 rfl
 clear hb
 have hd : decide (l = l) = true := by simp
 go_wp2
 go_ret
 exact ⟨by simp, hB1⟩
end Go.Proofs.YtdimmlljjmmdbaaGreatDoor
namespace Go.Proofs.YtdimmlljjmmdbaaGreatDoor
open Go.RowKit Go.Shelf
set_option maxHeartbeats 16000000
set_option maxRecDepth 100000
def Pow (w : World) : Prop := ∀ x : Int, 0 ≤ x → x ≤ 1000 → ItoaF tx w x
theorem Pow.below {w W : World} (h : Pow w) (hB : Below w.heap.size w W) : Pow W := fun x h0 h1 => (h x h0 h1).below hB
def MaxL (m : Int) (w : World) : Prop := w.cell? ⟨1, 0, none⟩ = some (.int .i64 m)
theorem MaxL.below {m : Int} {w W : World} (h : MaxL m w) (hB : Below w.heap.size w W) : MaxL m W := (hB.cell (p := ⟨1, 0, none⟩) (cell_lt h)).trans h
namespace Tx
theorem prs_len : ∀ (ls : List (List UInt8)) (st : Gd) (k : Nat), (prs st k ls).1 = zG ∨ (prs st k ls).2.2 = 0
 | [], _, _ => .inl rfl
 | [last], st, k => by
  unfold prs
  split
  ·exact .inl rfl
  ·split
   ·exact .inl rfl
   ·split
    ·exact .inl rfl
    ·exact .inr rfl
 | b :: b2 :: more, st, k => by
  cases h : stepG st k b with
  | none => rw [prs_none h]; exact .inl rfl
  | some st' => rw [prs_some h]; exact prs_len (b2 :: more) st' (k + 1)
theorem parse_len (s : List UInt8) : (parseG s).1.l.length ≤ 1000 := by
 have h : (parseG s).1 = zG ∨ (parseG s).2.2 = 0 := by
  unfold parseG
  split
  ·exact .inl rfl
  ·exact prs_len _ _ _
 rcases h with h | h
 ·rw [h]; decide
 ·obtain ⟨c, r, _, _, hc, hr, g, _, _⟩ := text_parse (s := s) (g := (parseG s).1) (i := (parseG s).2.1) (by rw [← h])
  rw [g.len]
  exact Nat.le_trans (Nat.mul_le_mul hc hr) (by decide)
end Tx
theorem rd_some {w : World} {A : Option Addr} {n : Nat} {l : List Int} (H : RdI w A n l) (h : 0 < n) : ∃ b off, A = some ⟨b, off, none⟩ := by
 obtain ⟨b, off, hA, _⟩ := H.2 h
 exact ⟨b, off, hA⟩
theorem c81g (c r : Nat) (A : Option Addr) (n cap : Nat) (l : List Int) (w : World) (g : Im.Gr c r l) (hc : c ≤ 16) (hr : r ≤ 16) (hcap : n ≤ cap) (H : RdI w A n l) (hp : Pow w) :
  Calls Tryz.prog 81 #[.agg #[.int .i64 c, .int .i64 r, .slice A n cap]] w fun en w' => en = .returned (.tuple #[.string ⟨(Tx.grT c r l).toArray⟩, .int .i64 0]) ∧ Below w.heap.size w w' := by
 have hn : n = c * r := by rw [← H.len, g.len]
 obtain ⟨b, off, rfl⟩ := rd_some H (by rw [hn]; exact Nat.mul_pos g.c1 g.r1)
 have hx : ∀ x ∈ (c : Int) :: (r : Int) :: l, 0 ≤ x ∧ x < 1000 := fun x hx => by
  simp only [List.mem_cons] at hx
  rcases hx with rfl | rfl | hx
  ·omega
  ·omega
  ·have := Tx.gr_range g x hx; omega
 have h := c81w c r b off n cap l tx w g hc hr hcap H (fun x h => hp x (hx x h).1 (by have := (hx x h).2; omega)) (fun x h => Nat.le_trans (Tx.tx_size (hx x h)) (by decide))
 rw [Tx.prT_text] at h
 exact h
theorem c71p (c r : Int) (A : Option Addr) (n cap : Nat) (l : List Int) (w : World) (hl : n ≤ 1000000) (H : RdI w A n l) :
  Calls Tryz.prog 71 #[.agg #[.int .i64 c, .int .i64 r, .slice A n cap]] w fun en w' => ∃ B cb, en = .returned (.agg #[.int .i64 c, .int .i64 r, .slice B n cb]) ∧ RdI w' B n l ∧ Below w.heap.size w w' := by
 refine (c71 c r A n cap l w hl H).mono ?_
 rintro e w' ⟨B, cb, h1, h2, _, _, h3⟩
 exact ⟨B, cb, h1, h2, h3⟩
theorem c20p (c r : Int) (A : Option Addr) (n cap : Nat) (l : List Int) (w : World) (hl : n ≤ 1000000) (H : RdI w A n l) :
  Calls Tryz.prog 20 #[.agg #[.int .i64 c, .int .i64 r, .slice A n cap]] w fun en w' => ∃ B cb, en = .returned (.agg #[.int .i64 c, .int .i64 r, .slice B n cb]) ∧ RdI w' B n l ∧ n ≤ cb ∧ Below w.heap.size w w' := by
 refine (c20 c r A n cap l w hl H).mono ?_
 rintro e w' ⟨B, cb, h1, h2, h4, _, h3⟩
 exact ⟨B, cb, h1, h2, h4, h3⟩
theorem PG.form {w : World} {p : Tx.Gd × Int × Int} {en : Ending} {w' : World} (h : PG w p en w') : ∃ A cap, en = .returned (.tuple #[.agg #[.int .i64 p.1.c, .int .i64 p.1.r, .slice A p.1.l.length cap], .int .i64 p.2.1, .int .i64 p.2.2]) ∧ RdI w' A p.1.l.length p.1.l ∧ p.1.l.length ≤ cap ∧ Below w.heap.size w w' := by
 obtain ⟨A, cap, h1, h2, h3, _, h4⟩ := h
 exact ⟨A, cap, h1, h2, h3, h4⟩
theorem txt_calls (c r : Int) (n : Nat) (l : List Int) (s : ByteArray) (m : Int) (hl : l.length = n) (hn : n ≤ 30) :
  ∃ (E : Int) (T : ByteArray) (pc pr : Int) (pn : Nat) (pl : List Int) (pi pe : Int), pn ≤ 1000 ∧ (E ≠ 0 → T = { data := #[] }) ∧
   (∀ A cap W, n ≤ cap → RdI W A n l → Pow W → Calls Tryz.prog 81 #[.agg #[.int .i64 c, .int .i64 r, .slice A n cap]] W fun en w' => en = .returned (.tuple #[.string T, .int .i64 E]) ∧ Below W.heap.size W w') ∧
   (∀ A cap W, RdI W A n l → Calls Tryz.prog 65 #[.agg #[.int .i64 c, .int .i64 r, .slice A n cap]] W fun en w' => en = .returned (.int .i64 E) ∧ Below W.heap.size W w') ∧
   (E = 0 → ∀ A cap W, RdI W A n l → Calls Tryz.prog 83 #[.agg #[.int .i64 c, .int .i64 r, .slice A n cap]] W fun en w' => en = .returned (.string T) ∧ Below W.heap.size W w') ∧
   (s.size ≤ 1000000 → ∀ W, MaxL m W → Calls Tryz.prog 82 #[.string s] W fun en w' => ∃ A cap, en = .returned (.tuple #[.agg #[.int .i64 pc, .int .i64 pr, .slice A pn cap], .int .i64 pi, .int .i64 pe]) ∧ RdI w' A pn pl ∧ pn ≤ cap ∧ Below W.heap.size W w') ∧
   (s.size ≤ 1000000 → ∀ W, Calls Tryz.prog 84 #[.string s] W fun en w' => ∃ A cap, en = .returned (.tuple #[.agg #[.int .i64 pc, .int .i64 pr, .slice A pn cap], .int .i64 pi, .int .i64 pe]) ∧ RdI w' A pn pl ∧ pn ≤ cap ∧ Below W.heap.size W w') := by
 obtain ⟨p, hp⟩ : ∃ p, p = Tx.parseG s.data.toList := ⟨_, rfl⟩
 have h82 := fun hs (W : World) (h : MaxL m W) => (c82 s m W hs h).mono (fun e w' => PG.form)
 have h84 := fun hs (W : World) => (c84 s W hs).mono (fun e w' => PG.form)
 have hpl := Tx.parse_len s.data.toList
 rw [← hp] at h82 h84 hpl
 by_cases hE : Mo.ground c r l = 0
 ·obtain ⟨c', r', rfl, rfl, hc, hr, g⟩ := Mo.ground_ok hE
  refine ⟨0, ⟨(Tx.grT c' r' l).toArray⟩, p.1.c, p.1.r, p.1.l.length, p.1.l, p.2.1, p.2.2, hpl, fun h => absurd rfl h, fun A cap W h1 h2 h3 => c81g c' r' A n cap l W g hc hr h1 h2 h3, fun A cap W h => ?_, fun _ A cap W h => c83 c' r' A n cap l W g hc hr h, h82, h84⟩
  have := c65 c' r' A n cap l W (by omega) h
  rw [hE] at this
  exact this
 ·refine ⟨Mo.ground c r l, { data := #[] }, p.1.c, p.1.r, p.1.l.length, p.1.l, p.2.1, p.2.2, hpl, fun _ => rfl, fun A cap W _ h2 _ => c81_bad c r A n cap l W (by omega) h2 hE, fun A cap W h => c65 c r A n cap l W (by omega) h, fun h => absurd h hE, h82, h84⟩
end Go.Proofs.YtdimmlljjmmdbaaGreatDoor
/-
 DERIVED: THE SHELF's CONTRACTS AT THIS DUMP, IN PLAIN WORDS (tools/lay-plain.mjs out of 'TryzShelf.lean', which tools/lay-shelf.mjs wrote): THE SAME DECLARATIONS UNDER THE SAME NAMES: 'import', 'namespace', 'open', 'def', 'theorem' AND NOTHING ELSE: no command of the shelf's: FOR A HAND-IN. Each laying: the table of numbers ('.._ren') and one theorem, a field a fact of the dump's own or the kernel's comparison; each contract: ONE APPLICATION.
-/
namespace Go.Proofs
open Go.Shelf
/-- the name of the table of powers of ten -/
def powName : String := (Go.Proofs.YtdimmlljjmmdbaaGreatDoor.Rows.imageTextsRow.laid.map (·.1)).getD 2 default
def Tryz.laysM171_ren : Go.Shelf.Ren := ⟨fun | 171 => 162 | 243 => 178 | 246 => 190 | 283 => 198 | 284 => 199 | 285 => 200 | 286 => 201 | 129 => 207 | 317 => 206 | 318 => 208 | 319 => 209 | 320 => 210 | 337 => 215 | 338 => 216 | n => n, fun | 3 => 3 | 9 => 9 | 2 => 2 | 4 => 4 | 171 => 267 | 0 => 0 | 53 => 256 | 37 => 233 | 5 => 5 | 173 => 270 | 212 => 276 | 51 => 253 | 20 => 20 | 213 => 277 | 46 => 235 | 232 => 285 | 233 => 286 | n => n, fun | 17 => 2 | 18 => 5 | 19 => 6 | n => n⟩
theorem Tryz.laysM171 : Go.Proofs.LaysM.n171 Tryz.prog Tryz.laysM171_ren := {
 mixed := by kernel_rfl
 f129 := Tryz.func207.trans (congrArg some (by kernel_rfl))
 f171 := Tryz.func162.trans (congrArg some (by kernel_rfl))
 f243 := Tryz.func178.trans (congrArg some (by kernel_rfl))
 f246 := Tryz.func190.trans (congrArg some (by kernel_rfl))
 f283 := Tryz.func198.trans (congrArg some (by kernel_rfl))
 f284 := Tryz.func199.trans (congrArg some (by kernel_rfl))
 f285 := Tryz.func200.trans (congrArg some (by kernel_rfl))
 f286 := Tryz.func201.trans (congrArg some (by kernel_rfl))
 f317 := Tryz.func206.trans (congrArg some (by kernel_rfl))
 f318 := Tryz.func208.trans (congrArg some (by kernel_rfl))
 f319 := Tryz.func209.trans (congrArg some (by kernel_rfl))
 f320 := Tryz.func210.trans (congrArg some (by kernel_rfl))
 f337 := Tryz.func215.trans (congrArg some (by kernel_rfl))
 f338 := Tryz.func216.trans (congrArg some (by kernel_rfl))
 t0 := Tryz.underlying0
 a0 := Tryz.isAgg0
 z0 := Tryz.sizeOf0
 v0 := Tryz.zeroValue0
 t2 := Tryz.underlying2
 a2 := Tryz.isAgg2
 z2 := Tryz.sizeOf2
 v2 := Tryz.zeroValue2
 t3 := Tryz.underlying3
 a3 := Tryz.isAgg3
 z3 := Tryz.sizeOf3
 v3 := Tryz.zeroValue3
 t4 := Tryz.underlying4
 a4 := Tryz.isAgg4
 z4 := Tryz.sizeOf4
 v4 := Tryz.zeroValue4
 t5 := Tryz.underlying5
 a5 := Tryz.isAgg5
 z5 := Tryz.sizeOf5
 v5 := Tryz.zeroValue5
 t9 := Tryz.underlying9
 a9 := Tryz.isAgg9
 z9 := Tryz.sizeOf9
 v9 := Tryz.zeroValue9
 t20 := Tryz.underlying20
 a20 := Tryz.isAgg20
 z20 := Tryz.sizeOf20
 v20 := Tryz.zeroValue20
 t37 := Tryz.underlying233
 a37 := Tryz.isAgg233
 z37 := Tryz.sizeOf233
 v37 := Tryz.zeroValue233
 t46 := Tryz.underlying235
 a46 := Tryz.isAgg235
 z46 := Tryz.sizeOf235
 v46 := Tryz.zeroValue235
 t51 := Tryz.underlying253
 a51 := Tryz.isAgg253
 z51 := Tryz.sizeOf253
 v51 := Tryz.zeroValue253
 t53 := Tryz.underlying256
 a53 := Tryz.isAgg256
 z53 := Tryz.sizeOf256
 v53 := Tryz.zeroValue256
 t171 := Tryz.underlying267
 a171 := Tryz.isAgg267
 z171 := Tryz.sizeOf267
 v171 := Tryz.zeroValue267
 t173 := Tryz.underlying270
 a173 := Tryz.isAgg270
 z173 := Tryz.sizeOf270
 v173 := Tryz.zeroValue270
 t212 := Tryz.underlying276
 a212 := Tryz.isAgg276
 z212 := Tryz.sizeOf276
 v212 := Tryz.zeroValue276
 t213 := Tryz.underlying277
 a213 := Tryz.isAgg277
 z213 := Tryz.sizeOf277
 t232 := Tryz.underlying285
 a232 := Tryz.isAgg285
 z232 := Tryz.sizeOf285
 v232 := Tryz.zeroValue285
 t233 := Tryz.underlying286
 a233 := Tryz.isAgg286
 z233 := Tryz.sizeOf286
 v233 := Tryz.zeroValue286
 g17 := by kernel_rfl
 g18 := by kernel_rfl
 g19 := by kernel_rfl
 i0 := by kernel_rfl
 i2 := by kernel_rfl
 i3 := by kernel_rfl
 i4 := by kernel_rfl
 i5 := by kernel_rfl
 i9 := by kernel_rfl
 i20 := by kernel_rfl
 i37 := by kernel_rfl
 i46 := by kernel_rfl
 i51 := by kernel_rfl
 i53 := by kernel_rfl
 i171 := by kernel_rfl
 i173 := by kernel_rfl
 i212 := by kernel_rfl
 i232 := by kernel_rfl
 i233 := by kernel_rfl
 m17 := by kernel_rfl
 m18 := by kernel_rfl
 m19 := by kernel_rfl }
open Go.RowKit Go.Sort Go.Lib in
/-- strconv.Itoa: "Itoa is equivalent to FormatInt(int64(i), 10).": i's DECIMAL NUMERAL ('Lib.itoa': a '-' where i is negative, then the digits), FOR EVERY int. The world behind the call: the world before it, new blocks behind the heap (the library's 'var a [24]byte'), draws. (LAID: no walk: one application.) -/
theorem Tryz.strconv_Itoa (n : Int) (h0 : -9223372036854775808 ≤ n) (h1 : n ≤ 9223372036854775807) (w : World) (htab : Lib.TabIs Tryz.prog w powName .u64 Lib.pow10Tab) :
  Calls Tryz.prog 162 #[.int .i64 n] w fun e w' => e = .returned (.string ⟨(Lib.itoa n).toArray⟩) ∧ ∃ k os, w' = grow (w.drewN k) os := Any.strconv_Itoa Tryz.laysM171 n h0 h1 w htab
end Go.Proofs
/- From the row's tables to what the laws of texts want. -/
namespace Go.Proofs.YtdimmlljjmmdbaaGreatDoor
open Go.ChangeShapes Go.WideShapes Go.ChangeAt Go.RowKit Go.MakeChecks
set_option maxHeartbeats 1000000
set_option maxRecDepth 100000
def laidX : List (String × DataW Unit) := Rows.imageTextsRow.laid
theorem laid_plainX (w : World) (h : laidMetH Tryz.prog laidX w) : laidMet Tryz.prog laidX w := by
 rw [laidMetH_plain Tryz.prog laidX w (by kernel_rfl)] at h
 exact h
theorem steps_ofX (w : World) (h : laidMetH Tryz.prog laidX w) : Steps w := by
 have hl1 := laid_plainX w h
 have hl2 : laidMet Tryz.prog (laidX.drop 4) w := hl1.tail.tail.tail.tail
 obtain ⟨ps, ⟨g', t', cs, fuel, p, q, hg', ht', hvar, hd, _, _⟩, _⟩ := hl2
 have hg0 : some g' = some 0 := Eq.trans hg'.symm (by kernel_rfl)
 have hty : (Tryz.prog.globals[0]?).map (·.type) = some 222 := by kernel_rfl
 obtain rfl := Option.some.inj hg0
 obtain rfl := Option.some.inj (hty.symm.trans ht')
 obtain ⟨xs, m, rfl, hx, hl, hn, hf⟩ := DataW.trod_array Tryz.underlying222 hd
 have hc1 : Tryz.prog.cellsOf 222 = 16 := by kernel_rfl
 have hc2 : Tryz.prog.cellsOf 221 = 2 := by kernel_rfl
 have hc3 : Tryz.prog.cellsOf 3 = 1 := by kernel_rfl
 rw [hc1] at hl
 rw [hc2] at hf
 have hxs : Rows.laid_moveout_image_steps = DataW.agg (xs.map (·.1)) := congrArg Prod.fst hx
 have key : ∀ i, i < 8 → ∃ a b, (cs.toList.drop (i * 2)).take 2 = [.int .i64 a, .int .i64 b] ∧ (xs.map (·.1))[i]? = some (.agg [.lit (.int .i64 a), .lit (.int .i64 b)]) := by
  intro i hi
  have h1 := hf i hi
  have hix : i < xs.length := by omega
  rw [List.getElem?_eq_getElem hix] at h1
  obtain ⟨a, b, e1, e2⟩ := pair_cells Tryz.underlying221 hc3 hc2 h1
  exact ⟨a, b, e1, by rw [List.getElem?_map, List.getElem?_eq_getElem hix]; simp [e2]⟩
 have hlist : xs.map (·.1) = [.agg [.lit (.int .i64 (-1)), .lit (.int .i64 (-1))], .agg [.lit (.int .i64 0), .lit (.int .i64 (-1))], .agg [.lit (.int .i64 1), .lit (.int .i64 (-1))], .agg [.lit (.int .i64 (-1)), .lit (.int .i64 0)], .agg [.lit (.int .i64 1), .lit (.int .i64 0)], .agg [.lit (.int .i64 (-1)), .lit (.int .i64 1)], .agg [.lit (.int .i64 0), .lit (.int .i64 1)], .agg [.lit (.int .i64 1), .lit (.int .i64 1)]] := by
  have := hxs.symm
  unfold Rows.laid_moveout_image_steps at this
  simpa using this
 rw [hlist] at key
 have cell : ∀ i, i < 8 → ∀ j, j < 2 → cs.toList[i * 2 + j]? = (encI stepL)[i * 2 + j]? := by
  intro i hi j hj
  obtain ⟨a, b, e1, e2⟩ := key i hi
  have h1 : cs.toList[i * 2 + j]? = ((cs.toList.drop (i * 2)).take 2)[j]? := by
   rw [List.getElem?_take, if_pos hj, List.getElem?_drop]
  rw [h1, e1]
  have h8 : i = 0 ∨ i = 1 ∨ i = 2 ∨ i = 3 ∨ i = 4 ∨ i = 5 ∨ i = 6 ∨ i = 7 := by omega
  have h2 : j = 0 ∨ j = 1 := by omega
  rcases h8 with rfl | rfl | rfl | rfl | rfl | rfl | rfl | rfl <;> simp at e2 <;> obtain ⟨rfl, rfl⟩ := e2 <;> rcases h2 with rfl | rfl <;> rfl
 have hcell : ∀ k, k < 16 → w.cell? ⟨0, k, none⟩ = (encI stepL)[k]? := by
  intro k hk
  have h1 := World.var?_cell hg' hvar k
  rw [h1]
  have h2 := cell (k / 2) (by omega) (k % 2) (by omega)
  rw [show k / 2 * 2 + k % 2 = k by omega] at h2
  rw [← h2, Array.getElem?_toList]
 refine ⟨rfl, fun _ => ⟨0, 0, rfl, ?_, fun j hj => ?_⟩⟩
 ·have h0 := hcell 0 (by omega)
  have h1 : (encI stepL)[0]? = some (.int .i64 (-1)) := rfl
  rw [h1] at h0
  unfold World.cell? at h0
  by_cases hb : 0 < w.heap.size
  ·exact hb
  ·rw [Array.getElem?_eq_none (Nat.le_of_not_lt hb)] at h0
   simp at h0
 ·rw [Nat.zero_add]
  exact hcell j (by simpa [encI, stepL] using hj)
theorem pow_tab (w : World) (h : laidMetH Tryz.prog laidX w) : Lib.TabIs Tryz.prog w powName .u64 Lib.pow10Tab := by
 have h1 := laid_plainX w h
 have h2 : laidMet Tryz.prog ((powName, Lib.tabData .u64 Lib.pow10Tab) :: laidX.drop 3) w := h1.tail.tail
 exact Lib.tabIs_of_head (g := 2) (t := 276) (e := 256) (n := 20) (by kernel_rfl) (by kernel_rfl) (by kernel_rfl) (by kernel_rfl) (by kernel_rfl) (by kernel_rfl) h2
theorem pow_of (w : World) (h : laidMetH Tryz.prog laidX w) : Pow w := fun x h0 h1 W hW => (Tryz.strconv_Itoa x (by omega) (by omega) W (Lib.tabBelow_of_tabIs (pow_tab w h) W hW)).mono fun e w' ⟨he, k, os, hw⟩ =>
 ⟨by rw [he]; unfold tx Lib.itoa; rw [if_neg (by omega)], by rw [hw]; exact Go.Lib.below_grow _ _ (Nat.le_refl _) _ _⟩
theorem max_len (w : World) (h : w.ShapedOpen Tryz.prog) : ∃ m, MaxL m w :=
 Go.Proofs.cell_of_shapedOpen_int (zero := #[.int .i64 0]) (t := 3) h (of_decide_eq_true (by kernel_rfl)) (by kernel_rfl) rfl (by kernel_rfl) (by kernel_rfl) Tryz.underlying3
end Go.Proofs.YtdimmlljjmmdbaaGreatDoor
namespace Go.Proofs.YtdimmlljjmmdbaaGreatDoor
open Go.RowKit Go.Shelf
set_option maxHeartbeats 16000000
set_option maxRecDepth 100000
theorem l14 (c r : Int) (A : Option Addr) (n cap : Nat) (l : List Int) (s : ByteArray) (m : Int) (w : World) (H : RdI w A n l) (hst : Steps w) (hm : MaxL m w) (hpw : Pow w) :
  Calls Tryz.prog 14 #[.agg #[.int .i64 c, .int .i64 r, .slice A n cap], .string s] w fun en w' => en = .returned (.bool true) ∧ Below w.heap.size w w' := by
 obtain ⟨w0, hW⟩ : ∃ W, W = w.alloc (Obj.cells #[.int .i64 c, .int .i64 r, .slice A n cap] 24) := ⟨_, rfl⟩
 have hT0 : w0.heap[w.heap.size]? = some (.cells #[.int .i64 c, .int .i64 r, .slice A n cap] 24 (0, 0)) := by rw [hW]; exact heap_new (by simp)
 have hB0 : Below w.heap.size w w0 := by rw [hW]; exact ((Below.refl _ _).alloc (by first | omega | (simp <;> omega)) _)
 replace H := H.below hB0
 replace hst := hst.below hB0
 replace hm := hm.below hB0
 replace hpw := hpw.below hB0
 go_enter Tryz.func14, Tryz.ntmps14
 go_wp2_with fail
 rw [← hW]
 clear hW
 have qhT0_0 : w0.cell? ⟨w.heap.size, 0, none⟩ = some (.int .i64 c) := cell_at hT0 rfl
 have qhT0_1 : w0.cell? ⟨w.heap.size, 1, none⟩ = some (.int .i64 r) := cell_at hT0 rfl
 have qhT0_2 : w0.cell? ⟨w.heap.size, 2, none⟩ = some (.slice A n cap) := cell_at hT0 rfl
 go_wp2_with fail
 refine (c16 c r A n cap _).mono ?_
 rintro e w1 ⟨⟨b, rfl, hg1⟩, hb⟩
 clear qhT0_0 qhT0_1 qhT0_2
 have hS := hb
 have hB1 := hB0.call hS rfl
 replace hT0 := blkb hT0 hS
 replace H := H.below hS
 replace hst := hst.below hS
 replace hm := hm.below hS
 replace hpw := hpw.below hS
 clear hS hB0
 have qhT0_0 : w1.cell? ⟨w.heap.size, 0, none⟩ = some (.int .i64 c) := cell_at hT0 rfl
 have qhT0_1 : w1.cell? ⟨w.heap.size, 1, none⟩ = some (.int .i64 r) := cell_at hT0 rfl
 have qhT0_2 : w1.cell? ⟨w.heap.size, 2, none⟩ = some (.slice A n cap) := cell_at hT0 rfl
 clear hb
 have HG1 := Lib.hid hg1
 clear hg1
 cases b
 ·
   go_wp2_with fail
   refine (c18 _ hst).mono ?_
   rintro e wz ⟨rfl, hz⟩
   go_wp2
   go_ret
   exact ⟨rfl, hB1.call hz rfl⟩
 have hn30 : n ≤ 30 := (by first | exact HG1.out rfl | exact HG1.out trivial)
 obtain ⟨E, T, pc, pr, pn, pl, pi, pe, hpn, hET, k81, k65, k83, k82, k84⟩ := txt_calls c r n l s m H.len hn30
 have HET := Lib.hid hET
 have K81 := Lib.hid k81
 have K65 := Lib.hid k65
 have K83 := Lib.hid k83
 have K82 := Lib.hid k82
 have K84 := Lib.hid k84
 have K20 : Hid (∀ A cap W, RdI W A n l → Calls Tryz.prog 20 #[.agg #[.int .i64 c, .int .i64 r, .slice A n cap]] W fun en w' => ∃ B cb, en = .returned (.agg #[.int .i64 c, .int .i64 r, .slice B n cb]) ∧ RdI w' B n l ∧ n ≤ cb ∧ Below W.heap.size W w') := Lib.hid (fun A cap W h => c20p c r A n cap l W (by omega) h)
 have K71 : Hid (∀ A cap W, RdI W A pn pl → Calls Tryz.prog 71 #[.agg #[.int .i64 pc, .int .i64 pr, .slice A pn cap]] W fun en w' => ∃ B cb, en = .returned (.agg #[.int .i64 pc, .int .i64 pr, .slice B pn cb]) ∧ RdI w' B pn pl ∧ Below W.heap.size W w') := Lib.hid (fun A cap W h => c71p pc pr A pn cap pl W (by omega) h)
 have K70 : Hid (∀ A B cap cap2 W, RdI W A pn pl → RdI W B pn pl → Calls Tryz.prog 70 #[.agg #[.int .i64 pc, .int .i64 pr, .slice A pn cap], .agg #[.int .i64 pc, .int .i64 pr, .slice B pn cap2]] W fun en w' => en = .returned (.bool true) ∧ Below W.heap.size W w') := Lib.hid (fun A B cap cap2 W h1 h2 => c70_eq pc pr A B pn cap cap2 pl W (by omega) h1 h2)
 clear hET k81 k65 k83 k82 k84 HG1 hn30 hpn
 by_cases h1 : s.size ≤ 300
 ·
   have hs : s.size ≤ 1000000 := by omega
   have hd1 : decide ((300 : Int) < (s.size : Int)) = false := by simp; omega
   have hd2 : decide (300 < s.size) = false := by simp; omega
   clear h1
   go_wp2_with fail
   refine (K20.out _ _ _ H).mono ?_
   rintro e w2 ⟨B1, cb1, rfl, hr1, hcb1, hb⟩
   clear qhT0_0 qhT0_1 qhT0_2
   have hS := hb
   have hB2 := hB1.call hS rfl
   replace hT0 := blkb hT0 hS
   replace H := H.below hS
   replace hst := hst.below hS
   replace hm := hm.below hS
   replace hpw := hpw.below hS
   clear hS hB1
   have qhT0_0 : w2.cell? ⟨w.heap.size, 0, none⟩ = some (.int .i64 c) := cell_at hT0 rfl
   have qhT0_1 : w2.cell? ⟨w.heap.size, 1, none⟩ = some (.int .i64 r) := cell_at hT0 rfl
   have qhT0_2 : w2.cell? ⟨w.heap.size, 2, none⟩ = some (.slice A n cap) := cell_at hT0 rfl
   clear hb
   go_wp2_with fail
   refine (K81.out _ _ _ hcb1 hr1 hpw).mono ?_
   rintro e w3 ⟨rfl, hb⟩
   clear qhT0_0 qhT0_1 qhT0_2
   have hS := hb
   have hB3 := hB2.call hS rfl
   replace hT0 := blkb hT0 hS
   replace H := H.below hS
   replace hst := hst.below hS
   replace hm := hm.below hS
   replace hpw := hpw.below hS
   replace hr1 := hr1.below hS
   clear hS hB2
   have qhT0_0 : w3.cell? ⟨w.heap.size, 0, none⟩ = some (.int .i64 c) := cell_at hT0 rfl
   have qhT0_1 : w3.cell? ⟨w.heap.size, 1, none⟩ = some (.int .i64 r) := cell_at hT0 rfl
   have qhT0_2 : w3.cell? ⟨w.heap.size, 2, none⟩ = some (.slice A n cap) := cell_at hT0 rfl
   clear hb
   clear hr1
   clear hpw
   clear hcb1
   go_wp2_with fail
   refine (K82.out hs _ hm).mono ?_
   rintro e w4 ⟨X1, xc1, rfl, hX1, hxc1, hb⟩
   clear qhT0_0 qhT0_1 qhT0_2
   have hS := hb
   have hB4 := hB3.call hS rfl
   replace hT0 := blkb hT0 hS
   replace H := H.below hS
   replace hst := hst.below hS
   replace hm := hm.below hS
   clear hS hB3
   have qhT0_0 : w4.cell? ⟨w.heap.size, 0, none⟩ = some (.int .i64 c) := cell_at hT0 rfl
   have qhT0_1 : w4.cell? ⟨w.heap.size, 1, none⟩ = some (.int .i64 r) := cell_at hT0 rfl
   have qhT0_2 : w4.cell? ⟨w.heap.size, 2, none⟩ = some (.slice A n cap) := cell_at hT0 rfl
   clear hb
   have hz : (w4.alloc (Obj.cells #[.int .i64 0, .int .i64 0, .slice none 0 0] 35)).heap[w4.heap.size]? = some (Obj.cells #[.int .i64 0, .int .i64 0, .slice none 0 0] 35) := heap_new rfl
   go_wp2_with (refine wpList_store_blk rfl 35 _ _ rfl w4.heap.size _ rfl rfl hz ?s1 ?s2 ?s3 ?_)
   case s1 => rfl
   case s2 => kernel_rfl
   case s3 => simp [Value.oneCell']
   intro w5 hP1 hg3 hs3
   clear qhT0_0 qhT0_1 qhT0_2
   have hS := ((Below.refl _ _).alloc (Nat.le_refl _) _).grown hg3 (by simp) (fun j hj => by cases hj; exact Nat.le_refl _)
   have hB5 := hB4.call hS rfl
   replace hT0 := blkb hT0 hS
   replace H := H.below hS
   replace hst := hst.below hS
   replace hm := hm.below hS
   replace hX1 := hX1.below hS
   clear hS hB4
   have qhT0_0 : w5.cell? ⟨w.heap.size, 0, none⟩ = some (.int .i64 c) := cell_at hT0 rfl
   have qhT0_1 : w5.cell? ⟨w.heap.size, 1, none⟩ = some (.int .i64 r) := cell_at hT0 rfl
   have qhT0_2 : w5.cell? ⟨w.heap.size, 2, none⟩ = some (.slice A n cap) := cell_at hT0 rfl
   clear hz hg3 hs3
   obtain ⟨bhP1, hbhP1⟩ : ∃ b, b = w4.heap.size := ⟨_, rfl⟩
   rw [← hbhP1] at hP1 ⊢
   clear hbhP1
   have qhP1_0 : w5.cell? ⟨bhP1, 0, none⟩ = some (.int .i64 pc) := cell_at hP1 rfl
   have qhP1_1 : w5.cell? ⟨bhP1, 1, none⟩ = some (.int .i64 pr) := cell_at hP1 rfl
   have qhP1_2 : w5.cell? ⟨bhP1, 2, none⟩ = some (.slice X1 pn xc1) := cell_at hP1 rfl
   go_wp2_with fail
   refine (K65.out _ _ _ H).mono ?_
   rintro e w6 ⟨rfl, hb⟩
   clear qhT0_0 qhT0_1 qhT0_2 qhP1_0 qhP1_1 qhP1_2
   have hS := hb
   have hB6 := hB5.call hS rfl
   replace hT0 := blkb hT0 hS
   replace H := H.below hS
   replace hst := hst.below hS
   replace hm := hm.below hS
   replace hX1 := hX1.below hS
   replace hP1 := blkb hP1 hS
   clear hS hB5
   have qhT0_0 : w6.cell? ⟨w.heap.size, 0, none⟩ = some (.int .i64 c) := cell_at hT0 rfl
   have qhT0_1 : w6.cell? ⟨w.heap.size, 1, none⟩ = some (.int .i64 r) := cell_at hT0 rfl
   have qhT0_2 : w6.cell? ⟨w.heap.size, 2, none⟩ = some (.slice A n cap) := cell_at hT0 rfl
   have qhP1_0 : w6.cell? ⟨bhP1, 0, none⟩ = some (.int .i64 pc) := cell_at hP1 rfl
   have qhP1_1 : w6.cell? ⟨bhP1, 1, none⟩ = some (.int .i64 pr) := cell_at hP1 rfl
   have qhP1_2 : w6.cell? ⟨bhP1, 2, none⟩ = some (.slice X1 pn xc1) := cell_at hP1 rfl
   clear hb
   by_cases hE : E = 0
   ·
     have hEb : (E == 0) = true := by simp [hE]
     have K83E := Lib.hid (K83.out hE)
     clear hE
     go_wp2_with fail
     refine (K83E.out _ _ _ H).mono ?_
     rintro e w7 ⟨rfl, hb⟩
     clear qhT0_0 qhT0_1 qhT0_2 qhP1_0 qhP1_1 qhP1_2
     have hS := hb
     have hB7 := hB6.call hS rfl
     replace hT0 := blkb hT0 hS
     replace H := H.below hS
     replace hst := hst.below hS
     replace hm := hm.below hS
     replace hX1 := hX1.below hS
     replace hP1 := blkb hP1 hS
     clear hS hB6
     have qhT0_0 : w7.cell? ⟨w.heap.size, 0, none⟩ = some (.int .i64 c) := cell_at hT0 rfl
     have qhT0_1 : w7.cell? ⟨w.heap.size, 1, none⟩ = some (.int .i64 r) := cell_at hT0 rfl
     have qhT0_2 : w7.cell? ⟨w.heap.size, 2, none⟩ = some (.slice A n cap) := cell_at hT0 rfl
     have qhP1_0 : w7.cell? ⟨bhP1, 0, none⟩ = some (.int .i64 pc) := cell_at hP1 rfl
     have qhP1_1 : w7.cell? ⟨bhP1, 1, none⟩ = some (.int .i64 pr) := cell_at hP1 rfl
     have qhP1_2 : w7.cell? ⟨bhP1, 2, none⟩ = some (.slice X1 pn xc1) := cell_at hP1 rfl
     clear hb
     go_wp2_with fail
     refine (K84.out hs _).mono ?_
     rintro e w8 ⟨X2, xc2, rfl, hX2, hxc2, hb⟩
     clear qhT0_0 qhT0_1 qhT0_2 qhP1_0 qhP1_1 qhP1_2
     have hS := hb
     have hB8 := hB7.call hS rfl
     replace hT0 := blkb hT0 hS
     replace H := H.below hS
     replace hst := hst.below hS
     replace hm := hm.below hS
     replace hX1 := hX1.below hS
     replace hP1 := blkb hP1 hS
     clear hS hB7
     have qhT0_0 : w8.cell? ⟨w.heap.size, 0, none⟩ = some (.int .i64 c) := cell_at hT0 rfl
     have qhT0_1 : w8.cell? ⟨w.heap.size, 1, none⟩ = some (.int .i64 r) := cell_at hT0 rfl
     have qhT0_2 : w8.cell? ⟨w.heap.size, 2, none⟩ = some (.slice A n cap) := cell_at hT0 rfl
     have qhP1_0 : w8.cell? ⟨bhP1, 0, none⟩ = some (.int .i64 pc) := cell_at hP1 rfl
     have qhP1_1 : w8.cell? ⟨bhP1, 1, none⟩ = some (.int .i64 pr) := cell_at hP1 rfl
     have qhP1_2 : w8.cell? ⟨bhP1, 2, none⟩ = some (.slice X1 pn xc1) := cell_at hP1 rfl
     clear hb
     have hz : (w8.alloc (Obj.cells #[.int .i64 0, .int .i64 0, .slice none 0 0] 24)).heap[w8.heap.size]? = some (Obj.cells #[.int .i64 0, .int .i64 0, .slice none 0 0] 24) := heap_new rfl
     go_wp2_with (refine wpList_store_blk rfl 24 _ _ rfl w8.heap.size _ rfl rfl hz ?s1 ?s2 ?s3 ?_)
     case s1 => rfl
     case s2 => kernel_rfl
     case s3 => simp [Value.oneCell']
     intro w9 hP2 hg3 hs3
     clear qhT0_0 qhT0_1 qhT0_2 qhP1_0 qhP1_1 qhP1_2
     have hS := ((Below.refl _ _).alloc (Nat.le_refl _) _).grown hg3 (by simp) (fun j hj => by cases hj; exact Nat.le_refl _)
     have hB9 := hB8.call hS rfl
     replace hT0 := blkb hT0 hS
     replace H := H.below hS
     replace hst := hst.below hS
     replace hm := hm.below hS
     replace hX1 := hX1.below hS
     replace hP1 := blkb hP1 hS
     replace hX2 := hX2.below hS
     clear hS hB8
     have qhT0_0 : w9.cell? ⟨w.heap.size, 0, none⟩ = some (.int .i64 c) := cell_at hT0 rfl
     have qhT0_1 : w9.cell? ⟨w.heap.size, 1, none⟩ = some (.int .i64 r) := cell_at hT0 rfl
     have qhT0_2 : w9.cell? ⟨w.heap.size, 2, none⟩ = some (.slice A n cap) := cell_at hT0 rfl
     have qhP1_0 : w9.cell? ⟨bhP1, 0, none⟩ = some (.int .i64 pc) := cell_at hP1 rfl
     have qhP1_1 : w9.cell? ⟨bhP1, 1, none⟩ = some (.int .i64 pr) := cell_at hP1 rfl
     have qhP1_2 : w9.cell? ⟨bhP1, 2, none⟩ = some (.slice X1 pn xc1) := cell_at hP1 rfl
     clear hz hg3 hs3
     obtain ⟨bhP2, hbhP2⟩ : ∃ b, b = w8.heap.size := ⟨_, rfl⟩
     rw [← hbhP2] at hP2 ⊢
     clear hbhP2
     have qhP2_0 : w9.cell? ⟨bhP2, 0, none⟩ = some (.int .i64 pc) := cell_at hP2 rfl
     have qhP2_1 : w9.cell? ⟨bhP2, 1, none⟩ = some (.int .i64 pr) := cell_at hP2 rfl
     have qhP2_2 : w9.cell? ⟨bhP2, 2, none⟩ = some (.slice X2 pn xc2) := cell_at hP2 rfl
     go_wp2_with fail
     refine wp_region_plan [(0, true), (1, true), (2, true), (3, true), (4, true), (5, true), (6, true), (7, true), (8, true), (9, true), (11, true), (10, false), (12, false), (13, true), (14, true), (15, true), (16, true), (17, true), (18, true), (19, true), (20, true), (21, true), (22, true), (23, true), (24, true), (25, false), (26, true), (27, true)] w9.heap.size (by kernel_rfl) (by kernel_rfl) (Nat.le_refl _) (fun _ _ d _ _ h => by cases d <;> exact h) ?_
     have hC : Below w9.heap.size w9 w9 := Below.refl _ _
     have zhT0 : w.heap.size < w9.heap.size := (Array.getElem?_eq_some_iff.1 hT0).1
     have zhP1 : bhP1 < w9.heap.size := (Array.getElem?_eq_some_iff.1 hP1).1
     have zhP2 : bhP2 < w9.heap.size := (Array.getElem?_eq_some_iff.1 hP2).1
     repeat (first | (refine wpPlanA_skip _ rfl (by rfl) ?_; simp only [Act.put, List.setIfInBounds_toArray, List.set_cons_zero, List.set_cons_succ]) | (refine wpPlanA_soft _ ?_ rfl (by rfl) ?_ ?_; rotate_left; (intro wq hq hcq; go_simp; first | exact rfl | exact ⟨rfl, rfl⟩); simp only [Act.put, List.setIfInBounds_toArray, List.set_cons_zero, List.set_cons_succ]))
     refine wpPlanA_hard _ rfl (by rfl) (fun w10 hS K hK => ?_)
     go_simp
     refine (K71.out _ _ _ (hX1.below hS)).mono ?_
     rintro e w11 ⟨B9, cb9, rfl, hr9, hb⟩
     replace hS := hS.call hb rfl
     have hB11 := hB9.call hS rfl
     replace hC := hC.call hS rfl
     replace hT0 := blkb hT0 hS
     replace H := H.below hS
     replace hst := hst.below hS
     replace hm := hm.below hS
     replace hX1 := hX1.below hS
     replace hP1 := blkb hP1 hS
     replace hX2 := hX2.below hS
     replace hP2 := blkb hP2 hS
     refine hK _ _ hC ?_
     clear hS hb hB9 hK K
     try simp only [Act.put, List.setIfInBounds_toArray, List.set_cons_zero, List.set_cons_succ]
     repeat (first | (refine wpPlanA_skip _ rfl (by rfl) ?_; simp only [Act.put, List.setIfInBounds_toArray, List.set_cons_zero, List.set_cons_succ]) | (refine wpPlanA_soft _ ?_ rfl (by rfl) ?_ ?_; rotate_left; (intro wq hq hcq; go_simp; first | exact rfl | exact ⟨rfl, rfl⟩); simp only [Act.put, List.setIfInBounds_toArray, List.set_cons_zero, List.set_cons_succ]))
     refine wpPlanA_hard _ rfl (by rfl) (fun w12 hS K hK => ?_)
     go_simp
     refine (K70.out _ _ _ _ _ (hr9.below hS) (hX2.below hS)).mono ?_
     rintro e w13 ⟨rfl, hb⟩
     replace hS := hS.call hb rfl
     have hB13 := hB11.call hS rfl
     replace hC := hC.call hS rfl
     replace hT0 := blkb hT0 hS
     replace H := H.below hS
     replace hst := hst.below hS
     replace hm := hm.below hS
     replace hX1 := hX1.below hS
     replace hP1 := blkb hP1 hS
     replace hX2 := hX2.below hS
     replace hP2 := blkb hP2 hS
     replace hr9 := hr9.below hS
     refine hK _ _ hC ?_
     clear hS hb hB11 hK K
     try simp only [Act.put, List.setIfInBounds_toArray, List.set_cons_zero, List.set_cons_succ]
     repeat (first | (refine wpPlanA_skip _ rfl (by rfl) ?_; simp only [Act.put, List.setIfInBounds_toArray, List.set_cons_zero, List.set_cons_succ]) | (refine wpPlanA_soft _ ?_ rfl (by rfl) ?_ ?_; rotate_left; (intro wq hq hcq; go_simp; first | exact rfl | exact ⟨rfl, rfl⟩); simp only [Act.put, List.setIfInBounds_toArray, List.set_cons_zero, List.set_cons_succ]))
     refine wpPlanA_hard _ rfl (by rfl) (fun w14 hS K hK => ?_)
     go_simp
     refine (c18 _ (hst.below hS)).mono ?_
     rintro e w15 ⟨rfl, hb⟩
     replace hS := hS.call hb rfl
     have hB15 := hB13.call hS rfl
     replace hC := hC.call hS rfl
     replace hT0 := blkb hT0 hS
     replace H := H.below hS
     replace hst := hst.below hS
     replace hm := hm.below hS
     replace hX1 := hX1.below hS
     replace hP1 := blkb hP1 hS
     replace hX2 := hX2.below hS
     replace hP2 := blkb hP2 hS
     replace hr9 := hr9.below hS
     refine hK _ _ hC ?_
     clear hS hb hB13 hK K
     try simp only [Act.put, List.setIfInBounds_toArray, List.set_cons_zero, List.set_cons_succ]
     repeat (first | (refine wpPlanA_skip _ rfl (by rfl) ?_; simp only [Act.put, List.setIfInBounds_toArray, List.set_cons_zero, List.set_cons_succ]) | (refine wpPlanA_soft _ ?_ rfl (by rfl) ?_ ?_; rotate_left; (intro wq hq hcq; go_simp; first | exact rfl | exact ⟨rfl, rfl⟩); simp only [Act.put, List.setIfInBounds_toArray, List.set_cons_zero, List.set_cons_succ]))
     clear qhT0_0 qhT0_1 qhT0_2 qhP1_0 qhP1_1 qhP1_2 qhP2_0 qhP2_1 qhP2_2
     refine wpPlanA_nil (fun w16 hS => ?_)
     clear hC zhT0 zhP1 zhP2
     have hB16 := hB15.call hS rfl
     replace hT0 := blkb hT0 hS
     replace H := H.below hS
     replace hst := hst.below hS
     replace hm := hm.below hS
     replace hX1 := hX1.below hS
     replace hP1 := blkb hP1 hS
     replace hX2 := hX2.below hS
     replace hP2 := blkb hP2 hS
     replace hr9 := hr9.below hS
     clear hS hB15
     have qhT0_0 : w16.cell? ⟨w.heap.size, 0, none⟩ = some (.int .i64 c) := cell_at hT0 rfl
     have qhT0_1 : w16.cell? ⟨w.heap.size, 1, none⟩ = some (.int .i64 r) := cell_at hT0 rfl
     have qhT0_2 : w16.cell? ⟨w.heap.size, 2, none⟩ = some (.slice A n cap) := cell_at hT0 rfl
     have qhP1_0 : w16.cell? ⟨bhP1, 0, none⟩ = some (.int .i64 pc) := cell_at hP1 rfl
     have qhP1_1 : w16.cell? ⟨bhP1, 1, none⟩ = some (.int .i64 pr) := cell_at hP1 rfl
     have qhP1_2 : w16.cell? ⟨bhP1, 2, none⟩ = some (.slice X1 pn xc1) := cell_at hP1 rfl
     have qhP2_0 : w16.cell? ⟨bhP2, 0, none⟩ = some (.int .i64 pc) := cell_at hP2 rfl
     have qhP2_1 : w16.cell? ⟨bhP2, 1, none⟩ = some (.int .i64 pr) := cell_at hP2 rfl
     have qhP2_2 : w16.cell? ⟨bhP2, 2, none⟩ = some (.slice X2 pn xc2) := cell_at hP2 rfl
     go_wp2
     go_ret
     exact ⟨rfl, hB16⟩
   have hEb : (E == 0) = false := by simp [hE]
   obtain rfl := HET.out hE
   clear hE
   go_wp2_with fail
   refine (K84.out hs _).mono ?_
   rintro e w7 ⟨X2, xc2, rfl, hX2, hxc2, hb⟩
   clear qhT0_0 qhT0_1 qhT0_2 qhP1_0 qhP1_1 qhP1_2
   have hS := hb
   have hB7 := hB6.call hS rfl
   replace hT0 := blkb hT0 hS
   replace H := H.below hS
   replace hst := hst.below hS
   replace hm := hm.below hS
   replace hX1 := hX1.below hS
   replace hP1 := blkb hP1 hS
   clear hS hB6
   have qhT0_0 : w7.cell? ⟨w.heap.size, 0, none⟩ = some (.int .i64 c) := cell_at hT0 rfl
   have qhT0_1 : w7.cell? ⟨w.heap.size, 1, none⟩ = some (.int .i64 r) := cell_at hT0 rfl
   have qhT0_2 : w7.cell? ⟨w.heap.size, 2, none⟩ = some (.slice A n cap) := cell_at hT0 rfl
   have qhP1_0 : w7.cell? ⟨bhP1, 0, none⟩ = some (.int .i64 pc) := cell_at hP1 rfl
   have qhP1_1 : w7.cell? ⟨bhP1, 1, none⟩ = some (.int .i64 pr) := cell_at hP1 rfl
   have qhP1_2 : w7.cell? ⟨bhP1, 2, none⟩ = some (.slice X1 pn xc1) := cell_at hP1 rfl
   clear hb
   have hz : (w7.alloc (Obj.cells #[.int .i64 0, .int .i64 0, .slice none 0 0] 24)).heap[w7.heap.size]? = some (Obj.cells #[.int .i64 0, .int .i64 0, .slice none 0 0] 24) := heap_new rfl
   go_wp2_with (refine wpList_store_blk rfl 24 _ _ rfl w7.heap.size _ rfl rfl hz ?s1 ?s2 ?s3 ?_)
   case s1 => rfl
   case s2 => kernel_rfl
   case s3 => simp [Value.oneCell']
   intro w8 hP2 hg3 hs3
   clear qhT0_0 qhT0_1 qhT0_2 qhP1_0 qhP1_1 qhP1_2
   have hS := ((Below.refl _ _).alloc (Nat.le_refl _) _).grown hg3 (by simp) (fun j hj => by cases hj; exact Nat.le_refl _)
   have hB8 := hB7.call hS rfl
   replace hT0 := blkb hT0 hS
   replace H := H.below hS
   replace hst := hst.below hS
   replace hm := hm.below hS
   replace hX1 := hX1.below hS
   replace hP1 := blkb hP1 hS
   replace hX2 := hX2.below hS
   clear hS hB7
   have qhT0_0 : w8.cell? ⟨w.heap.size, 0, none⟩ = some (.int .i64 c) := cell_at hT0 rfl
   have qhT0_1 : w8.cell? ⟨w.heap.size, 1, none⟩ = some (.int .i64 r) := cell_at hT0 rfl
   have qhT0_2 : w8.cell? ⟨w.heap.size, 2, none⟩ = some (.slice A n cap) := cell_at hT0 rfl
   have qhP1_0 : w8.cell? ⟨bhP1, 0, none⟩ = some (.int .i64 pc) := cell_at hP1 rfl
   have qhP1_1 : w8.cell? ⟨bhP1, 1, none⟩ = some (.int .i64 pr) := cell_at hP1 rfl
   have qhP1_2 : w8.cell? ⟨bhP1, 2, none⟩ = some (.slice X1 pn xc1) := cell_at hP1 rfl
   clear hz hg3 hs3
   obtain ⟨bhP2, hbhP2⟩ : ∃ b, b = w7.heap.size := ⟨_, rfl⟩
   rw [← hbhP2] at hP2 ⊢
   clear hbhP2
   have qhP2_0 : w8.cell? ⟨bhP2, 0, none⟩ = some (.int .i64 pc) := cell_at hP2 rfl
   have qhP2_1 : w8.cell? ⟨bhP2, 1, none⟩ = some (.int .i64 pr) := cell_at hP2 rfl
   have qhP2_2 : w8.cell? ⟨bhP2, 2, none⟩ = some (.slice X2 pn xc2) := cell_at hP2 rfl
   go_wp2_with fail
   refine wp_region_plan [(0, true), (1, true), (2, true), (3, true), (4, true), (5, true), (6, true), (7, true), (8, true), (9, true), (11, true), (10, false), (12, false), (13, true), (14, true), (15, true), (16, true), (17, true), (18, true), (19, true), (20, true), (21, true), (22, true), (23, true), (24, true), (25, false), (26, true), (27, true)] w8.heap.size (by kernel_rfl) (by kernel_rfl) (Nat.le_refl _) (fun _ _ d _ _ h => by cases d <;> exact h) ?_
   have hC : Below w8.heap.size w8 w8 := Below.refl _ _
   have zhT0 : w.heap.size < w8.heap.size := (Array.getElem?_eq_some_iff.1 hT0).1
   have zhP1 : bhP1 < w8.heap.size := (Array.getElem?_eq_some_iff.1 hP1).1
   have zhP2 : bhP2 < w8.heap.size := (Array.getElem?_eq_some_iff.1 hP2).1
   repeat (first | (refine wpPlanA_skip _ rfl (by rfl) ?_; simp only [Act.put, List.setIfInBounds_toArray, List.set_cons_zero, List.set_cons_succ]) | (refine wpPlanA_soft _ ?_ rfl (by rfl) ?_ ?_; rotate_left; (intro wq hq hcq; go_simp; first | exact rfl | exact ⟨rfl, rfl⟩); simp only [Act.put, List.setIfInBounds_toArray, List.set_cons_zero, List.set_cons_succ]))
   refine wpPlanA_hard _ rfl (by rfl) (fun w9 hS K hK => ?_)
   go_simp
   refine (K71.out _ _ _ (hX1.below hS)).mono ?_
   rintro e w10 ⟨B9, cb9, rfl, hr9, hb⟩
   replace hS := hS.call hb rfl
   have hB10 := hB8.call hS rfl
   replace hC := hC.call hS rfl
   replace hT0 := blkb hT0 hS
   replace H := H.below hS
   replace hst := hst.below hS
   replace hm := hm.below hS
   replace hX1 := hX1.below hS
   replace hP1 := blkb hP1 hS
   replace hX2 := hX2.below hS
   replace hP2 := blkb hP2 hS
   refine hK _ _ hC ?_
   clear hS hb hB8 hK K
   try simp only [Act.put, List.setIfInBounds_toArray, List.set_cons_zero, List.set_cons_succ]
   repeat (first | (refine wpPlanA_skip _ rfl (by rfl) ?_; simp only [Act.put, List.setIfInBounds_toArray, List.set_cons_zero, List.set_cons_succ]) | (refine wpPlanA_soft _ ?_ rfl (by rfl) ?_ ?_; rotate_left; (intro wq hq hcq; go_simp; first | exact rfl | exact ⟨rfl, rfl⟩); simp only [Act.put, List.setIfInBounds_toArray, List.set_cons_zero, List.set_cons_succ]))
   refine wpPlanA_hard _ rfl (by rfl) (fun w11 hS K hK => ?_)
   go_simp
   refine (K70.out _ _ _ _ _ (hr9.below hS) (hX2.below hS)).mono ?_
   rintro e w12 ⟨rfl, hb⟩
   replace hS := hS.call hb rfl
   have hB12 := hB10.call hS rfl
   replace hC := hC.call hS rfl
   replace hT0 := blkb hT0 hS
   replace H := H.below hS
   replace hst := hst.below hS
   replace hm := hm.below hS
   replace hX1 := hX1.below hS
   replace hP1 := blkb hP1 hS
   replace hX2 := hX2.below hS
   replace hP2 := blkb hP2 hS
   replace hr9 := hr9.below hS
   refine hK _ _ hC ?_
   clear hS hb hB10 hK K
   try simp only [Act.put, List.setIfInBounds_toArray, List.set_cons_zero, List.set_cons_succ]
   repeat (first | (refine wpPlanA_skip _ rfl (by rfl) ?_; simp only [Act.put, List.setIfInBounds_toArray, List.set_cons_zero, List.set_cons_succ]) | (refine wpPlanA_soft _ ?_ rfl (by rfl) ?_ ?_; rotate_left; (intro wq hq hcq; go_simp; first | exact rfl | exact ⟨rfl, rfl⟩); simp only [Act.put, List.setIfInBounds_toArray, List.set_cons_zero, List.set_cons_succ]))
   refine wpPlanA_hard _ rfl (by rfl) (fun w13 hS K hK => ?_)
   go_simp
   refine (c18 _ (hst.below hS)).mono ?_
   rintro e w14 ⟨rfl, hb⟩
   replace hS := hS.call hb rfl
   have hB14 := hB12.call hS rfl
   replace hC := hC.call hS rfl
   replace hT0 := blkb hT0 hS
   replace H := H.below hS
   replace hst := hst.below hS
   replace hm := hm.below hS
   replace hX1 := hX1.below hS
   replace hP1 := blkb hP1 hS
   replace hX2 := hX2.below hS
   replace hP2 := blkb hP2 hS
   replace hr9 := hr9.below hS
   refine hK _ _ hC ?_
   clear hS hb hB12 hK K
   try simp only [Act.put, List.setIfInBounds_toArray, List.set_cons_zero, List.set_cons_succ]
   repeat (first | (refine wpPlanA_skip _ rfl (by rfl) ?_; simp only [Act.put, List.setIfInBounds_toArray, List.set_cons_zero, List.set_cons_succ]) | (refine wpPlanA_soft _ ?_ rfl (by rfl) ?_ ?_; rotate_left; (intro wq hq hcq; go_simp; first | exact rfl | exact ⟨rfl, rfl⟩); simp only [Act.put, List.setIfInBounds_toArray, List.set_cons_zero, List.set_cons_succ]))
   clear qhT0_0 qhT0_1 qhT0_2 qhP1_0 qhP1_1 qhP1_2 qhP2_0 qhP2_1 qhP2_2
   refine wpPlanA_nil (fun w15 hS => ?_)
   clear hC zhT0 zhP1 zhP2
   have hB15 := hB14.call hS rfl
   replace hT0 := blkb hT0 hS
   replace H := H.below hS
   replace hst := hst.below hS
   replace hm := hm.below hS
   replace hX1 := hX1.below hS
   replace hP1 := blkb hP1 hS
   replace hX2 := hX2.below hS
   replace hP2 := blkb hP2 hS
   replace hr9 := hr9.below hS
   clear hS hB14
   have qhT0_0 : w15.cell? ⟨w.heap.size, 0, none⟩ = some (.int .i64 c) := cell_at hT0 rfl
   have qhT0_1 : w15.cell? ⟨w.heap.size, 1, none⟩ = some (.int .i64 r) := cell_at hT0 rfl
   have qhT0_2 : w15.cell? ⟨w.heap.size, 2, none⟩ = some (.slice A n cap) := cell_at hT0 rfl
   have qhP1_0 : w15.cell? ⟨bhP1, 0, none⟩ = some (.int .i64 pc) := cell_at hP1 rfl
   have qhP1_1 : w15.cell? ⟨bhP1, 1, none⟩ = some (.int .i64 pr) := cell_at hP1 rfl
   have qhP1_2 : w15.cell? ⟨bhP1, 2, none⟩ = some (.slice X1 pn xc1) := cell_at hP1 rfl
   have qhP2_0 : w15.cell? ⟨bhP2, 0, none⟩ = some (.int .i64 pc) := cell_at hP2 rfl
   have qhP2_1 : w15.cell? ⟨bhP2, 1, none⟩ = some (.int .i64 pr) := cell_at hP2 rfl
   have qhP2_2 : w15.cell? ⟨bhP2, 2, none⟩ = some (.slice X2 pn xc2) := cell_at hP2 rfl
   go_wp2
   go_ret
   exact ⟨rfl, hB15⟩
 have hd1 : decide ((300 : Int) < (s.size : Int)) = true := by simp; omega
 have hd2 : decide (300 < s.size) = true := by simp; omega
 clear h1
 by_cases h2 : s.size = 4097
 ·
   have hs : s.size ≤ 1000000 := by omega
   have hd3 : ((s.size : Int) != 4097) = false := by simp; omega
   clear h2
   go_wp2_with fail
   refine (K20.out _ _ _ H).mono ?_
   rintro e w2 ⟨B1, cb1, rfl, hr1, hcb1, hb⟩
   clear qhT0_0 qhT0_1 qhT0_2
   have hS := hb
   have hB2 := hB1.call hS rfl
   replace hT0 := blkb hT0 hS
   replace H := H.below hS
   replace hst := hst.below hS
   replace hm := hm.below hS
   replace hpw := hpw.below hS
   clear hS hB1
   have qhT0_0 : w2.cell? ⟨w.heap.size, 0, none⟩ = some (.int .i64 c) := cell_at hT0 rfl
   have qhT0_1 : w2.cell? ⟨w.heap.size, 1, none⟩ = some (.int .i64 r) := cell_at hT0 rfl
   have qhT0_2 : w2.cell? ⟨w.heap.size, 2, none⟩ = some (.slice A n cap) := cell_at hT0 rfl
   clear hb
   go_wp2_with fail
   refine (K81.out _ _ _ hcb1 hr1 hpw).mono ?_
   rintro e w3 ⟨rfl, hb⟩
   clear qhT0_0 qhT0_1 qhT0_2
   have hS := hb
   have hB3 := hB2.call hS rfl
   replace hT0 := blkb hT0 hS
   replace H := H.below hS
   replace hst := hst.below hS
   replace hm := hm.below hS
   replace hpw := hpw.below hS
   replace hr1 := hr1.below hS
   clear hS hB2
   have qhT0_0 : w3.cell? ⟨w.heap.size, 0, none⟩ = some (.int .i64 c) := cell_at hT0 rfl
   have qhT0_1 : w3.cell? ⟨w.heap.size, 1, none⟩ = some (.int .i64 r) := cell_at hT0 rfl
   have qhT0_2 : w3.cell? ⟨w.heap.size, 2, none⟩ = some (.slice A n cap) := cell_at hT0 rfl
   clear hb
   clear hr1
   clear hpw
   clear hcb1
   go_wp2_with fail
   refine (K82.out hs _ hm).mono ?_
   rintro e w4 ⟨X1, xc1, rfl, hX1, hxc1, hb⟩
   clear qhT0_0 qhT0_1 qhT0_2
   have hS := hb
   have hB4 := hB3.call hS rfl
   replace hT0 := blkb hT0 hS
   replace H := H.below hS
   replace hst := hst.below hS
   replace hm := hm.below hS
   clear hS hB3
   have qhT0_0 : w4.cell? ⟨w.heap.size, 0, none⟩ = some (.int .i64 c) := cell_at hT0 rfl
   have qhT0_1 : w4.cell? ⟨w.heap.size, 1, none⟩ = some (.int .i64 r) := cell_at hT0 rfl
   have qhT0_2 : w4.cell? ⟨w.heap.size, 2, none⟩ = some (.slice A n cap) := cell_at hT0 rfl
   clear hb
   have hz : (w4.alloc (Obj.cells #[.int .i64 0, .int .i64 0, .slice none 0 0] 35)).heap[w4.heap.size]? = some (Obj.cells #[.int .i64 0, .int .i64 0, .slice none 0 0] 35) := heap_new rfl
   go_wp2_with (refine wpList_store_blk rfl 35 _ _ rfl w4.heap.size _ rfl rfl hz ?s1 ?s2 ?s3 ?_)
   case s1 => rfl
   case s2 => kernel_rfl
   case s3 => simp [Value.oneCell']
   intro w5 hP1 hg3 hs3
   clear qhT0_0 qhT0_1 qhT0_2
   have hS := ((Below.refl _ _).alloc (Nat.le_refl _) _).grown hg3 (by simp) (fun j hj => by cases hj; exact Nat.le_refl _)
   have hB5 := hB4.call hS rfl
   replace hT0 := blkb hT0 hS
   replace H := H.below hS
   replace hst := hst.below hS
   replace hm := hm.below hS
   replace hX1 := hX1.below hS
   clear hS hB4
   have qhT0_0 : w5.cell? ⟨w.heap.size, 0, none⟩ = some (.int .i64 c) := cell_at hT0 rfl
   have qhT0_1 : w5.cell? ⟨w.heap.size, 1, none⟩ = some (.int .i64 r) := cell_at hT0 rfl
   have qhT0_2 : w5.cell? ⟨w.heap.size, 2, none⟩ = some (.slice A n cap) := cell_at hT0 rfl
   clear hz hg3 hs3
   obtain ⟨bhP1, hbhP1⟩ : ∃ b, b = w4.heap.size := ⟨_, rfl⟩
   rw [← hbhP1] at hP1 ⊢
   clear hbhP1
   have qhP1_0 : w5.cell? ⟨bhP1, 0, none⟩ = some (.int .i64 pc) := cell_at hP1 rfl
   have qhP1_1 : w5.cell? ⟨bhP1, 1, none⟩ = some (.int .i64 pr) := cell_at hP1 rfl
   have qhP1_2 : w5.cell? ⟨bhP1, 2, none⟩ = some (.slice X1 pn xc1) := cell_at hP1 rfl
   go_wp2_with fail
   refine (K65.out _ _ _ H).mono ?_
   rintro e w6 ⟨rfl, hb⟩
   clear qhT0_0 qhT0_1 qhT0_2 qhP1_0 qhP1_1 qhP1_2
   have hS := hb
   have hB6 := hB5.call hS rfl
   replace hT0 := blkb hT0 hS
   replace H := H.below hS
   replace hst := hst.below hS
   replace hm := hm.below hS
   replace hX1 := hX1.below hS
   replace hP1 := blkb hP1 hS
   clear hS hB5
   have qhT0_0 : w6.cell? ⟨w.heap.size, 0, none⟩ = some (.int .i64 c) := cell_at hT0 rfl
   have qhT0_1 : w6.cell? ⟨w.heap.size, 1, none⟩ = some (.int .i64 r) := cell_at hT0 rfl
   have qhT0_2 : w6.cell? ⟨w.heap.size, 2, none⟩ = some (.slice A n cap) := cell_at hT0 rfl
   have qhP1_0 : w6.cell? ⟨bhP1, 0, none⟩ = some (.int .i64 pc) := cell_at hP1 rfl
   have qhP1_1 : w6.cell? ⟨bhP1, 1, none⟩ = some (.int .i64 pr) := cell_at hP1 rfl
   have qhP1_2 : w6.cell? ⟨bhP1, 2, none⟩ = some (.slice X1 pn xc1) := cell_at hP1 rfl
   clear hb
   by_cases hE : E = 0
   ·
     have hEb : (E == 0) = true := by simp [hE]
     have K83E := Lib.hid (K83.out hE)
     clear hE
     go_wp2_with fail
     refine (K83E.out _ _ _ H).mono ?_
     rintro e w7 ⟨rfl, hb⟩
     clear qhT0_0 qhT0_1 qhT0_2 qhP1_0 qhP1_1 qhP1_2
     have hS := hb
     have hB7 := hB6.call hS rfl
     replace hT0 := blkb hT0 hS
     replace H := H.below hS
     replace hst := hst.below hS
     replace hm := hm.below hS
     replace hX1 := hX1.below hS
     replace hP1 := blkb hP1 hS
     clear hS hB6
     have qhT0_0 : w7.cell? ⟨w.heap.size, 0, none⟩ = some (.int .i64 c) := cell_at hT0 rfl
     have qhT0_1 : w7.cell? ⟨w.heap.size, 1, none⟩ = some (.int .i64 r) := cell_at hT0 rfl
     have qhT0_2 : w7.cell? ⟨w.heap.size, 2, none⟩ = some (.slice A n cap) := cell_at hT0 rfl
     have qhP1_0 : w7.cell? ⟨bhP1, 0, none⟩ = some (.int .i64 pc) := cell_at hP1 rfl
     have qhP1_1 : w7.cell? ⟨bhP1, 1, none⟩ = some (.int .i64 pr) := cell_at hP1 rfl
     have qhP1_2 : w7.cell? ⟨bhP1, 2, none⟩ = some (.slice X1 pn xc1) := cell_at hP1 rfl
     clear hb
     go_wp2_with fail
     refine (K84.out hs _).mono ?_
     rintro e w8 ⟨X2, xc2, rfl, hX2, hxc2, hb⟩
     clear qhT0_0 qhT0_1 qhT0_2 qhP1_0 qhP1_1 qhP1_2
     have hS := hb
     have hB8 := hB7.call hS rfl
     replace hT0 := blkb hT0 hS
     replace H := H.below hS
     replace hst := hst.below hS
     replace hm := hm.below hS
     replace hX1 := hX1.below hS
     replace hP1 := blkb hP1 hS
     clear hS hB7
     have qhT0_0 : w8.cell? ⟨w.heap.size, 0, none⟩ = some (.int .i64 c) := cell_at hT0 rfl
     have qhT0_1 : w8.cell? ⟨w.heap.size, 1, none⟩ = some (.int .i64 r) := cell_at hT0 rfl
     have qhT0_2 : w8.cell? ⟨w.heap.size, 2, none⟩ = some (.slice A n cap) := cell_at hT0 rfl
     have qhP1_0 : w8.cell? ⟨bhP1, 0, none⟩ = some (.int .i64 pc) := cell_at hP1 rfl
     have qhP1_1 : w8.cell? ⟨bhP1, 1, none⟩ = some (.int .i64 pr) := cell_at hP1 rfl
     have qhP1_2 : w8.cell? ⟨bhP1, 2, none⟩ = some (.slice X1 pn xc1) := cell_at hP1 rfl
     clear hb
     have hz : (w8.alloc (Obj.cells #[.int .i64 0, .int .i64 0, .slice none 0 0] 24)).heap[w8.heap.size]? = some (Obj.cells #[.int .i64 0, .int .i64 0, .slice none 0 0] 24) := heap_new rfl
     go_wp2_with (refine wpList_store_blk rfl 24 _ _ rfl w8.heap.size _ rfl rfl hz ?s1 ?s2 ?s3 ?_)
     case s1 => rfl
     case s2 => kernel_rfl
     case s3 => simp [Value.oneCell']
     intro w9 hP2 hg3 hs3
     clear qhT0_0 qhT0_1 qhT0_2 qhP1_0 qhP1_1 qhP1_2
     have hS := ((Below.refl _ _).alloc (Nat.le_refl _) _).grown hg3 (by simp) (fun j hj => by cases hj; exact Nat.le_refl _)
     have hB9 := hB8.call hS rfl
     replace hT0 := blkb hT0 hS
     replace H := H.below hS
     replace hst := hst.below hS
     replace hm := hm.below hS
     replace hX1 := hX1.below hS
     replace hP1 := blkb hP1 hS
     replace hX2 := hX2.below hS
     clear hS hB8
     have qhT0_0 : w9.cell? ⟨w.heap.size, 0, none⟩ = some (.int .i64 c) := cell_at hT0 rfl
     have qhT0_1 : w9.cell? ⟨w.heap.size, 1, none⟩ = some (.int .i64 r) := cell_at hT0 rfl
     have qhT0_2 : w9.cell? ⟨w.heap.size, 2, none⟩ = some (.slice A n cap) := cell_at hT0 rfl
     have qhP1_0 : w9.cell? ⟨bhP1, 0, none⟩ = some (.int .i64 pc) := cell_at hP1 rfl
     have qhP1_1 : w9.cell? ⟨bhP1, 1, none⟩ = some (.int .i64 pr) := cell_at hP1 rfl
     have qhP1_2 : w9.cell? ⟨bhP1, 2, none⟩ = some (.slice X1 pn xc1) := cell_at hP1 rfl
     clear hz hg3 hs3
     obtain ⟨bhP2, hbhP2⟩ : ∃ b, b = w8.heap.size := ⟨_, rfl⟩
     rw [← hbhP2] at hP2 ⊢
     clear hbhP2
     have qhP2_0 : w9.cell? ⟨bhP2, 0, none⟩ = some (.int .i64 pc) := cell_at hP2 rfl
     have qhP2_1 : w9.cell? ⟨bhP2, 1, none⟩ = some (.int .i64 pr) := cell_at hP2 rfl
     have qhP2_2 : w9.cell? ⟨bhP2, 2, none⟩ = some (.slice X2 pn xc2) := cell_at hP2 rfl
     go_wp2_with fail
     refine wp_region_plan [(0, true), (1, true), (2, true), (3, true), (4, true), (5, true), (6, true), (7, true), (8, true), (9, true), (11, true), (10, false), (12, false), (13, true), (14, true), (15, true), (16, true), (17, true), (18, true), (19, true), (20, true), (21, true), (22, true), (23, true), (24, true), (25, false), (26, true), (27, true)] w9.heap.size (by kernel_rfl) (by kernel_rfl) (Nat.le_refl _) (fun _ _ d _ _ h => by cases d <;> exact h) ?_
     have hC : Below w9.heap.size w9 w9 := Below.refl _ _
     have zhT0 : w.heap.size < w9.heap.size := (Array.getElem?_eq_some_iff.1 hT0).1
     have zhP1 : bhP1 < w9.heap.size := (Array.getElem?_eq_some_iff.1 hP1).1
     have zhP2 : bhP2 < w9.heap.size := (Array.getElem?_eq_some_iff.1 hP2).1
     repeat (first | (refine wpPlanA_skip _ rfl (by rfl) ?_; simp only [Act.put, List.setIfInBounds_toArray, List.set_cons_zero, List.set_cons_succ]) | (refine wpPlanA_soft _ ?_ rfl (by rfl) ?_ ?_; rotate_left; (intro wq hq hcq; go_simp; first | exact rfl | exact ⟨rfl, rfl⟩); simp only [Act.put, List.setIfInBounds_toArray, List.set_cons_zero, List.set_cons_succ]))
     refine wpPlanA_hard _ rfl (by rfl) (fun w10 hS K hK => ?_)
     go_simp
     refine (K71.out _ _ _ (hX1.below hS)).mono ?_
     rintro e w11 ⟨B9, cb9, rfl, hr9, hb⟩
     replace hS := hS.call hb rfl
     have hB11 := hB9.call hS rfl
     replace hC := hC.call hS rfl
     replace hT0 := blkb hT0 hS
     replace H := H.below hS
     replace hst := hst.below hS
     replace hm := hm.below hS
     replace hX1 := hX1.below hS
     replace hP1 := blkb hP1 hS
     replace hX2 := hX2.below hS
     replace hP2 := blkb hP2 hS
     refine hK _ _ hC ?_
     clear hS hb hB9 hK K
     try simp only [Act.put, List.setIfInBounds_toArray, List.set_cons_zero, List.set_cons_succ]
     repeat (first | (refine wpPlanA_skip _ rfl (by rfl) ?_; simp only [Act.put, List.setIfInBounds_toArray, List.set_cons_zero, List.set_cons_succ]) | (refine wpPlanA_soft _ ?_ rfl (by rfl) ?_ ?_; rotate_left; (intro wq hq hcq; go_simp; first | exact rfl | exact ⟨rfl, rfl⟩); simp only [Act.put, List.setIfInBounds_toArray, List.set_cons_zero, List.set_cons_succ]))
     refine wpPlanA_hard _ rfl (by rfl) (fun w12 hS K hK => ?_)
     go_simp
     refine (K70.out _ _ _ _ _ (hr9.below hS) (hX2.below hS)).mono ?_
     rintro e w13 ⟨rfl, hb⟩
     replace hS := hS.call hb rfl
     have hB13 := hB11.call hS rfl
     replace hC := hC.call hS rfl
     replace hT0 := blkb hT0 hS
     replace H := H.below hS
     replace hst := hst.below hS
     replace hm := hm.below hS
     replace hX1 := hX1.below hS
     replace hP1 := blkb hP1 hS
     replace hX2 := hX2.below hS
     replace hP2 := blkb hP2 hS
     replace hr9 := hr9.below hS
     refine hK _ _ hC ?_
     clear hS hb hB11 hK K
     try simp only [Act.put, List.setIfInBounds_toArray, List.set_cons_zero, List.set_cons_succ]
     repeat (first | (refine wpPlanA_skip _ rfl (by rfl) ?_; simp only [Act.put, List.setIfInBounds_toArray, List.set_cons_zero, List.set_cons_succ]) | (refine wpPlanA_soft _ ?_ rfl (by rfl) ?_ ?_; rotate_left; (intro wq hq hcq; go_simp; first | exact rfl | exact ⟨rfl, rfl⟩); simp only [Act.put, List.setIfInBounds_toArray, List.set_cons_zero, List.set_cons_succ]))
     refine wpPlanA_hard _ rfl (by rfl) (fun w14 hS K hK => ?_)
     go_simp
     refine (c18 _ (hst.below hS)).mono ?_
     rintro e w15 ⟨rfl, hb⟩
     replace hS := hS.call hb rfl
     have hB15 := hB13.call hS rfl
     replace hC := hC.call hS rfl
     replace hT0 := blkb hT0 hS
     replace H := H.below hS
     replace hst := hst.below hS
     replace hm := hm.below hS
     replace hX1 := hX1.below hS
     replace hP1 := blkb hP1 hS
     replace hX2 := hX2.below hS
     replace hP2 := blkb hP2 hS
     replace hr9 := hr9.below hS
     refine hK _ _ hC ?_
     clear hS hb hB13 hK K
     try simp only [Act.put, List.setIfInBounds_toArray, List.set_cons_zero, List.set_cons_succ]
     repeat (first | (refine wpPlanA_skip _ rfl (by rfl) ?_; simp only [Act.put, List.setIfInBounds_toArray, List.set_cons_zero, List.set_cons_succ]) | (refine wpPlanA_soft _ ?_ rfl (by rfl) ?_ ?_; rotate_left; (intro wq hq hcq; go_simp; first | exact rfl | exact ⟨rfl, rfl⟩); simp only [Act.put, List.setIfInBounds_toArray, List.set_cons_zero, List.set_cons_succ]))
     clear qhT0_0 qhT0_1 qhT0_2 qhP1_0 qhP1_1 qhP1_2 qhP2_0 qhP2_1 qhP2_2
     refine wpPlanA_nil (fun w16 hS => ?_)
     clear hC zhT0 zhP1 zhP2
     have hB16 := hB15.call hS rfl
     replace hT0 := blkb hT0 hS
     replace H := H.below hS
     replace hst := hst.below hS
     replace hm := hm.below hS
     replace hX1 := hX1.below hS
     replace hP1 := blkb hP1 hS
     replace hX2 := hX2.below hS
     replace hP2 := blkb hP2 hS
     replace hr9 := hr9.below hS
     clear hS hB15
     have qhT0_0 : w16.cell? ⟨w.heap.size, 0, none⟩ = some (.int .i64 c) := cell_at hT0 rfl
     have qhT0_1 : w16.cell? ⟨w.heap.size, 1, none⟩ = some (.int .i64 r) := cell_at hT0 rfl
     have qhT0_2 : w16.cell? ⟨w.heap.size, 2, none⟩ = some (.slice A n cap) := cell_at hT0 rfl
     have qhP1_0 : w16.cell? ⟨bhP1, 0, none⟩ = some (.int .i64 pc) := cell_at hP1 rfl
     have qhP1_1 : w16.cell? ⟨bhP1, 1, none⟩ = some (.int .i64 pr) := cell_at hP1 rfl
     have qhP1_2 : w16.cell? ⟨bhP1, 2, none⟩ = some (.slice X1 pn xc1) := cell_at hP1 rfl
     have qhP2_0 : w16.cell? ⟨bhP2, 0, none⟩ = some (.int .i64 pc) := cell_at hP2 rfl
     have qhP2_1 : w16.cell? ⟨bhP2, 1, none⟩ = some (.int .i64 pr) := cell_at hP2 rfl
     have qhP2_2 : w16.cell? ⟨bhP2, 2, none⟩ = some (.slice X2 pn xc2) := cell_at hP2 rfl
     go_wp2
     go_ret
     exact ⟨rfl, hB16⟩
   have hEb : (E == 0) = false := by simp [hE]
   obtain rfl := HET.out hE
   clear hE
   go_wp2_with fail
   refine (K84.out hs _).mono ?_
   rintro e w7 ⟨X2, xc2, rfl, hX2, hxc2, hb⟩
   clear qhT0_0 qhT0_1 qhT0_2 qhP1_0 qhP1_1 qhP1_2
   have hS := hb
   have hB7 := hB6.call hS rfl
   replace hT0 := blkb hT0 hS
   replace H := H.below hS
   replace hst := hst.below hS
   replace hm := hm.below hS
   replace hX1 := hX1.below hS
   replace hP1 := blkb hP1 hS
   clear hS hB6
   have qhT0_0 : w7.cell? ⟨w.heap.size, 0, none⟩ = some (.int .i64 c) := cell_at hT0 rfl
   have qhT0_1 : w7.cell? ⟨w.heap.size, 1, none⟩ = some (.int .i64 r) := cell_at hT0 rfl
   have qhT0_2 : w7.cell? ⟨w.heap.size, 2, none⟩ = some (.slice A n cap) := cell_at hT0 rfl
   have qhP1_0 : w7.cell? ⟨bhP1, 0, none⟩ = some (.int .i64 pc) := cell_at hP1 rfl
   have qhP1_1 : w7.cell? ⟨bhP1, 1, none⟩ = some (.int .i64 pr) := cell_at hP1 rfl
   have qhP1_2 : w7.cell? ⟨bhP1, 2, none⟩ = some (.slice X1 pn xc1) := cell_at hP1 rfl
   clear hb
   have hz : (w7.alloc (Obj.cells #[.int .i64 0, .int .i64 0, .slice none 0 0] 24)).heap[w7.heap.size]? = some (Obj.cells #[.int .i64 0, .int .i64 0, .slice none 0 0] 24) := heap_new rfl
   go_wp2_with (refine wpList_store_blk rfl 24 _ _ rfl w7.heap.size _ rfl rfl hz ?s1 ?s2 ?s3 ?_)
   case s1 => rfl
   case s2 => kernel_rfl
   case s3 => simp [Value.oneCell']
   intro w8 hP2 hg3 hs3
   clear qhT0_0 qhT0_1 qhT0_2 qhP1_0 qhP1_1 qhP1_2
   have hS := ((Below.refl _ _).alloc (Nat.le_refl _) _).grown hg3 (by simp) (fun j hj => by cases hj; exact Nat.le_refl _)
   have hB8 := hB7.call hS rfl
   replace hT0 := blkb hT0 hS
   replace H := H.below hS
   replace hst := hst.below hS
   replace hm := hm.below hS
   replace hX1 := hX1.below hS
   replace hP1 := blkb hP1 hS
   replace hX2 := hX2.below hS
   clear hS hB7
   have qhT0_0 : w8.cell? ⟨w.heap.size, 0, none⟩ = some (.int .i64 c) := cell_at hT0 rfl
   have qhT0_1 : w8.cell? ⟨w.heap.size, 1, none⟩ = some (.int .i64 r) := cell_at hT0 rfl
   have qhT0_2 : w8.cell? ⟨w.heap.size, 2, none⟩ = some (.slice A n cap) := cell_at hT0 rfl
   have qhP1_0 : w8.cell? ⟨bhP1, 0, none⟩ = some (.int .i64 pc) := cell_at hP1 rfl
   have qhP1_1 : w8.cell? ⟨bhP1, 1, none⟩ = some (.int .i64 pr) := cell_at hP1 rfl
   have qhP1_2 : w8.cell? ⟨bhP1, 2, none⟩ = some (.slice X1 pn xc1) := cell_at hP1 rfl
   clear hz hg3 hs3
   obtain ⟨bhP2, hbhP2⟩ : ∃ b, b = w7.heap.size := ⟨_, rfl⟩
   rw [← hbhP2] at hP2 ⊢
   clear hbhP2
   have qhP2_0 : w8.cell? ⟨bhP2, 0, none⟩ = some (.int .i64 pc) := cell_at hP2 rfl
   have qhP2_1 : w8.cell? ⟨bhP2, 1, none⟩ = some (.int .i64 pr) := cell_at hP2 rfl
   have qhP2_2 : w8.cell? ⟨bhP2, 2, none⟩ = some (.slice X2 pn xc2) := cell_at hP2 rfl
   go_wp2_with fail
   refine wp_region_plan [(0, true), (1, true), (2, true), (3, true), (4, true), (5, true), (6, true), (7, true), (8, true), (9, true), (11, true), (10, false), (12, false), (13, true), (14, true), (15, true), (16, true), (17, true), (18, true), (19, true), (20, true), (21, true), (22, true), (23, true), (24, true), (25, false), (26, true), (27, true)] w8.heap.size (by kernel_rfl) (by kernel_rfl) (Nat.le_refl _) (fun _ _ d _ _ h => by cases d <;> exact h) ?_
   have hC : Below w8.heap.size w8 w8 := Below.refl _ _
   have zhT0 : w.heap.size < w8.heap.size := (Array.getElem?_eq_some_iff.1 hT0).1
   have zhP1 : bhP1 < w8.heap.size := (Array.getElem?_eq_some_iff.1 hP1).1
   have zhP2 : bhP2 < w8.heap.size := (Array.getElem?_eq_some_iff.1 hP2).1
   repeat (first | (refine wpPlanA_skip _ rfl (by rfl) ?_; simp only [Act.put, List.setIfInBounds_toArray, List.set_cons_zero, List.set_cons_succ]) | (refine wpPlanA_soft _ ?_ rfl (by rfl) ?_ ?_; rotate_left; (intro wq hq hcq; go_simp; first | exact rfl | exact ⟨rfl, rfl⟩); simp only [Act.put, List.setIfInBounds_toArray, List.set_cons_zero, List.set_cons_succ]))
   refine wpPlanA_hard _ rfl (by rfl) (fun w9 hS K hK => ?_)
   go_simp
   refine (K71.out _ _ _ (hX1.below hS)).mono ?_
   rintro e w10 ⟨B9, cb9, rfl, hr9, hb⟩
   replace hS := hS.call hb rfl
   have hB10 := hB8.call hS rfl
   replace hC := hC.call hS rfl
   replace hT0 := blkb hT0 hS
   replace H := H.below hS
   replace hst := hst.below hS
   replace hm := hm.below hS
   replace hX1 := hX1.below hS
   replace hP1 := blkb hP1 hS
   replace hX2 := hX2.below hS
   replace hP2 := blkb hP2 hS
   refine hK _ _ hC ?_
   clear hS hb hB8 hK K
   try simp only [Act.put, List.setIfInBounds_toArray, List.set_cons_zero, List.set_cons_succ]
   repeat (first | (refine wpPlanA_skip _ rfl (by rfl) ?_; simp only [Act.put, List.setIfInBounds_toArray, List.set_cons_zero, List.set_cons_succ]) | (refine wpPlanA_soft _ ?_ rfl (by rfl) ?_ ?_; rotate_left; (intro wq hq hcq; go_simp; first | exact rfl | exact ⟨rfl, rfl⟩); simp only [Act.put, List.setIfInBounds_toArray, List.set_cons_zero, List.set_cons_succ]))
   refine wpPlanA_hard _ rfl (by rfl) (fun w11 hS K hK => ?_)
   go_simp
   refine (K70.out _ _ _ _ _ (hr9.below hS) (hX2.below hS)).mono ?_
   rintro e w12 ⟨rfl, hb⟩
   replace hS := hS.call hb rfl
   have hB12 := hB10.call hS rfl
   replace hC := hC.call hS rfl
   replace hT0 := blkb hT0 hS
   replace H := H.below hS
   replace hst := hst.below hS
   replace hm := hm.below hS
   replace hX1 := hX1.below hS
   replace hP1 := blkb hP1 hS
   replace hX2 := hX2.below hS
   replace hP2 := blkb hP2 hS
   replace hr9 := hr9.below hS
   refine hK _ _ hC ?_
   clear hS hb hB10 hK K
   try simp only [Act.put, List.setIfInBounds_toArray, List.set_cons_zero, List.set_cons_succ]
   repeat (first | (refine wpPlanA_skip _ rfl (by rfl) ?_; simp only [Act.put, List.setIfInBounds_toArray, List.set_cons_zero, List.set_cons_succ]) | (refine wpPlanA_soft _ ?_ rfl (by rfl) ?_ ?_; rotate_left; (intro wq hq hcq; go_simp; first | exact rfl | exact ⟨rfl, rfl⟩); simp only [Act.put, List.setIfInBounds_toArray, List.set_cons_zero, List.set_cons_succ]))
   refine wpPlanA_hard _ rfl (by rfl) (fun w13 hS K hK => ?_)
   go_simp
   refine (c18 _ (hst.below hS)).mono ?_
   rintro e w14 ⟨rfl, hb⟩
   replace hS := hS.call hb rfl
   have hB14 := hB12.call hS rfl
   replace hC := hC.call hS rfl
   replace hT0 := blkb hT0 hS
   replace H := H.below hS
   replace hst := hst.below hS
   replace hm := hm.below hS
   replace hX1 := hX1.below hS
   replace hP1 := blkb hP1 hS
   replace hX2 := hX2.below hS
   replace hP2 := blkb hP2 hS
   replace hr9 := hr9.below hS
   refine hK _ _ hC ?_
   clear hS hb hB12 hK K
   try simp only [Act.put, List.setIfInBounds_toArray, List.set_cons_zero, List.set_cons_succ]
   repeat (first | (refine wpPlanA_skip _ rfl (by rfl) ?_; simp only [Act.put, List.setIfInBounds_toArray, List.set_cons_zero, List.set_cons_succ]) | (refine wpPlanA_soft _ ?_ rfl (by rfl) ?_ ?_; rotate_left; (intro wq hq hcq; go_simp; first | exact rfl | exact ⟨rfl, rfl⟩); simp only [Act.put, List.setIfInBounds_toArray, List.set_cons_zero, List.set_cons_succ]))
   clear qhT0_0 qhT0_1 qhT0_2 qhP1_0 qhP1_1 qhP1_2 qhP2_0 qhP2_1 qhP2_2
   refine wpPlanA_nil (fun w15 hS => ?_)
   clear hC zhT0 zhP1 zhP2
   have hB15 := hB14.call hS rfl
   replace hT0 := blkb hT0 hS
   replace H := H.below hS
   replace hst := hst.below hS
   replace hm := hm.below hS
   replace hX1 := hX1.below hS
   replace hP1 := blkb hP1 hS
   replace hX2 := hX2.below hS
   replace hP2 := blkb hP2 hS
   replace hr9 := hr9.below hS
   clear hS hB14
   have qhT0_0 : w15.cell? ⟨w.heap.size, 0, none⟩ = some (.int .i64 c) := cell_at hT0 rfl
   have qhT0_1 : w15.cell? ⟨w.heap.size, 1, none⟩ = some (.int .i64 r) := cell_at hT0 rfl
   have qhT0_2 : w15.cell? ⟨w.heap.size, 2, none⟩ = some (.slice A n cap) := cell_at hT0 rfl
   have qhP1_0 : w15.cell? ⟨bhP1, 0, none⟩ = some (.int .i64 pc) := cell_at hP1 rfl
   have qhP1_1 : w15.cell? ⟨bhP1, 1, none⟩ = some (.int .i64 pr) := cell_at hP1 rfl
   have qhP1_2 : w15.cell? ⟨bhP1, 2, none⟩ = some (.slice X1 pn xc1) := cell_at hP1 rfl
   have qhP2_0 : w15.cell? ⟨bhP2, 0, none⟩ = some (.int .i64 pc) := cell_at hP2 rfl
   have qhP2_1 : w15.cell? ⟨bhP2, 1, none⟩ = some (.int .i64 pr) := cell_at hP2 rfl
   have qhP2_2 : w15.cell? ⟨bhP2, 2, none⟩ = some (.slice X2 pn xc2) := cell_at hP2 rfl
   go_wp2
   go_ret
   exact ⟨rfl, hB15⟩
 have hd3 : ((s.size : Int) != 4097) = true := by simp; omega
 clear h2
 go_wp2_with fail
 refine (c18 _ hst).mono ?_
 rintro e wz ⟨rfl, hz⟩
 go_wp2
 go_ret
 exact ⟨rfl, hB1.call hz rfl⟩
end Go.Proofs.YtdimmlljjmmdbaaGreatDoor
