/- A part of the proofs about traces, tides and horizons: contracts of functions and plain laws (K26, K27, K28, K29, K30, K31, K32). -/
import Derived.Scope
import Derived.WalkMore
import Derived.Test.YtfmgibhffgkieaaDoorZ03d
set_option linter.all false
namespace Go.Proofs.YtfmgibhffgkieaaDoor
open Go.RowKit Go.Shelf
set_option maxHeartbeats 8000000
set_option maxRecDepth 100000
attribute [local go_sem] Oper.semAt_some
theorem own_low {w : World} {B B' e size : Nat} {v : Value} {n : Nat} {l : List Value} (h : w.ownsRow B e size v n l) (hb : B' ≤ B) : w.ownsRow B' e size v n l := by
 obtain ⟨h1, h2 | ⟨g, cap, cs, rfl, h3, h4, h5⟩⟩ := h
 ·exact ⟨h1, .inl h2⟩
 ·exact ⟨h1, .inr ⟨g, cap, cs, rfl, Nat.le_trans hb h3, h4, h5⟩⟩
def shiftL (fs : List Nat) (s : Int) : List Int := (List.range fs.length).map fun (j : Nat) => atI (fs.map whl) ((j : Int) + s)
def shiftF (fs : List Nat) (s : Int) : List Nat := (shiftL fs s).map smp
theorem shiftL_len (fs : List Nat) (s : Int) : (shiftL fs s).length = fs.length := by simp [shiftL]
theorem atI_whl {fs : List Nat} {i : Int} : atI (fs.map whl) i = 0 ∨ atI (fs.map whl) i = 16 := by
 unfold atI
 by_cases h : i < 0
 ·exact .inl (if_pos h)
 ·rw [if_neg h, List.getElem?_map]
  cases fs[i.toNat]? with
  | none => exact .inl rfl
  | some v => simp only [Option.map_some, Option.getD_some]; unfold whl; by_cases hv : v = 0 <;> simp [hv]
theorem shiftL_or (fs : List Nat) (s : Int) : ∀ x ∈ shiftL fs s, x = 0 ∨ x = 16 := by
 intro x hx
 unfold shiftL at hx
 obtain ⟨j, _, rfl⟩ := List.mem_map.1 hx
 exact atI_whl
theorem c22 (d : Int) (A : Option Addr) (n cap : Nat) (fs : List Nat) (pT : Nat) (T : Option Addr) (tn tc : Nat) (N D : Int) (w : World) (hn : n ≤ 1024) (hln : fs.length = n) (H : RdS w 1 A n (encF fs)) (hr : ∀ v ∈ fs, v = 0 ∨ v = 1065353216) (hT : w.heap[pT]? = some (.cells #[.slice T tn tc] 56 (0, 0))) (hN : -100000 ≤ N ∧ N ≤ 100000) (hD : 1 ≤ D ∧ D ≤ 100000) (hsh : -100000 ≤ Mo.near N D ∧ Mo.near N D ≤ 100000) (h23 : ∀ W, Below w.heap.size w W → Calls Tryd.prog 23 #[.slice T tn tc, .int .i64 d] W fun en w' => en = .returned (.agg #[.int .i64 N, .int .i64 D]) ∧ Below W.heap.size W w') :
  Calls Tryd.prog 22 #[.agg #[.int .i64 0, .int .i64 0, .int .i64 0, .int .i64 0, .int .i64 d, .int .i64 0, .int .i64 0, .int .i64 0, .bool false, .slice A n cap], .pointer (some ⟨pT, 0, none⟩)] w fun en w' => ∃ A' cap', en = .returned (.tuple #[.slice A' n cap', .int .i64 0]) ∧ w'.ownsRow w.heap.size 44 1 (.slice A' n cap') n (encF (shiftF fs (Mo.near N D))) ∧ Below w.heap.size w w' := by
 have HRR := Lib.hid hr
 have HLN := Lib.hid hln
 have HHN := Lib.hid hn
 have K23 := Lib.hid h23
 have KND := Lib.hid (⟨hN, hD⟩ : (-100000 ≤ N ∧ N ≤ 100000) ∧ 1 ≤ D ∧ D ≤ 100000)
 have HSH := Lib.hid hsh
 clear h23 hN hD hr hln hsh hn
 obtain ⟨w0, hW⟩ : ∃ W, W = w.alloc (Obj.cells #[.int .i64 0, .int .i64 0, .int .i64 0, .int .i64 0, .int .i64 d, .int .i64 0, .int .i64 0, .int .i64 0, .bool false, .slice A n cap] 48) := ⟨_, rfl⟩
 have hT0 : w0.heap[w.heap.size]? = some (.cells #[.int .i64 0, .int .i64 0, .int .i64 0, .int .i64 0, .int .i64 d, .int .i64 0, .int .i64 0, .int .i64 0, .bool false, .slice A n cap] 48 (0, 0)) := by rw [hW]; exact heap_new (by simp)
 have hB0 : Below w.heap.size w w0 := by rw [hW]; exact ((Below.refl _ _).alloc (by first | omega | (simp <;> omega)) _)
 replace H := H.below hB0
 have qw : w.cell? ⟨pT, 0, none⟩ = some (.slice T tn tc) := cell_at hT rfl
 have lw := cell_lt qw
 replace hT := blkb hT hB0
 go_enter Tryd.func22, Tryd.ntmps22
 go_wp2_with fail
 rw [← hW]
 clear hW qw lw
 have qhT_0 : w0.cell? ⟨pT, 0, none⟩ = some (.slice T tn tc) := cell_at hT rfl
 have lT := cell_lt qhT_0
 have qhT0_0 : w0.cell? ⟨w.heap.size, 0, none⟩ = some (.int .i64 0) := cell_at hT0 rfl
 have qhT0_1 : w0.cell? ⟨w.heap.size, 1, none⟩ = some (.int .i64 0) := cell_at hT0 rfl
 have qhT0_2 : w0.cell? ⟨w.heap.size, 2, none⟩ = some (.int .i64 0) := cell_at hT0 rfl
 have qhT0_3 : w0.cell? ⟨w.heap.size, 3, none⟩ = some (.int .i64 0) := cell_at hT0 rfl
 have qhT0_4 : w0.cell? ⟨w.heap.size, 4, none⟩ = some (.int .i64 d) := cell_at hT0 rfl
 have qhT0_5 : w0.cell? ⟨w.heap.size, 5, none⟩ = some (.int .i64 0) := cell_at hT0 rfl
 have qhT0_6 : w0.cell? ⟨w.heap.size, 6, none⟩ = some (.int .i64 0) := cell_at hT0 rfl
 have qhT0_7 : w0.cell? ⟨w.heap.size, 7, none⟩ = some (.int .i64 0) := cell_at hT0 rfl
 have qhT0_8 : w0.cell? ⟨w.heap.size, 8, none⟩ = some (.bool false) := cell_at hT0 rfl
 have qhT0_9 : w0.cell? ⟨w.heap.size, 9, none⟩ = some (.slice A n cap) := cell_at hT0 rfl
 go_wp2_with fail
 refine (K23.out _ hB0).mono ?_
 rintro e w1 ⟨rfl, hb⟩
 clear qhT0_0 qhT0_1 qhT0_2 qhT0_3 qhT0_4 qhT0_5 qhT0_6 qhT0_7 qhT0_8 qhT0_9 qhT_0
 have hS := hb
 have hB1 := hB0.call hS rfl
 replace hT0 := blkb hT0 hS
 replace H := H.below hS
 replace hT := blkb hT hS
 clear hS hB0
 have qhT0_0 : w1.cell? ⟨w.heap.size, 0, none⟩ = some (.int .i64 0) := cell_at hT0 rfl
 have qhT0_1 : w1.cell? ⟨w.heap.size, 1, none⟩ = some (.int .i64 0) := cell_at hT0 rfl
 have qhT0_2 : w1.cell? ⟨w.heap.size, 2, none⟩ = some (.int .i64 0) := cell_at hT0 rfl
 have qhT0_3 : w1.cell? ⟨w.heap.size, 3, none⟩ = some (.int .i64 0) := cell_at hT0 rfl
 have qhT0_4 : w1.cell? ⟨w.heap.size, 4, none⟩ = some (.int .i64 d) := cell_at hT0 rfl
 have qhT0_5 : w1.cell? ⟨w.heap.size, 5, none⟩ = some (.int .i64 0) := cell_at hT0 rfl
 have qhT0_6 : w1.cell? ⟨w.heap.size, 6, none⟩ = some (.int .i64 0) := cell_at hT0 rfl
 have qhT0_7 : w1.cell? ⟨w.heap.size, 7, none⟩ = some (.int .i64 0) := cell_at hT0 rfl
 have qhT0_8 : w1.cell? ⟨w.heap.size, 8, none⟩ = some (.bool false) := cell_at hT0 rfl
 have qhT0_9 : w1.cell? ⟨w.heap.size, 9, none⟩ = some (.slice A n cap) := cell_at hT0 rfl
 have qhT_0 : w1.cell? ⟨pT, 0, none⟩ = some (.slice T tn tc) := cell_at hT rfl
 clear hb
 have KN := KND.out
 have hb5 : Below w1.heap.size w1 (w1.alloc (Obj.cells #[.int .i64 N, .int .i64 D] 68)) := (Below.refl _ _).alloc (Nat.le_refl _) _
 go_wp2_with fail
 refine (c24 N D _ KN.1 KN.2).mono ?_
 rintro e w' ⟨rfl, rfl⟩
 obtain ⟨wa, hwa⟩ : ∃ W, W = w1.alloc (Obj.cells #[.int .i64 N, .int .i64 D] 68) := ⟨_, rfl⟩
 rw [← hwa] at hb5 ⊢
 obtain ⟨s, hs⟩ : ∃ s, s = Mo.near N D := ⟨_, rfl⟩
 have hsh := HSH.out
 rw [← hs] at hsh ⊢
 have HS0 := Lib.hid hs
 clear hs KN hwa lT
 obtain ⟨w2, hww⟩ : ∃ W, W = wa := ⟨_, rfl⟩
 subst hww
 clear qhT0_0 qhT0_1 qhT0_2 qhT0_3 qhT0_4 qhT0_5 qhT0_6 qhT0_7 qhT0_8 qhT0_9 qhT_0
 have hB2 := hB1.call hb5 rfl
 replace hT0 := blkb hT0 hb5
 replace H := H.below hb5
 replace hT := blkb hT hb5
 clear hB1 hb5
 have qhT0_0 : w2.cell? ⟨w.heap.size, 0, none⟩ = some (.int .i64 0) := cell_at hT0 rfl
 have qhT0_1 : w2.cell? ⟨w.heap.size, 1, none⟩ = some (.int .i64 0) := cell_at hT0 rfl
 have qhT0_2 : w2.cell? ⟨w.heap.size, 2, none⟩ = some (.int .i64 0) := cell_at hT0 rfl
 have qhT0_3 : w2.cell? ⟨w.heap.size, 3, none⟩ = some (.int .i64 0) := cell_at hT0 rfl
 have qhT0_4 : w2.cell? ⟨w.heap.size, 4, none⟩ = some (.int .i64 d) := cell_at hT0 rfl
 have qhT0_5 : w2.cell? ⟨w.heap.size, 5, none⟩ = some (.int .i64 0) := cell_at hT0 rfl
 have qhT0_6 : w2.cell? ⟨w.heap.size, 6, none⟩ = some (.int .i64 0) := cell_at hT0 rfl
 have qhT0_7 : w2.cell? ⟨w.heap.size, 7, none⟩ = some (.int .i64 0) := cell_at hT0 rfl
 have qhT0_8 : w2.cell? ⟨w.heap.size, 8, none⟩ = some (.bool false) := cell_at hT0 rfl
 have qhT0_9 : w2.cell? ⟨w.heap.size, 9, none⟩ = some (.slice A n cap) := cell_at hT0 rfl
 have qhT_0 : w2.cell? ⟨pT, 0, none⟩ = some (.slice T tn tc) := cell_at hT rfl
 go_wp2_with fail
 refine (c25 A n cap fs whl _ (by have := HHN.out; omega) H (fun W x hx => (c26 (bt_whl (HRR.out x hx)) W).mono (fun e w' h => ⟨h.1, h.2 ▸ Below.refl _ _⟩))).mono ?_
 rintro e w3 ⟨A1, c1, rfl, ho1, hb⟩
 clear qhT0_0 qhT0_1 qhT0_2 qhT0_3 qhT0_4 qhT0_5 qhT0_6 qhT0_7 qhT0_8 qhT0_9 qhT_0
 have hS := hb
 have hB3 := hB2.call hS rfl
 replace hT0 := blkb hT0 hS
 replace H := H.below hS
 replace hT := blkb hT hS
 clear hS hB2
 have qhT0_0 : w3.cell? ⟨w.heap.size, 0, none⟩ = some (.int .i64 0) := cell_at hT0 rfl
 have qhT0_1 : w3.cell? ⟨w.heap.size, 1, none⟩ = some (.int .i64 0) := cell_at hT0 rfl
 have qhT0_2 : w3.cell? ⟨w.heap.size, 2, none⟩ = some (.int .i64 0) := cell_at hT0 rfl
 have qhT0_3 : w3.cell? ⟨w.heap.size, 3, none⟩ = some (.int .i64 0) := cell_at hT0 rfl
 have qhT0_4 : w3.cell? ⟨w.heap.size, 4, none⟩ = some (.int .i64 d) := cell_at hT0 rfl
 have qhT0_5 : w3.cell? ⟨w.heap.size, 5, none⟩ = some (.int .i64 0) := cell_at hT0 rfl
 have qhT0_6 : w3.cell? ⟨w.heap.size, 6, none⟩ = some (.int .i64 0) := cell_at hT0 rfl
 have qhT0_7 : w3.cell? ⟨w.heap.size, 7, none⟩ = some (.int .i64 0) := cell_at hT0 rfl
 have qhT0_8 : w3.cell? ⟨w.heap.size, 8, none⟩ = some (.bool false) := cell_at hT0 rfl
 have qhT0_9 : w3.cell? ⟨w.heap.size, 9, none⟩ = some (.slice A n cap) := cell_at hT0 rfl
 have qhT_0 : w3.cell? ⟨pT, 0, none⟩ = some (.slice T tn tc) := cell_at hT rfl
 clear hb
 obtain ⟨_, _, he1, hr1, _⟩ := own_form ho1
 cases he1
 have HI1 : Hid (RdI w3 A1 n (fs.map whl)) := Lib.hid hr1
 obtain ⟨i0, hi, hz0, hz1, hz2⟩ := info_parts info3
 have hmk := run_make_fill (P := Tryd.prog) 35 3 i0 (.int .i64 0) (fun j => .int .i64 (atI (fs.map whl) ((j : Int) + s))) Tryd.underlying35 hi hz0 hz1 rfl n (by have := HHN.out; omega) (by rw [hz2]; omega) w3
 have HB3 := Lib.hid hB3
 clear hi hz0 hz1 hz2 ho1 hr1 hT0 hT H qhT0_0 qhT0_1 qhT0_2 qhT0_3 qhT0_4 qhT0_5 qhT0_6 qhT0_7 qhT0_8 qhT0_9 qhT_0 hB3
 obtain ⟨g, hg⟩ : ∃ g, g = w3.heap.size := ⟨_, rfl⟩
 go_wp2_with fail
 obtain ⟨w6, hwn⟩ : ∃ V, V = w3.alloc (.cells (fillA (.int .i64 0) (fun j => .int .i64 (atI (fs.map whl) ((j : Int) + s))) n 0) 3) := ⟨_, rfl⟩
 have hbn : Below w3.heap.size w3 w6 := by rw [hwn]; exact (Below.refl _ _).alloc (Nat.le_refl _) _
 have hsg : w6.heap[g]? = some (.cells (fillA (.int .i64 0) (fun j => .int .i64 (atI (fs.map whl) ((j : Int) + s))) n 0) 3 (0, 0)) := by rw [hwn]; exact heap_new hg
 have HG := Lib.hid hg
 rw [← hg, ← hwn]
 clear hwn hg hmk
 go_loopw [28] (fun i wr => ∃ k : Nat, k ≤ n ∧ i = .int .i64 k ∧ Hid (wr.heap[g]? = some (.cells (fillA (.int .i64 0) (fun j => .int .i64 (atI (fs.map whl) ((j : Int) + s))) n k) 3 (0, 0))) ∧ Below w3.heap.size w3 wr) (fun i _ => n - (intOf i).toNat)
 case atStart => exact ⟨0, Nat.zero_le _, rfl, Lib.hid hsg, hbn⟩
 case round =>
  clear hsg hbn
  obtain ⟨k, hk, rfl, HS, hbr⟩ := hrel
  have hlim := HHN.out
  by_cases hlt : k < n
  ·have hkn2 : (k : Int) < (n : Int) := by omega
   have hk02 : (0 : Int) ≤ (k : Int) := by omega
   have hw1 : IntKind.i64.wrap ((k : Int) + s) = (k : Int) + s := wrapI (by omega)
   have hwk : IntKind.i64.wrap ((k : Int) + 1) = ((k + 1 : Nat) : Int) := by rw [wrapI (by omega)]; simp
   obtain ⟨y, hy⟩ : ∃ y, y = atI (fs.map whl) ((k : Int) + s) := ⟨_, rfl⟩
   have h27 := c27 A1 n c1 (fs.map whl) ((k : Int) + s) wr (RdI.below HI1.out hbr)
   rw [← hy] at h27
   have h27b := Lib.hid h27
   have HS2 : Hid ((wr.setCell ⟨g, k, none⟩ (.int .i64 y)).heap[g]? = some (.cells (fillA (.int .i64 0) (fun j => .int .i64 (atI (fs.map whl) ((j : Int) + s))) n (k + 1)) 3 (0, 0))) := by
    have := set_blk (i := k) HS.out (.int .i64 y)
    rw [hy, fillA_set (.int .i64 0) (fun j => .int .i64 (atI (fs.map whl) ((j : Int) + s))) n k hlt, ← hy] at this
    exact Lib.hid this
   have qf : wr.frozen? ⟨g, k, none⟩ = false := free_at HS.out
   have qc : wr.cell? ⟨g, k, none⟩ = some (.int .i64 0) := cell_at HS.out (by rw [fillA_get _ _ _ _ _ hlt, if_neg (Nat.lt_irrefl _)])
   have ql := cell_lt qc
   have HN : Hid (Below w3.heap.size w3 (wr.setCell ⟨g, k, none⟩ (.int .i64 y))) := Lib.hid (hbr.setCell (p := ⟨g, k, none⟩) (by show _ ≤ g; have := HG.out; omega) _)
   clear hy h27 hsh hlim
   go_wp2_with fail
   refine h27b.out.mono ?_
   rintro e w' ⟨rfl, rfl⟩
   go_wp2
   go_roundw
   case rel => exact ⟨k + 1, by omega, rfl, HS2, HN.out⟩
   case measure => simp [intOf]; omega
  ·obtain rfl : n = k := by omega
   have hfull : fillA (.int .i64 0) (fun j => .int .i64 (atI (fs.map whl) ((j : Int) + s))) n n = (encI (shiftL fs s)).toArray := by
    rw [fillA_full]
    unfold shiftL encI
    rw [List.map_map, HLN.out]
    rfl
   have hs := HS.out
   rw [hfull] at hs
   have hri : RdI wr (some ⟨g, 0, none⟩) n (shiftL fs s) := RdS.of_block hs (by simp [encI, shiftL_len, HLN.out])
   have HB4 := Lib.hid (HB3.out.call hbr rfl)
   have h28 := Lib.hid (c28 (some ⟨g, 0, none⟩) n n (shiftL fs s) wr (by omega) hri (shiftL_or fs s))
   clear hfull hs hri HS hbr hlim hsh
   go_wp2_with fail
   refine h28.out.mono ?_
   rintro e w9 ⟨A9, c9, rfl, ho9, hb9⟩
   have HR9 := Lib.hid (own_low ho9 HB4.out.size)
   have HB9 := Lib.hid (HB4.out.call hb9 rfl)
   clear ho9 hb9
   go_wp2
   go_ret2
   exact ⟨A9, c9, rfl, by rw [← HS0.out]; exact HR9.out, HB9.out⟩
end Go.Proofs.YtfmgibhffgkieaaDoor
namespace Go.Proofs.YtfmgibhffgkieaaDoor
open Go.RowKit Go.Shelf
set_option maxHeartbeats 8000000
set_option maxRecDepth 100000
attribute [local go_sem] Oper.semAt_some
theorem info48 : (Tryd.prog.info? 48).map (fun i => (i.zero, i.size, i.bytes)) = some (some (.agg #[.int .i64 0, .int .i64 0, .int .i64 0, .int .i64 0, .int .i64 0, .int .i64 0, .int .i64 0, .int .i64 0, .bool false, .slice none 0 0]), 10, 96) := by kernel_rfl
theorem wp_appC {o : Oper} {a : Act} {w : World} {K : Act → World → Prop} {Q : Exit → Act → World → Prop} (s x : Operand)
  (ho : o.op = .call { callee := .builtin .append, args := #[s, x], argTypes := #[49, 49] })
  (base : Nat) (v : Value) (n : Nat) (xs ys : List Tc) (hs : a.eval s = v) (hown : w.ownsRow base 48 10 v n (xs.flatMap Tc.enc))
  (A : Option Addr) (m c : Nat) (hx : a.eval x = .slice A m c) (H : RdC w A m ys) (hnm : n + m ≤ 1000000) (hbase : base ≤ w.heap.size)
  (h : ∀ v' w', w'.ownsRow base 48 10 v' (n + m) ((xs ++ ys).flatMap Tc.enc) → w.grownBy w' v.ownBlock → K (a.put o.dst v') w') : o.wp Tryd.prog a w K Q := by
 obtain ⟨i0, hi, hz0, hz1, hz2⟩ := info_parts info48
 have e : (xs ++ ys).flatMap Tc.enc = xs.flatMap Tc.enc ++ ys.flatMap Tc.enc := by simp
 cases A with
 | none =>
  obtain rfl : m = 0 := RdS.none0 H
  have hy : ys.flatMap Tc.enc = [] := List.eq_nil_of_length_eq_zero (by simpa using H.1)
  have hr := run_app_none3 49 o.type 48 i0 Tryd.underlying49 hi v n _ hown c
  have := h v w (by rw [e, hy, Nat.add_zero, List.append_nil]; exact hown) (grownBy_of_below (Below.refl _ _) _)
  unfold Oper.wp
  simp only [execOp, ho, resolve, invoke, builtin, Sem.run_bind, Sem.run_pure, Result.andThen_ok, List.map_toArray, List.map_cons, List.map_nil, hs, hx, hr]
  exact this
 | some ad =>
  refine wp_append_own w s x 49 ho base 48 i0 (.agg #[.int .i64 0, .int .i64 0, .int .i64 0, .int .i64 0, .int .i64 0, .int .i64 0, .int .i64 0, .int .i64 0, .bool false, .slice none 0 0]) 10 96 Tryd.underlying49 hi hz0 hz1 hz2 rfl (by decide) v n _ hs hown ad m c _ hx (by rw [H.1]) (RdS.news H (by omega)) ?_ (by unfold maxLen; omega) ?_ hbase (fun v' w' h2 h3 _ => h v' w' (by rw [e]; exact h2) h3)
  ·intro u hu; obtain ⟨q, _, hq⟩ := List.mem_flatMap.1 hu; unfold Tc.enc at hq; simp only [List.mem_cons, List.not_mem_nil, or_false] at hq; rcases hq with rfl | rfl | rfl | rfl | rfl | rfl | rfl | rfl | rfl | rfl <;> rfl
  ·omega
/-- the traces' samples, each a row of the function's own -/
def OwF (B : Nat) (w : World) (y : Tc) : Prop := w.ownsRow B 44 1 (.slice y.A y.fs.length y.cap) y.fs.length (encF y.fs)
theorem OwF.below {B : Nat} {w w' : World} {y : Tc} (h : OwF B w y) (hb : Below w.heap.size w w') : OwF B w' y := own_below h hb
/-- a store into a block of another type -/
theorem OwF.setT {B b : Nat} {w : World} {y : Tc} {j t : Nat} {cs : Array Value} {f : Nat × Nat} {u : Value} (h : OwF B w y) (hk : w.heap[b]? = some (.cells cs t f)) (ht : t ≠ 44) : OwF B (w.setCell ⟨b, j, none⟩ u) y := by
 obtain ⟨h1, h2 | ⟨g, cap, cs', he, h3, h4, h5⟩⟩ := h
 ·exact ⟨h1, .inl h2⟩
 ·refine ⟨h1, .inr ⟨g, cap, cs', he, h3, (set_far (p := ⟨b, j, none⟩) u (fun e => ?_)).trans h4, h5⟩⟩
  have e : g = b := e
  subst e
  rw [h4] at hk
  cases hk
  exact ht rfl
/-- an append to a row of traces -/
theorem OwF.app {B B' n : Nat} {w w' : World} {y : Tc} {v : Value} {xs : List Value} (h : OwF B w y) (hr : w.ownsRow B' 48 10 v n xs) (hg : w.grownBy w' v.ownBlock) : OwF B w' y := by
 refine h.kept hg ?_
 rcases h.2 with ⟨he, _⟩ | ⟨g, cap, cs', he, h3, h4, h5⟩
 ·left; rw [he]; rfl
 ·right
  rw [he]
  intro e
  rcases hr.2 with ⟨hv, _⟩ | ⟨g2, _, _, hv, _, h7, _⟩
  ·rw [hv] at e; cases e
  ·rw [hv] at e
   cases e
   rw [h4] at h7
   cases h7
theorem OwF.rd {B : Nat} {w : World} {y : Tc} (h : OwF B w y) : RdS w 1 y.A y.fs.length (encF y.fs) := by
 obtain ⟨_, _, he, hr, _⟩ := own_form h
 cases he
 exact hr
/-- the new traces beside the old ones -/
def Cor (B : Nat) (g : Tc → List Nat) (l l' : List Tc) (w : World) : Prop := ∀ (k : Nat) (y : Tc), l'[k]? = some y → ∃ x, l[k]? = some x ∧ y.off = x.off ∧ y.fs = g x ∧ OwF B w y
end Go.Proofs.YtfmgibhffgkieaaDoor
namespace Go.Proofs.YtfmgibhffgkieaaDoor
open Go.RowKit Go.Shelf
set_option maxHeartbeats 8000000
set_option maxRecDepth 100000
attribute [local go_sem] Oper.semAt_some
theorem Cor.nil (B : Nat) (g : Tc → List Nat) (l : List Tc) (w : World) : Cor B g l [] w := fun k y h => by simp at h
theorem Cor.push {B : Nat} {g : Tc → List Nat} {l l' : List Tc} {w : World} {x y : Tc} (h : Cor B g l l' w) (hx : l[l'.length]? = some x) (h1 : y.off = x.off) (h2 : y.fs = g x) (h3 : OwF B w y) : Cor B g l (l' ++ [y]) w := by
 intro k z hz
 by_cases hk : k < l'.length
 ·rw [List.getElem?_append_left hk] at hz
  exact h k z hz
 ·rw [List.getElem?_append_right (by omega)] at hz
  have : k - l'.length = 0 := by
   by_cases h0 : k - l'.length = 0
   ·exact h0
   ·rw [List.getElem?_eq_none (by simp; omega)] at hz; cases hz
  rw [this] at hz
  simp at hz
  subst hz
  have hkl : k = l'.length := by omega
  rw [hkl]
  exact ⟨x, hx, h1, h2, h3⟩
theorem Cor.imp {B : Nat} {g : Tc → List Nat} {l l' : List Tc} {w w' : World} (h : Cor B g l l' w) (hi : ∀ y, OwF B w y → OwF B w' y) : Cor B g l l' w' := fun k y hy => by
 obtain ⟨x, a, b, c, d⟩ := h k y hy
 exact ⟨x, a, b, c, hi y d⟩
theorem own_setB {B b e size n j : Nat} {w : World} {v u : Value} {xs : List Value} (h : w.ownsRow B e size v n xs) (hne : ∀ g, v.ownBlock = some g → g ≠ b) : (w.setCell ⟨b, j, none⟩ u).ownsRow B e size v n xs := by
 obtain ⟨h1, h2 | ⟨g, cap, cs', rfl, h3, h4, h5⟩⟩ := h
 ·exact ⟨h1, .inl h2⟩
 ·exact ⟨h1, .inr ⟨g, cap, cs', rfl, h3, (set_far (p := ⟨b, j, none⟩) u (hne g rfl)).trans h4, h5⟩⟩
theorem c21 (nm : ByteArray) (A : Option Addr) (n cap : Nat) (l : List Tc) (g : Tc → List Nat) (pT : Nat) (w : World) (hn : n ≤ 100000) (H : RdC w A n l) (hgl : ∀ x ∈ l, (g x).length = x.fs.length) (h22 : ∀ x ∈ l, ∀ W, Below w.heap.size w W → Calls Tryd.prog 22 #[.agg #[.int .i64 0, .int .i64 0, .int .i64 0, .int .i64 0, .int .i64 x.off, .int .i64 0, .int .i64 0, .int .i64 0, .bool false, .slice x.A x.fs.length x.cap], .pointer (some ⟨pT, 0, none⟩)] W fun en w' => ∃ A' c', en = .returned (.tuple #[.slice A' x.fs.length c', .int .i64 0]) ∧ w'.ownsRow W.heap.size 44 1 (.slice A' x.fs.length c') x.fs.length (encF (g x)) ∧ Below W.heap.size W w') :
  Calls Tryd.prog 21 #[.agg #[.string nm, .slice A n cap], .func (.func 22) #[] #[.pointer (some ⟨pT, 0, none⟩)]] w fun en w' => ∃ A' c' l', en = .returned (.tuple #[.agg #[.string nm, .slice A' n c'], .int .i64 0]) ∧ l'.length = n ∧ w'.ownsRow w.heap.size 48 10 (.slice A' n c') n (l'.flatMap Tc.enc) ∧ Cor w.heap.size g l l' w' ∧ Below w.heap.size w w' := by
 have HN := Lib.hid hn
 have HGL := Lib.hid hgl
 have K22 := Lib.hid h22
 have HLN := Lib.hid H.len
 have HH := Lib.hid H
 clear h22 hgl hn
 obtain ⟨w0, hW⟩ : ∃ W, W = (w.alloc (Obj.cells #[.string nm, .slice A n cap] 51)).alloc (Obj.cells #[.string { data := #[] }, .slice none 0 0] 51) := ⟨_, rfl⟩
 have hT0 : w0.heap[w.heap.size]? = some (.cells #[.string nm, .slice A n cap] 51 (0, 0)) := by rw [hW]; exact heap_old (by simp <;> omega) (heap_new (by simp))
 have hT1 : w0.heap[w.heap.size + 1]? = some (.cells #[.string { data := #[] }, .slice none 0 0] 51 (0, 0)) := by rw [hW]; exact heap_new (by simp)
 have hB0 : Below w.heap.size w w0 := by rw [hW]; exact (((Below.refl _ _).alloc (by first | omega | (simp <;> omega)) _).alloc (by first | omega | (simp <;> omega)) _)
 replace H := H.below hB0
 go_enter Tryd.func21, Tryd.ntmps21
 go_wp2_with fail
 rw [← hW]
 have hz0 : w0.heap.size = w.heap.size + 1 + 1 := by rw [hW]; simp
 clear hW
 have qhT0_0 : w0.cell? ⟨w.heap.size, 0, none⟩ = some (.string nm) := cell_at hT0 rfl
 have qhT0_1 : w0.cell? ⟨w.heap.size, 1, none⟩ = some (.slice A n cap) := cell_at hT0 rfl
 have qhT1_0 : w0.cell? ⟨w.heap.size + 1, 0, none⟩ = some (.string { data := #[] }) := cell_at hT1 rfl
 have qhT1_1 : w0.cell? ⟨w.heap.size + 1, 1, none⟩ = some (.slice none 0 0) := cell_at hT1 rfl
 have hbn : Below w0.heap.size w0 (w0.alloc (Obj.cells #[.string nm, .slice none 0 0] 51)) := (Below.refl _ _).alloc (Nat.le_refl _) _
 have h6 : (w0.alloc (Obj.cells #[.string nm, .slice none 0 0] 51)).heap[w0.heap.size]? = some (.cells #[.string nm, .slice none 0 0] 51 (0, 0)) := heap_new rfl
 go_wp2_with fail
 obtain ⟨w1, hw1⟩ : ∃ W, W = w0.alloc (Obj.cells #[.string nm, .slice none 0 0] 51) := ⟨_, rfl⟩
 obtain ⟨p6, hp6⟩ : ∃ p, p = w0.heap.size := ⟨_, rfl⟩
 rw [← hw1] at hbn h6 ⊢
 rw [← hp6] at h6
 rw [← hz0, ← hp6]
 have H6 := Lib.hid h6
 have HT1 := Lib.hid hT1
 have HB0 := Lib.hid hB0
 have HP6 := Lib.hid hp6
 have HBN := Lib.hid hbn
 clear hz0 hw1 hp6 h6 hbn hT0 hT1 H hB0 qhT0_0 qhT0_1 qhT1_0 qhT1_1
 go_loopw [17] (fun iv wr => ∃ (k : Nat) (V : Option Addr) (vc : Nat) (l' : List Tc), k ≤ n ∧ iv = .int .i64 k ∧ Hid (wr.heap[p6]? = some (.cells #[.string nm, .slice V k vc] 51 (0, 0))) ∧ Hid (wr.ownsRow (p6 + 1) 48 10 (.slice V k vc) k (l'.flatMap Tc.enc)) ∧ Hid (l'.length = k ∧ Cor w.heap.size g l l' wr) ∧ Below p6 w0 wr) (fun iv _ => n - (intOf iv).toNat)
 case atStart => exact ⟨0, none, 0, [], Nat.zero_le _, rfl, H6, Lib.hid (World.ownsRow_nil _ _ _ _), Lib.hid ⟨rfl, Cor.nil _ _ _ _⟩, by rw [HP6.out]; exact HBN.out⟩
 case round =>
  obtain ⟨k, V, vc, l', hk, rfl, K6, HROW, HCOR, hbr⟩ := hrel
  have HBR := Lib.hid hbr
  have hBw : Below w.heap.size w wr := HB0.out.trans (hbr.mono (by rw [HP6.out]; exact HB0.out.size))
  have HBW := Lib.hid hBw
  have hwk : IntKind.i64.wrap ((k : Int) + 1) = ((k + 1 : Nat) : Int) := by rw [wrapI (by have := HN.out; omega)]; simp
  by_cases hlt : k < n
  ·obtain ⟨x, hx⟩ : ∃ x, l[k]? = some x := ⟨l[k]'(by rw [HLN.out]; exact hlt), List.getElem?_eq_getElem _⟩
   obtain ⟨b, off, hAe, hb, h0, h1, h2, h3, h4, h5, h6, h7, h8, h9⟩ := (HH.out.below hBw).at hx
   subst hAe
   have K := Lib.hid (K22.out x (List.mem_of_getElem? hx))
   obtain ⟨d, hd⟩ : ∃ d, d = x.off := ⟨_, rfl⟩
   obtain ⟨xA, hxA⟩ : ∃ d, d = x.A := ⟨_, rfl⟩
   obtain ⟨xn, hxn⟩ : ∃ d, d = x.fs.length := ⟨_, rfl⟩
   obtain ⟨xc, hxc⟩ : ∃ d, d = x.cap := ⟨_, rfl⟩
   have hgx := HGL.out x (List.mem_of_getElem? hx)
   rw [← hxn] at hgx
   rw [← hd, ← hxA, ← hxn, ← hxc] at K
   rw [← hxA, ← hxn, ← hxc] at h9
   rw [← hd] at h4
   have HX := Lib.hid hx
   have K_len := Lib.hid hxn
   have HD := Lib.hid hd
   have HGX := Lib.hid hgx
   have hlti : (k : Int) < (n : Int) := by omega
   obtain ⟨wa, hwa⟩ : ∃ W, W = wr.alloc (Obj.cells #[.int .i64 0, .int .i64 0, .int .i64 0, .int .i64 0, .int .i64 d, .int .i64 0, .int .i64 0, .int .i64 0, .bool false, .slice xA xn xc] 48) := ⟨_, rfl⟩
   obtain ⟨b8, hb8⟩ : ∃ b, b = wr.heap.size := ⟨_, rfl⟩
   have hTa : wa.heap[b8]? = some (.cells #[.int .i64 0, .int .i64 0, .int .i64 0, .int .i64 0, .int .i64 d, .int .i64 0, .int .i64 0, .int .i64 0, .bool false, .slice xA xn xc] 48 (0, 0)) := by rw [hwa, hb8]; exact heap_new rfl
   have hBa : Below wr.heap.size wr wa := by rw [hwa]; exact (Below.refl _ _).alloc (Nat.le_refl _) _
   have hza : wa.heap.size = b8 + 1 := by rw [hwa, hb8]; simp
   clear hx hd hxA hxn hxc hgx hbr hBw
   go_wp2_with fail
   rw [← hwa]
   rw [← hb8]
   have HB8 := Lib.hid hb8
   clear hwa h0 h1 h2 h3 h4 h5 h6 h7 h8 h9 hb hb8
   refine (K.out _ (HBW.out.call hBa rfl)).mono ?_
   rintro e w2 ⟨A', c', rfl, ho2, hb2⟩
   have hT2 := blkb hTa hb2
   have q9 := cell_at hT2 (i := 9) rfl
   have f9 := free_at hT2 (i := 9)
   have l9 := cell_lt q9
   have hp0 := (Array.getElem?_eq_some_iff.1 K6.out).1
   have hb8 := HB8.out
   have hle2 : b8 + 1 ≤ w2.heap.size := by have := hb2.size; omega
   obtain ⟨w3, hw3⟩ : ∃ W, W = w2.setCell ⟨b8, 9, none⟩ (.slice A' xn c') := ⟨_, rfl⟩
   have hz3 : w3.heap.size = w2.heap.size := by rw [hw3]; simp
   have hT3 : w3.heap[b8]? = some (.cells #[.int .i64 0, .int .i64 0, .int .i64 0, .int .i64 0, .int .i64 d, .int .i64 0, .int .i64 0, .int .i64 0, .bool false, .slice A' xn c'] 48 (0, 0)) := by rw [hw3]; exact set_blk (i := 9) hT2 _
   have k63 : w3.heap[p6]? = some (.cells #[.string nm, .slice V k vc] 51 (0, 0)) := by rw [hw3]; exact (set_far (p := ⟨b8, 9, none⟩) _ (by show p6 ≠ b8; omega)).trans (blkb (blkb K6.out hBa) hb2)
   have row3 : w3.ownsRow (p6 + 1) 48 10 (.slice V k vc) k (l'.flatMap Tc.enc) := by
    rw [hw3]
    exact own_setB (own_below (own_below HROW.out hBa) hb2) (fun g hg => by have := (HROW.out.lt g hg).2; omega)
   obtain ⟨y, hy⟩ : ∃ y : Tc, y = ⟨d, A', c', g x⟩ := ⟨_, rfl⟩
   have hof2 : OwF w.heap.size w2 y := by
    rw [hy]
    unfold OwF
    simp only
    rw [HGX.out]
    exact own_low ho2 (HBW.out.call hBa rfl).size
   have hof3 : OwF w.heap.size w3 y := by rw [hw3]; exact hof2.setT hT2 (by decide)
   have cor3 : Cor w.heap.size g l l' w3 := HCOR.out.2.imp (fun z hz => by rw [hw3]; exact ((hz.below hBa).below hb2).setT hT2 (by decide))
   have br3 : Below p6 w0 w3 := by rw [hw3]; exact ((HBR.out.trans (hBa.mono (by omega))).trans (hb2.mono (by omega))).setCell (p := ⟨b8, 9, none⟩) (by show p6 ≤ b8; omega) _
   have b34 : Below w3.heap.size w3 (w3.alloc (Obj.cells #[.int .i64 0, .int .i64 0, .int .i64 0, .int .i64 0, .int .i64 d, .int .i64 0, .int .i64 0, .int .i64 0, .bool false, .slice A' xn c'] 48)) := (Below.refl _ _).alloc (Nat.le_refl _) _
   have HT3 := Lib.hid hT3
   have e0 := cell_at hT2 (i := 0) rfl
   have e1 := cell_at hT2 (i := 1) rfl
   have e2 := cell_at hT2 (i := 2) rfl
   have e3 := cell_at hT2 (i := 3) rfl
   have e4 := cell_at hT2 (i := 4) rfl
   have e5 := cell_at hT2 (i := 5) rfl
   have e6 := cell_at hT2 (i := 6) rfl
   have e7 := cell_at hT2 (i := 7) rfl
   have e8 := cell_at hT2 (i := 8) rfl
   have k62 := blkb (blkb K6.out hBa) hb2
   have k620 := cell_at k62 (i := 0) rfl
   have k621 := cell_at k62 (i := 1) rfl
   have l6 := cell_lt k620
   have hne : p6 ≠ b8 := by omega
   have hYE : Hid (y.enc = [.int .i64 0, .int .i64 0, .int .i64 0, .int .i64 0, .int .i64 d, .int .i64 0, .int .i64 0, .int .i64 0, .bool false, .slice A' xn c']) := Lib.hid (by rw [hy]; unfold Tc.enc; simp only; rw [HGX.out])
   have ROW3 := Lib.hid row3
   have K63 := Lib.hid k63
   have HY3 := Lib.hid (⟨hy, hof3⟩ : y = ⟨d, A', c', g x⟩ ∧ OwF w.heap.size w3 y)
   have COR3 := Lib.hid cor3
   have BR3 := Lib.hid br3
   have HW3 := Lib.hid hw3
   have HZ3 := Lib.hid (⟨hz3, b34⟩ : w3.heap.size = w2.heap.size ∧ Below w3.heap.size w3 (w3.alloc (Obj.cells #[.int .i64 0, .int .i64 0, .int .i64 0, .int .i64 0, .int .i64 d, .int .i64 0, .int .i64 0, .int .i64 0, .bool false, .slice A' xn c'] 48)))
   clear hT2 ho2 hb2 hof2 hof3 cor3 br3 row3 k63 hy hTa hBa hb8 hT3 hz3 b34 hw3 k62 hza
   have hrow := own_below ROW3.out HZ3.out.2
   have hrd : RdC (w3.alloc (Obj.cells #[.int .i64 0, .int .i64 0, .int .i64 0, .int .i64 0, .int .i64 d, .int .i64 0, .int .i64 0, .int .i64 0, .bool false, .slice A' xn c'] 48)) (some ⟨w2.heap.size, 0, none⟩) 1 [y] := by
    unfold RdC
    rw [List.flatMap_cons, List.flatMap_nil, List.append_nil, hYE.out]
    exact RdS.of_new (cs := [.int .i64 0, .int .i64 0, .int .i64 0, .int .i64 0, .int .i64 d, .int .i64 0, .int .i64 0, .int .i64 0, .bool false, .slice A' xn c']) HZ3.out.1.symm rfl
   have hsz9 : p6 + 1 ≤ (w3.alloc (Obj.cells #[.int .i64 0, .int .i64 0, .int .i64 0, .int .i64 0, .int .i64 d, .int .i64 0, .int .i64 0, .int .i64 0, .bool false, .slice A' xn c'] 48)).heap.size := by have := HZ3.out.2.size; have := HZ3.out.1; omega
   have HRD := Lib.hid hrd
   have hlim := HN.out
   clear hrd
   go_wp2_with (at_builtin; rw [← HW3.out]; refine wpList_plain rfl fun K hK => wp_appC _ _ rfl (p6 + 1) (.slice V k vc) k l' [y] rfl hrow (some ⟨w2.heap.size, 0, none⟩) 1 1 rfl HRD.out (by omega) hsz9 (fun v' w4 g2 g3 => ?_); refine hK _ _ (stopq ?_))
   unfold StopQ
   obtain ⟨V', vc', rfl⟩ := own_slice g2
   have nown : ∀ b, b < p6 + 1 → some b ≠ (Value.slice V k vc).ownBlock := fun b hb e => by have := (ROW3.out.lt b e.symm).1; omega
   have k64 : w4.heap[p6]? = some (.cells #[.string nm, .slice V k vc] 51 (0, 0)) := (g3.block p6 (by have := hsz9; omega) (nown p6 (by omega))).trans (blkb K63.out HZ3.out.2)
   have cor4 : Cor w.heap.size g l (l' ++ [y]) w4 := (Cor.push (COR3.out) (by rw [HCOR.out.1]; exact HX.out) (by rw [HY3.out.1, HD.out]) (by rw [HY3.out.1]) HY3.out.2).imp (fun z hz => (hz.below HZ3.out.2).app hrow g3)
   have br4 : Below p6 w0 w4 := (BR3.out.trans (HZ3.out.2.mono (by have := HZ3.out.1; omega))).grown g3 (by have := hsz9; have := HP6.out; omega) (fun j hj => by have := (ROW3.out.lt j hj).1; omega)
   have q1 := cell_at k64 (i := 1) rfl
   have f1 := free_at k64 (i := 1)
   have l1 := cell_lt q1
   have k65 : Hid ((w4.setCell ⟨p6, 1, none⟩ (.slice V' (k + 1) vc')).heap[p6]? = some (.cells #[.string nm, .slice V' (k + 1) vc'] 51 (0, 0))) := Lib.hid (set_blk (i := 1) k64 _)
   have row5 : Hid ((w4.setCell ⟨p6, 1, none⟩ (.slice V' (k + 1) vc')).ownsRow (p6 + 1) 48 10 (.slice V' (k + 1) vc') (k + 1) ((l' ++ [y]).flatMap Tc.enc)) := Lib.hid (own_setfar (p := ⟨p6, 1, none⟩) g2 (by show p6 < p6 + 1; omega))
   have cor5 : Hid ((l' ++ [y]).length = k + 1 ∧ Cor w.heap.size g l (l' ++ [y]) (w4.setCell ⟨p6, 1, none⟩ (.slice V' (k + 1) vc'))) := Lib.hid ⟨by rw [List.length_append, HCOR.out.1]; rfl, cor4.imp (fun z hz => hz.setT k64 (by decide))⟩
   have br5 : Hid (Below p6 w0 (w4.setCell ⟨p6, 1, none⟩ (.slice V' (k + 1) vc'))) := Lib.hid (br4.setCell (p := ⟨p6, 1, none⟩) (Nat.le_refl _) _)
   clear g2 g3 nown k64 cor4 br4 hrow hsz9 hne k620 k621 l6 e0 e1 e2 e3 e4 e5 e6 e7 e8 l9 f9 q9
   cases V'
   ·go_wp2
    go_roundw
    case rel => exact ⟨k + 1, _, _, _, by omega, by go_num, k65, row5, cor5, br5.out⟩
    case measure => simp [intOf]; omega
   ·go_wp2
    go_roundw
    case rel => exact ⟨k + 1, _, _, _, by omega, by go_num, k65, row5, cor5, br5.out⟩
    case measure => simp [intOf]; omega
  ·obtain rfl : n = k := by omega
   have hlt1 := (Array.getElem?_eq_some_iff.1 HT1.out).1
   obtain ⟨p4, hp4⟩ : ∃ p, p = w.heap.size + 1 := ⟨_, rfl⟩
   have hT1 : wr.heap[p4]? = some (.cells #[.string { data := #[] }, .slice none 0 0] 51 (0, 0)) := by rw [hp4]; exact (HBR.out.block _ (by rw [HP6.out]; exact hlt1)).trans HT1.out
   have hp46 : p4 < p6 := by rw [HP6.out, hp4]; exact hlt1
   have hp4w : w.heap.size ≤ p4 := by omega
   have k6 := K6.out
   have q0 := cell_at hT1 (i := 0) rfl
   have q1 := cell_at hT1 (i := 1) rfl
   have f0 := free_at hT1 (i := 0)
   have f1 := free_at hT1 (i := 1)
   have l4 := cell_lt q0
   have r0 := cell_at k6 (i := 0) rfl
   have r1 := cell_at k6 (i := 1) rfl
   have l6 := cell_lt r0
   have hW : Hid (((wr.setCell ⟨p4, 0, none⟩ (.string nm)).setCell ⟨p4, 1, none⟩ (.slice V n vc)).heap[p4]? = some (.cells #[.string nm, .slice V n vc] 51 (0, 0)) ∧ ((wr.setCell ⟨p4, 0, none⟩ (.string nm)).setCell ⟨p4, 1, none⟩ (.slice V n vc)).ownsRow w.heap.size 48 10 (.slice V n vc) n (l'.flatMap Tc.enc) ∧ Cor w.heap.size g l l' ((wr.setCell ⟨p4, 0, none⟩ (.string nm)).setCell ⟨p4, 1, none⟩ (.slice V n vc)) ∧ Below w.heap.size w ((wr.setCell ⟨p4, 0, none⟩ (.string nm)).setCell ⟨p4, 1, none⟩ (.slice V n vc))) := Lib.hid (by
    have s1 := set_blk (i := 0) hT1 (.string nm)
    have ho := own_setfar (p := ⟨p4, 1, none⟩) (u := .slice V n vc) (own_setfar (p := ⟨p4, 0, none⟩) (u := .string nm) HROW.out (by show p4 < p6 + 1; omega)) (by show p4 < p6 + 1; omega)
    exact ⟨set_blk (i := 1) s1 _, own_low ho (by omega), HCOR.out.2.imp (fun z hz => (hz.setT hT1 (by decide)).setT s1 (by decide)), (HBW.out.setCell (p := ⟨p4, 0, none⟩) hp4w _).setCell (p := ⟨p4, 1, none⟩) hp4w _⟩)
   have HP4 := Lib.hid hp4
   rw [← hp4]
   clear hlt1 hp46 hp4w k6 hT1 hp4 hwk hlt
   cases V
   ·go_wp2
    exact bodyPost_ret (results_blk_tmp (u := 5) rfl rfl hW.out.1 _ Tryd.underlying51 rfl (by kernel_rfl)) rfl ⟨_, _, l', rfl, HCOR.out.1, hW.out.2⟩
   ·go_wp2
    exact bodyPost_ret (results_blk_tmp (u := 5) rfl rfl hW.out.1 _ Tryd.underlying51 rfl (by kernel_rfl)) rfl ⟨_, _, l', rfl, HCOR.out.1, hW.out.2⟩
end Go.Proofs.YtfmgibhffgkieaaDoor
namespace Go.Proofs.YtfmgibhffgkieaaDoor
open Go.RowKit Go.Shelf
set_option maxHeartbeats 8000000
set_option maxRecDepth 100000
attribute [local go_sem] Oper.semAt_some
theorem Cor.low {B B' : Nat} {g : Tc → List Nat} {l l' : List Tc} {w : World} (h : Cor B g l l' w) (hb : B' ≤ B) : Cor B' g l l' w := fun k y hy => by
 obtain ⟨x, a, b, c, d⟩ := h k y hy
 exact ⟨x, a, b, c, own_low d hb⟩
theorem c10 (nm : ByteArray) (A : Option Addr) (n cap : Nat) (l : List Tc) (g : Tc → List Nat) (T : Option Addr) (tn tc : Nat) (w : World) (h19 : ∀ W, Below w.heap.size w W → Calls Tryd.prog 19 #[.agg #[.string nm, .slice A n cap]] W fun en w' => en = .returned (.int .i64 0) ∧ Below W.heap.size W w') (h20 : ∀ W, Below w.heap.size w W → Calls Tryd.prog 20 #[.slice T tn tc] W fun en w' => en = .returned (.int .i64 0) ∧ Below W.heap.size W w') (h21 : ∀ W pT, Below w.heap.size w W → W.heap[pT]? = some (.cells #[.slice T tn tc] 56 (0, 0)) → Calls Tryd.prog 21 #[.agg #[.string nm, .slice A n cap], .func (.func 22) #[] #[.pointer (some ⟨pT, 0, none⟩)]] W fun en w' => ∃ A' c' l', en = .returned (.tuple #[.agg #[.string nm, .slice A' n c'], .int .i64 0]) ∧ l'.length = n ∧ w'.ownsRow W.heap.size 48 10 (.slice A' n c') n (l'.flatMap Tc.enc) ∧ Cor W.heap.size g l l' w' ∧ Below W.heap.size W w') :
  Calls Tryd.prog 10 #[.agg #[.string nm, .slice A n cap], .slice T tn tc] w fun en w' => ∃ A' c' l', en = .returned (.tuple #[.agg #[.string nm, .slice A' n c'], .int .i64 0]) ∧ l'.length = n ∧ w'.ownsRow w.heap.size 48 10 (.slice A' n c') n (l'.flatMap Tc.enc) ∧ Cor w.heap.size g l l' w' ∧ Below w.heap.size w w' := by
 have K19 := Lib.hid h19
 have K20 := Lib.hid h20
 have K21 := Lib.hid h21
 clear h19 h20 h21
 obtain ⟨w0, hW⟩ : ∃ W, W = ((w.alloc (Obj.cells #[.string nm, .slice A n cap] 51)).alloc (Obj.cells #[.slice T tn tc] 56)).alloc (Obj.cells #[.string { data := #[] }, .slice none 0 0] 51) := ⟨_, rfl⟩
 have hT0 : w0.heap[w.heap.size]? = some (.cells #[.string nm, .slice A n cap] 51 (0, 0)) := by rw [hW]; exact heap_old (by simp <;> omega) (heap_old (by simp <;> omega) (heap_new (by simp)))
 have hT1 : w0.heap[w.heap.size + 1]? = some (.cells #[.slice T tn tc] 56 (0, 0)) := by rw [hW]; exact heap_old (by simp <;> omega) (heap_new (by simp))
 have hT2 : w0.heap[w.heap.size + 1 + 1]? = some (.cells #[.string { data := #[] }, .slice none 0 0] 51 (0, 0)) := by rw [hW]; exact heap_new (by simp)
 have hB0 : Below w.heap.size w w0 := by rw [hW]; exact ((((Below.refl _ _).alloc (by first | omega | (simp <;> omega)) _).alloc (by first | omega | (simp <;> omega)) _).alloc (by first | omega | (simp <;> omega)) _)
 go_enter Tryd.func10, Tryd.ntmps10
 go_wp2_with fail
 rw [← hW]
 clear hW
 have qhT0_0 : w0.cell? ⟨w.heap.size, 0, none⟩ = some (.string nm) := cell_at hT0 rfl
 have qhT0_1 : w0.cell? ⟨w.heap.size, 1, none⟩ = some (.slice A n cap) := cell_at hT0 rfl
 have qhT1_0 : w0.cell? ⟨w.heap.size + 1, 0, none⟩ = some (.slice T tn tc) := cell_at hT1 rfl
 have qhT2_0 : w0.cell? ⟨w.heap.size + 1 + 1, 0, none⟩ = some (.string { data := #[] }) := cell_at hT2 rfl
 have qhT2_1 : w0.cell? ⟨w.heap.size + 1 + 1, 1, none⟩ = some (.slice none 0 0) := cell_at hT2 rfl
 refine wp_region_plan [(0, true), (2, true), (1, false), (3, false), (4, false), (5, false), (6, true)] w0.heap.size (by kernel_rfl) (by kernel_rfl) (Nat.le_refl _) (fun _ _ d _ _ h => by cases d <;> exact h) ?_
 have hC : Below w0.heap.size w0 w0 := Below.refl _ _
 have zhT0 : w.heap.size < w0.heap.size := (Array.getElem?_eq_some_iff.1 hT0).1
 have zhT1 : w.heap.size + 1 < w0.heap.size := (Array.getElem?_eq_some_iff.1 hT1).1
 have zhT2 : w.heap.size + 1 + 1 < w0.heap.size := (Array.getElem?_eq_some_iff.1 hT2).1
 repeat (first | (refine wpPlanA_skip _ rfl (by rfl) ?_; simp only [Act.put, List.setIfInBounds_toArray, List.set_cons_zero, List.set_cons_succ]) | (refine wpPlanA_soft _ ?_ rfl (by rfl) ?_ ?_; rotate_left; (intro wq hq hcq; go_simp; first | exact rfl | exact ⟨rfl, rfl⟩); simp only [Act.put, List.setIfInBounds_toArray, List.set_cons_zero, List.set_cons_succ]))
 refine wpPlanA_hard _ rfl (by rfl) (fun w1 hS K hK => ?_)
 have hB1 := hB0.call hS rfl
 replace hC := hC.call hS rfl
 replace hT0 := blkb hT0 hS
 replace hT1 := blkb hT1 hS
 replace hT2 := blkb hT2 hS
 clear hS hB0
 go_simp
 refine (K19.out _ hB1).mono ?_
 rintro e w2 ⟨rfl, hb⟩
 have hB2 := hB1.call hb rfl
 replace hC := hC.call hb rfl
 replace hT0 := blkb hT0 hb
 replace hT1 := blkb hT1 hb
 replace hT2 := blkb hT2 hb
 clear hb hB1
 refine hK _ _ hC ?_
 clear hK K
 try simp only [Act.put, List.setIfInBounds_toArray, List.set_cons_zero, List.set_cons_succ]
 repeat (first | (refine wpPlanA_skip _ rfl (by rfl) ?_; simp only [Act.put, List.setIfInBounds_toArray, List.set_cons_zero, List.set_cons_succ]) | (refine wpPlanA_soft _ ?_ rfl (by rfl) ?_ ?_; rotate_left; (intro wq hq hcq; go_simp; first | exact rfl | exact ⟨rfl, rfl⟩); simp only [Act.put, List.setIfInBounds_toArray, List.set_cons_zero, List.set_cons_succ]))
 refine wpPlanA_hard _ rfl (by rfl) (fun w3 hS K hK => ?_)
 have hB3 := hB2.call hS rfl
 replace hC := hC.call hS rfl
 replace hT0 := blkb hT0 hS
 replace hT1 := blkb hT1 hS
 replace hT2 := blkb hT2 hS
 clear hS hB2
 go_simp
 refine (K20.out _ hB3).mono ?_
 rintro e w4 ⟨rfl, hb⟩
 have hB4 := hB3.call hb rfl
 replace hC := hC.call hb rfl
 replace hT0 := blkb hT0 hb
 replace hT1 := blkb hT1 hb
 replace hT2 := blkb hT2 hb
 clear hb hB3
 refine hK _ _ hC ?_
 clear hK K
 try simp only [Act.put, List.setIfInBounds_toArray, List.set_cons_zero, List.set_cons_succ]
 repeat (first | (refine wpPlanA_skip _ rfl (by rfl) ?_; simp only [Act.put, List.setIfInBounds_toArray, List.set_cons_zero, List.set_cons_succ]) | (refine wpPlanA_soft _ ?_ rfl (by rfl) ?_ ?_; rotate_left; (intro wq hq hcq; go_simp; first | exact rfl | exact ⟨rfl, rfl⟩); simp only [Act.put, List.setIfInBounds_toArray, List.set_cons_zero, List.set_cons_succ]))
 refine wpPlanA_hard _ rfl (by rfl) (fun w5 hS K hK => ?_)
 have hB5 := hB4.call hS rfl
 replace hC := hC.call hS rfl
 replace hT0 := blkb hT0 hS
 replace hT1 := blkb hT1 hS
 replace hT2 := blkb hT2 hS
 clear hS hB4
 go_simp
 have hb : Below w5.heap.size w5 (w5.alloc (Obj.cells #[.int .i64 0, .int .i64 0] 36)) := (Below.refl _ _).alloc (Nat.le_refl _) _
 have hN : (w5.alloc (Obj.cells #[.int .i64 0, .int .i64 0] 36)).heap[w5.heap.size]? = some (Obj.cells #[.int .i64 0, .int .i64 0] 36) := heap_new rfl
 refine hK _ _ (hC.alloc hC.size _) ?_
 clear hK K
 replace hC := hC.call hb rfl
 have hB6 := hB5.call hb rfl
 replace hT0 := blkb hT0 hb
 replace hT1 := blkb hT1 hb
 replace hT2 := blkb hT2 hb
 clear hb hB5
 generalize hWn : w5.alloc (Obj.cells #[.int .i64 0, .int .i64 0] 36) = w6 at hN hC hB6 hT0 hT1 hT2 ⊢
 clear hWn
 generalize hWn : w5.heap.size = bhN at hN ⊢
 clear hWn
 try simp only [Act.put, List.setIfInBounds_toArray, List.set_cons_zero, List.set_cons_succ]
 repeat (first | (refine wpPlanA_skip _ rfl (by rfl) ?_; simp only [Act.put, List.setIfInBounds_toArray, List.set_cons_zero, List.set_cons_succ]) | (refine wpPlanA_soft _ ?_ rfl (by rfl) ?_ ?_; rotate_left; (intro wq hq hcq; go_simp; first | exact rfl | exact ⟨rfl, rfl⟩); simp only [Act.put, List.setIfInBounds_toArray, List.set_cons_zero, List.set_cons_succ]))
 refine wpPlanA_hard _ rfl (by rfl) (fun w7 hS K hK => ?_)
 have hB7 := hB6.call hS rfl
 replace hC := hC.call hS rfl
 replace hT0 := blkb hT0 hS
 replace hT1 := blkb hT1 hS
 replace hT2 := blkb hT2 hS
 replace hN := blkb hN hS
 clear hS hB6
 go_simp
 refine (c18 _ 2 2 [0, 0] _ rfl (by omega) (RdS.of_block (cs := encI [0, 0]) hN rfl)).mono ?_
 rintro e w' ⟨rfl, rfl⟩
 refine hK _ _ hC ?_
 clear hK K
 try simp only [Act.put, List.setIfInBounds_toArray, List.set_cons_zero, List.set_cons_succ]
 rw [show Mo.first [0, 0] = 0 from rfl]
 repeat (first | (refine wpPlanA_skip _ rfl (by rfl) ?_; simp only [Act.put, List.setIfInBounds_toArray, List.set_cons_zero, List.set_cons_succ]) | (refine wpPlanA_soft _ ?_ rfl (by rfl) ?_ ?_; rotate_left; (intro wq hq hcq; go_simp; first | exact rfl | exact ⟨rfl, rfl⟩); simp only [Act.put, List.setIfInBounds_toArray, List.set_cons_zero, List.set_cons_succ]))
 clear hN
 clear qhT0_0 qhT0_1 qhT1_0 qhT2_0 qhT2_1
 refine wpPlanA_nil (fun w8 hS => ?_)
 clear hC zhT0 zhT1 zhT2
 have hB8 := hB7.call hS rfl
 replace hT0 := blkb hT0 hS
 replace hT1 := blkb hT1 hS
 replace hT2 := blkb hT2 hS
 clear hS hB7
 have qhT0_0 : w8.cell? ⟨w.heap.size, 0, none⟩ = some (.string nm) := cell_at hT0 rfl
 have qhT0_1 : w8.cell? ⟨w.heap.size, 1, none⟩ = some (.slice A n cap) := cell_at hT0 rfl
 have qhT1_0 : w8.cell? ⟨w.heap.size + 1, 0, none⟩ = some (.slice T tn tc) := cell_at hT1 rfl
 have qhT2_0 : w8.cell? ⟨w.heap.size + 1 + 1, 0, none⟩ = some (.string { data := #[] }) := cell_at hT2 rfl
 have qhT2_1 : w8.cell? ⟨w.heap.size + 1 + 1, 1, none⟩ = some (.slice none 0 0) := cell_at hT2 rfl
 go_wp2_with fail
 have HBP := Lib.hid hB8
 have HLT := Lib.hid (Array.getElem?_eq_some_iff.1 hT2).1
 refine (K21.out _ (w.heap.size + 1) hB8 hT1).mono ?_
 rintro e w9 ⟨A', c', l', rfl, hln, hrd, hcor, hb⟩
 clear qhT0_0 qhT0_1 qhT1_0 qhT2_0 qhT2_1
 have hS := hb
 have hB9 := hB8.call hS rfl
 replace hT0 := blkb hT0 hS
 replace hT1 := blkb hT1 hS
 replace hT2 := blkb hT2 hS
 clear hS hB8
 have qhT0_0 : w9.cell? ⟨w.heap.size, 0, none⟩ = some (.string nm) := cell_at hT0 rfl
 have qhT0_1 : w9.cell? ⟨w.heap.size, 1, none⟩ = some (.slice A n cap) := cell_at hT0 rfl
 have qhT1_0 : w9.cell? ⟨w.heap.size + 1, 0, none⟩ = some (.slice T tn tc) := cell_at hT1 rfl
 have qhT2_0 : w9.cell? ⟨w.heap.size + 1 + 1, 0, none⟩ = some (.string { data := #[] }) := cell_at hT2 rfl
 have qhT2_1 : w9.cell? ⟨w.heap.size + 1 + 1, 1, none⟩ = some (.slice none 0 0) := cell_at hT2 rfl
 obtain ⟨p4, hp4⟩ : ∃ p, p = w.heap.size + 1 + 1 := ⟨_, rfl⟩
 rw [← hp4] at hT2 qhT2_0 qhT2_1
 have hszp : w.heap.size ≤ w8.heap.size := HBP.out.size
 have hp4w : w.heap.size ≤ p4 := by omega
 have f0 := free_at hT2 (i := 0)
 have f1 := free_at hT2 (i := 1)
 have l4 := cell_lt qhT2_0
 have hW : Hid (((w9.setCell ⟨p4, 0, none⟩ (.string nm)).setCell ⟨p4, 1, none⟩ (.slice A' n c')).heap[p4]? = some (.cells #[.string nm, .slice A' n c'] 51 (0, 0)) ∧ ((w9.setCell ⟨p4, 0, none⟩ (.string nm)).setCell ⟨p4, 1, none⟩ (.slice A' n c')).ownsRow w.heap.size 48 10 (.slice A' n c') n (l'.flatMap Tc.enc) ∧ Cor w.heap.size g l l' ((w9.setCell ⟨p4, 0, none⟩ (.string nm)).setCell ⟨p4, 1, none⟩ (.slice A' n c')) ∧ Below w.heap.size w ((w9.setCell ⟨p4, 0, none⟩ (.string nm)).setCell ⟨p4, 1, none⟩ (.slice A' n c'))) := Lib.hid (by
  have s1 := set_blk (i := 0) hT2 (.string nm)
  have hlt := HLT.out
  rw [← hp4] at hlt
  exact ⟨set_blk (i := 1) s1 _, own_low (own_setfar (p := ⟨p4, 1, none⟩) (own_setfar (p := ⟨p4, 0, none⟩) hrd (by show p4 < _; omega)) (by show p4 < _; omega)) hszp, (Cor.low hcor hszp).imp (fun z hz => (hz.setT hT2 (by decide)).setT s1 (by decide)), (hB9.setCell (p := ⟨p4, 0, none⟩) hp4w _).setCell (p := ⟨p4, 1, none⟩) hp4w _⟩)
 have HL := Lib.hid hln
 rw [← hp4]
 clear hrd hcor hln hszp hp4w hT2 hT0 hT1 hp4
 go_wp2
 exact bodyPost_ret (results_blk_tmp (u := 5) rfl rfl hW.out.1 _ Tryd.underlying51 rfl (by kernel_rfl)) rfl ⟨_, _, l', rfl, HL.out, hW.out.2⟩
end Go.Proofs.YtfmgibhffgkieaaDoor
namespace Go.Proofs.YtfmgibhffgkieaaDoor
open Go.RowKit Go.Shelf
set_option maxHeartbeats 8000000
set_option maxRecDepth 100000
attribute [local go_sem] Oper.semAt_some
theorem c11 (A : Option Addr) (n cap : Nat) (fs : List Nat) (p : Nat) (w : World) (hn : 1 ≤ n ∧ n ≤ 1024) (hln : fs.length = n) (H : RdS w 1 A n (encF fs)) (hr : ∀ v ∈ fs, v = 0 ∨ v = 1065353216) (hp : fs[p]? = some 1065353216) (hlt : ∀ j, j < p → fs[j]? = some 0) :
  Calls Tryd.prog 11 #[.slice A n cap] w fun en w' => en = .returned (.tuple #[.int .i64 (p : Nat), .int .i64 0]) ∧ Below w.heap.size w w' := by
 have HN := Lib.hid hn
 have HLN := Lib.hid hln
 have HRR := Lib.hid hr
 have HPP := Lib.hid hp
 have HLT := Lib.hid hlt
 have HPN : Hid (p < n) := Lib.hid (by rw [← hln]; exact (List.getElem?_eq_some_iff.1 hp).1)
 have hz : ((n : Int) == 0) = false := by simp; omega
 have K30 := Lib.hid (c30 A n cap fs w (by omega) H hr)
 have HH := Lib.hid H
 clear hn hln hr hp hlt H
 go_enter Tryd.func11, Tryd.ntmps11
 go_wp2_with fail
 refine wp_scope_straight ?_
 go_wp2_with fail
 refine K30.out.mono ?_
 rintro e w1 ⟨rfl, hb1⟩
 have HB1 := Lib.hid hb1
 clear hb1
 go_wp2_with fail
 refine (c31 false 12 _).mono ?_
 rintro e w' ⟨rfl, rfl⟩
 rw [show Mo.when false 12 = 0 from rfl]
 go_wp2_with fail
 refine (grown_of (c29 _ 2 2 [0, 0] _ rfl (by omega) (RdS.of_block (cs := encI [0, 0]) (heap_new rfl) rfl))).mono ?_
 rintro e w2 ⟨rfl, hb2⟩
 rw [show Mo.first [0, 0] = 0 from rfl]
 have HB2 : Hid (Below w.heap.size w w2) := Lib.hid ((HB1.out.alloc HB1.out.size _).call hb2 rfl)
 clear hb2
 go_wp2_with fail
 go_step3
 go_wp2_with fail
 refine (c32 A n cap fs whl _ (by have := HN.out; omega) (RdS.below HH.out HB2.out) (fun W x hx => (c33 (bt_whl (HRR.out x hx)) W).mono (fun e w' h => ⟨h.1, h.2 ▸ Below.refl _ _⟩))).mono ?_
 rintro e w3 ⟨A3, c3, rfl, ho3, hb3⟩
 obtain ⟨_, _, he3, hr3, _⟩ := own_form ho3
 cases he3
 have HI3 : Hid (RdI w3 A3 n (fs.map whl)) := Lib.hid hr3
 have HB3 : Hid (Below w.heap.size w w3) := Lib.hid (HB2.out.call hb3 rfl)
 clear ho3 hr3 hb3 hz
 go_wp2_with fail
 go_loopw [5, 6, 23] (fun t5 t6 iv wr => ∃ k : Nat, k ≤ n ∧ iv = .int .i64 (k : Nat) ∧ wr = w3 ∧ ((k = 0 ∧ t5 = .int .i64 0 ∧ t6 = .int .i64 (-1)) ∨ (0 < k ∧ k ≤ p ∧ t5 = .int .i64 0 ∧ t6 = .int .i64 0) ∨ (p < k ∧ t5 = .int .i64 (p : Nat) ∧ t6 = .int .i64 16))) (fun _ _ iv _ => n - (intOf iv).toNat)
 case atStart => exact ⟨0, Nat.zero_le _, rfl, rfl, .inl ⟨rfl, rfl, rfl⟩⟩
 case round =>
  obtain ⟨k, hk, rfl, rfl, hst⟩ := hrel
  have hwk : IntKind.i64.wrap ((k : Int) + 1) = ((k + 1 : Nat) : Int) := by rw [wrapI (by have := HN.out; omega)]; simp
  by_cases hlt : k < n
  ·have hlti : (k : Int) < (n : Int) := by omega
   obtain ⟨x, hx⟩ : ∃ x, fs[k]? = some x := ⟨fs[k]'(by have := HLN.out; omega), List.getElem?_eq_getElem (by have := HLN.out; omega)⟩
   obtain ⟨b, off, x', rfl, hx', zb, hq⟩ := HI3.out.at hlt
   obtain rfl : x' = whl x := by rw [List.getElem?_map, hx] at hx'; cases hx'; rfl
   clear hx'
   have hxv : (k < p → whl x = 0) ∧ (k = p → whl x = 16) ∧ (whl x = 0 ∨ whl x = 16) := by
    refine ⟨fun h => ?_, fun h => ?_, ?_⟩
    ·rw [HLT.out k h] at hx; cases hx; rfl
    ·rw [h, HPP.out] at hx; cases hx; rfl
    ·rcases HRR.out x (List.mem_of_getElem? hx) with h | h <;> simp [whl, h]
   obtain ⟨y, hy⟩ : ∃ y, y = whl x := ⟨_, rfl⟩
   rw [← hy] at hq hxv
   clear hx hy
   obtain ⟨h1, h2, h3⟩ := hxv
   have n0 : IntKind.i64.wrap (-(0 : Int)) = 0 := rfl
   have n16 : IntKind.i64.wrap (-(16 : Int)) = -16 := rfl
   have HK1 : Hid (k + 1 ≤ n) := Lib.hid (by omega)
   have HP1 := HPN.out
   rcases hst with ⟨hk0, rfl, rfl⟩ | ⟨hk0, hkp, rfl, rfl⟩ | ⟨hkp, rfl, rfl⟩
   ·have hks : Hid (k = 0) := Lib.hid hk0
    by_cases hkp2 : k = p
    ·obtain rfl := h2 hkp2
     have HE : Hid (p < k + 1) := Lib.hid (by omega)
     have HV : Hid (Value.int .i64 (k : Nat) = Value.int .i64 (p : Nat)) := Lib.hid (by rw [hkp2])
     clear hkp2 hk0 HP1
     have HH1 := Lib.hid (show n - (k + 1) < n - k by omega)
     clear h1 h2 h3 hks
     go_wp2
     go_roundw
     case rel => exact ⟨k + 1, HK1.out, by go_num, (by first | exact rfl | trivial), .inr (.inr ⟨HE.out, by first | exact HV.out | (have := HV.out; simpa using this), rfl⟩)⟩
     case measure => simp [intOf]; have := HH1.out; omega
    ·obtain rfl := h1 (by omega)
     have HE : Hid (0 < k + 1 ∧ k + 1 ≤ p) := Lib.hid (by omega)
     have HV : Hid (Value.int .i64 (k : Nat) = Value.int .i64 0) := Lib.hid (by rw [hk0]; rfl)
     clear hkp2 hk0 HP1
     have HH1 := Lib.hid (show n - (k + 1) < n - k by omega)
     clear h1 h2 h3 hks
     go_wp2
     go_roundw
     case rel => exact ⟨k + 1, HK1.out, by go_num, (by first | exact rfl | trivial), .inr (.inl ⟨HE.out.1, HE.out.2, by first | exact HV.out | (have := HV.out; simpa using this), rfl⟩)⟩
     case measure => simp [intOf]; have := HH1.out; omega
   ·have hks : Hid (k + 1 ≤ n) := Lib.hid (by omega)
    by_cases hkp2 : k = p
    ·obtain rfl := h2 hkp2
     have HE : Hid (p < k + 1) := Lib.hid (by omega)
     have HV : Hid (Value.int .i64 (k : Nat) = Value.int .i64 (p : Nat)) := Lib.hid (by rw [hkp2])
     clear hkp2 hk0 hkp HP1
     have HH1 := Lib.hid (show n - (k + 1) < n - k by omega)
     clear h1 h2 h3 hks
     go_wp2
     go_roundw
     case rel => exact ⟨k + 1, HK1.out, by go_num, (by first | exact rfl | trivial), .inr (.inr ⟨HE.out, by first | exact HV.out | (have := HV.out; simpa using this), rfl⟩)⟩
     case measure => simp [intOf]; have := HH1.out; omega
    ·obtain rfl := h1 (by omega)
     have HE : Hid (0 < k + 1 ∧ k + 1 ≤ p) := Lib.hid (by omega)
     clear hkp2 hk0 hkp HP1
     have HH1 := Lib.hid (show n - (k + 1) < n - k by omega)
     clear h1 h2 h3 hks
     go_wp2
     go_roundw
     case rel => exact ⟨k + 1, HK1.out, by go_num, (by first | exact rfl | trivial), .inr (.inl ⟨HE.out.1, HE.out.2, rfl, rfl⟩)⟩
     case measure => simp [intOf]; have := HH1.out; omega
   ·have hks : Hid (k + 1 ≤ n) := Lib.hid (by omega)
    have HE : Hid (p < k + 1) := Lib.hid (by omega)
    rcases h3 with rfl | rfl
    ·have h3 := HE
     clear hkp HP1
     have HH1 := Lib.hid (show n - (k + 1) < n - k by omega)
     clear h1 h2 h3 hks
     go_wp2
     go_roundw
     case rel => exact ⟨k + 1, HK1.out, by go_num, (by first | exact rfl | trivial), .inr (.inr ⟨HE.out, (by first | exact rfl | trivial), (by first | exact rfl | trivial)⟩)⟩
     case measure => simp [intOf]; have := HH1.out; omega
    ·have h3 := HE
     clear hkp HP1
     have HH1 := Lib.hid (show n - (k + 1) < n - k by omega)
     clear h1 h2 h3 hks
     go_wp2
     go_roundw
     case rel => exact ⟨k + 1, HK1.out, by go_num, (by first | exact rfl | trivial), .inr (.inr ⟨HE.out, (by first | exact rfl | trivial), (by first | exact rfl | trivial)⟩)⟩
     case measure => simp [intOf]; have := HH1.out; omega
  ·obtain rfl : n = k := by omega
   have hpn := HPN.out
   rcases hst with ⟨rfl, rfl, rfl⟩ | ⟨hk0, hkp, rfl, rfl⟩ | ⟨hkp, rfl, rfl⟩
   ·exact absurd hpn (by omega)
   ·exact absurd hpn (by omega)
   ·go_wp2
    simp only [Exit.noGoto_ret]
    go_ret2
    exact ⟨rfl, HB3.out⟩
end Go.Proofs.YtfmgibhffgkieaaDoor
namespace Go.Proofs.YtfmgibhffgkieaaDoor
open Go.RowKit Go.Shelf
set_option maxHeartbeats 8000000
set_option maxRecDepth 100000
attribute [local go_sem] Oper.semAt_some
theorem info55 : (Tryd.prog.info? 55).map (fun i => (i.zero, i.size, i.bytes)) = some (some (.agg #[.int .i64 0, .int .i64 0]), 2, 16) := by kernel_rfl
theorem wp_appD {o : Oper} {a : Act} {w : World} {K : Act → World → Prop} {Q : Exit → Act → World → Prop} (s x : Operand)
  (ho : o.op = .call { callee := .builtin .append, args := #[s, x], argTypes := #[56, 56] })
  (base : Nat) (v : Value) (n : Nat) (xs ys : List Td) (hs : a.eval s = v) (hown : w.ownsRow base 55 2 v n (xs.flatMap Td.enc))
  (A : Option Addr) (m c : Nat) (hx : a.eval x = .slice A m c) (H : RdT w A m ys) (hnm : n + m ≤ 1000000) (hbase : base ≤ w.heap.size)
  (h : ∀ v' w', w'.ownsRow base 55 2 v' (n + m) ((xs ++ ys).flatMap Td.enc) → Below base w w' → K (a.put o.dst v') w') : o.wp Tryd.prog a w K Q := by
 obtain ⟨i0, hi, hz0, hz1, hz2⟩ := info_parts info55
 have e : (xs ++ ys).flatMap Td.enc = xs.flatMap Td.enc ++ ys.flatMap Td.enc := by simp
 cases A with
 | none =>
  obtain rfl : m = 0 := RdS.none0 H
  have hy : ys.flatMap Td.enc = [] := List.eq_nil_of_length_eq_zero (by simpa using H.1)
  have hr := run_app_none3 56 o.type 55 i0 Tryd.underlying56 hi v n _ hown c
  have := h v w (by rw [e, hy, Nat.add_zero, List.append_nil]; exact hown) (Below.refl _ _)
  unfold Oper.wp
  simp only [execOp, ho, resolve, invoke, builtin, Sem.run_bind, Sem.run_pure, Result.andThen_ok, List.map_toArray, List.map_cons, List.map_nil, hs, hx, hr]
  exact this
 | some ad =>
  refine wp_append_own w s x 56 ho base 55 i0 (.agg #[.int .i64 0, .int .i64 0]) 2 16 Tryd.underlying56 hi hz0 hz1 hz2 rfl (by decide) v n _ hs hown ad m c _ hx (by rw [H.1]) (RdS.news H (by omega)) ?_ (by unfold maxLen; omega) ?_ hbase (fun v' w' h2 h3 _ => h v' w' (by rw [e]; exact h2) ((Below.refl _ _).grown h3 hbase (own_base3 hown)))
  ·intro u hu; simp [Td.enc] at hu; obtain ⟨q, _, rfl | rfl | rfl⟩ := hu <;> rfl
  ·omega
/-- the tide at a tick -/
def lvN (h tick : Int) : Int := if tick = 0 then 0 else Mo.lown (h * tick) 100
def lvD (h tick : Int) : Int := if tick = 0 then 1 else Mo.lowd (h * tick) 100
def lvS (h tick : Int) : Int := Mo.near (lvN h tick) (lvD h tick)
theorem lv_all : ∀ (a : Fin 17) (i : Fin 6), 1 ≤ lvD ((a.val : Int) - 8) (20 * (i.val : Int)) ∧ lvD ((a.val : Int) - 8) (20 * (i.val : Int)) ≤ 100 ∧ -1000 ≤ lvN ((a.val : Int) - 8) (20 * (i.val : Int)) ∧ lvN ((a.val : Int) - 8) (20 * (i.val : Int)) ≤ 1000 ∧ -8 ≤ lvS ((a.val : Int) - 8) (20 * (i.val : Int)) ∧ lvS ((a.val : Int) - 8) (20 * (i.val : Int)) ≤ 8 := by decide +kernel
theorem lv_ok {h : Int} (hh : -8 ≤ h ∧ h ≤ 8) {i : Nat} (hi : i < 6) : 1 ≤ lvD h (20 * (i : Int)) ∧ lvD h (20 * (i : Int)) ≤ 100 ∧ -1000 ≤ lvN h (20 * (i : Int)) ∧ lvN h (20 * (i : Int)) ≤ 1000 ∧ -8 ≤ lvS h (20 * (i : Int)) ∧ lvS h (20 * (i : Int)) ≤ 8 := by
 have := lv_all ⟨(h + 8).toNat, by omega⟩ ⟨i, hi⟩
 simp only at this
 rw [show (((h + 8).toNat : Nat) : Int) - 8 = h by omega] at this
 exact this
def tdl (h : Int) : List Td := [⟨0, 0⟩, ⟨100, h⟩, ⟨101, -h⟩]
theorem tdl_ok {h : Int} (hh : -8 ≤ h ∧ h ≤ 8) : OkT (tdl h) := by
 refine ⟨fun x hx => ?_, fun k x y hx hy => ?_⟩
 ·unfold tdl at hx
  simp only [List.mem_cons, List.not_mem_nil, or_false] at hx
  rcases hx with rfl | rfl | rfl <;> simp only <;> omega
 ·match k with
  | 0 => cases hx; cases hy; show (0 : Int) < 100; decide
  | 1 => cases hx; cases hy; show (100 : Int) < 101; decide
  | k + 2 => exact absurd hy (by simp [tdl])
theorem c23_at (T : Option Addr) (tc : Nat) (h : Int) (i : Nat) (w : World) (hh : -8 ≤ h ∧ h ≤ 8) (hi : i < 6) (H : RdT w T 3 (tdl h)) :
  Calls Tryd.prog 23 #[.slice T 3 tc, .int .i64 (20 * (i : Int))] w fun en w' => en = .returned (.agg #[.int .i64 (lvN h (20 * (i : Int))), .int .i64 (lvD h (20 * (i : Int)))]) ∧ Below w.heap.size w w' := by
 by_cases h0 : i = 0
 ·subst h0
  exact c23_0 T 3 tc (tdl h) 0 ⟨0, 0⟩ ⟨101, -h⟩ w (by omega) H rfl rfl (by decide)
 ·have e : ¬ (20 * (i : Int) = 0) := by omega
  unfold lvN lvD
  rw [if_neg e, if_neg e]
  exact c23_1 T 3 tc (tdl h) (20 * (i : Int)) h ⟨101, -h⟩ w (by omega) H rfl rfl rfl (by omega) hh
/-- a trace with one spike -/
def spk (p : Int) : List Nat := (List.range 80).map fun (j : Nat) => if (j : Int) = p then 1065353216 else 0
theorem spk_len (p : Int) : (spk p).length = 80 := by simp [spk]
theorem spk_or (p : Int) : ∀ v ∈ spk p, v = 0 ∨ v = 1065353216 := by
 intro v hv
 obtain ⟨j, _, rfl⟩ := List.mem_map.1 hv
 by_cases h : (j : Int) = p <;> simp [h]
theorem spk_at (p : Int) {j : Nat} (hj : j < 80) : (spk p)[j]? = some (if (j : Int) = p then 1065353216 else 0) := by
 unfold spk
 rw [List.getElem?_map, List.getElem?_range hj]
 rfl
theorem atI_spk (p i : Int) (hp : 0 ≤ p ∧ p < 80) : atI ((spk p).map whl) i = if i = p then 16 else 0 := by
 unfold atI
 by_cases h : i < 0
 ·rw [if_pos h, if_neg (by omega)]
 ·rw [if_neg h, List.getElem?_map]
  by_cases h2 : i.toNat < 80
  ·rw [spk_at p h2]
   by_cases e : i = p
   ·rw [if_pos (by omega), if_pos e]; rfl
   ·rw [if_neg (by omega), if_neg e]; rfl
  ·rw [List.getElem?_eq_none (by rw [spk_len]; omega), if_neg (by omega)]; rfl
theorem shiftF_len (fs : List Nat) (s : Int) : (shiftF fs s).length = fs.length := by simp [shiftF, shiftL_len]
theorem shiftF_at (fs : List Nat) (s : Int) {j : Nat} (hj : j < fs.length) : (shiftF fs s)[j]? = some (smp (atI (fs.map whl) ((j : Int) + s))) := by
 unfold shiftF shiftL
 rw [List.getElem?_map, List.getElem?_map, List.getElem?_range hj]
 rfl
theorem shiftF_or (fs : List Nat) (s : Int) : ∀ v ∈ shiftF fs s, v = 0 ∨ v = 1065353216 := by
 intro v hv
 obtain ⟨x, hx, rfl⟩ := List.mem_map.1 hv
 rcases shiftL_or fs s x hx with rfl | rfl <;> simp [smp]
theorem shift_spk {p s : Int} {q : Nat} (hp : 0 ≤ p ∧ p < 80) (hq : q < 80) (e : (q : Int) = p - s) : (shiftF (spk p) s)[q]? = some 1065353216 ∧ ∀ j, j < q → (shiftF (spk p) s)[j]? = some 0 := by
 refine ⟨?_, fun j hj => ?_⟩
 ·rw [shiftF_at _ _ (by rw [spk_len]; exact hq), atI_spk p _ hp, if_pos (by omega)]; rfl
 ·rw [shiftF_at _ _ (by rw [spk_len]; omega), atI_spk p _ hp, if_neg (by omega)]; rfl
end Go.Proofs.YtfmgibhffgkieaaDoor
namespace Go.Proofs.YtfmgibhffgkieaaDoor
open Go.RowKit Go.Shelf
set_option maxHeartbeats 8000000
set_option maxRecDepth 100000
attribute [local go_sem] Oper.semAt_some
theorem wrap64_ok {x : Int} (h : -1000000 ≤ x ∧ x ≤ 1000000) : wrap64 x = x := by unfold wrap64; omega
theorem wgetX (c0 c1 c2 c15 c16 : Value) (xs : Nat → Int) (j : Nat) (hj : j < 12) : (#[c0, c1, c2, .int .i8 (xs 0), .int .i8 (xs 1), .int .i8 (xs 2), .int .i8 (xs 3), .int .i8 (xs 4), .int .i8 (xs 5), .int .i8 (xs 6), .int .i8 (xs 7), .int .i8 (xs 8), .int .i8 (xs 9), .int .i8 (xs 10), .int .i8 (xs 11), c15, c16] : Array Value)[3 + j]? = some (.int .i8 (xs j)) := by
 match j with
 | 0 => rfl
 | 1 => rfl
 | 2 => rfl
 | 3 => rfl
 | 4 => rfl
 | 5 => rfl
 | 6 => rfl
 | 7 => rfl
 | 8 => rfl
 | 9 => rfl
 | 10 => rfl
 | 11 => rfl
 | j + 12 => omega
/-- the traces of a survey -/
def trk (l' : List Tc) (B : Nat) (at0 : Nat → Int) (w : World) : Prop := ∀ (k : Nat) (y : Tc), l'[k]? = some y → y.off = 20 * (k : Int) ∧ y.fs = spk (at0 k) ∧ OwF B w y
theorem trk.nil (B : Nat) (a : Nat → Int) (w : World) : trk [] B a w := fun k y h => by simp at h
theorem trk.push {l' : List Tc} {B : Nat} {a : Nat → Int} {w : World} {y : Tc} (h : trk l' B a w) (h1 : y.off = 20 * (l'.length : Int)) (h2 : y.fs = spk (a l'.length)) (h3 : OwF B w y) : trk (l' ++ [y]) B a w := by
 intro k z hz
 by_cases hk : k < l'.length
 ·rw [List.getElem?_append_left hk] at hz
  exact h k z hz
 ·rw [List.getElem?_append_right (by omega)] at hz
  have : k - l'.length = 0 := by
   by_cases h0 : k - l'.length = 0
   ·exact h0
   ·rw [List.getElem?_eq_none (by simp; omega)] at hz; cases hz
  rw [this] at hz
  simp at hz
  subst hz
  have hkl : k = l'.length := by omega
  rw [hkl]
  exact ⟨h1, h2, h3⟩
theorem trk.imp {l' : List Tc} {B : Nat} {a : Nat → Int} {w w' : World} (h : trk l' B a w) (hi : ∀ y, OwF B w y → OwF B w' y) : trk l' B a w' := fun k y hy => by
 obtain ⟨h1, h2, h3⟩ := h k y hy
 exact ⟨h1, h2, hi y h3⟩
theorem spk_block {w : World} {g p : Nat} (F : Nat → Value) (hg : w.heap[g]? = some (.cells (fillA (.float .f32 0) F 80 0) 44 (0, 0))) (hp : p < 80) : (w.setCell ⟨g, p, none⟩ (.float .f32 1065353216)).heap[g]? = some (.cells (encF (spk p)).toArray 44 (0, 0)) := by
 rw [set_blk (i := p) hg]
 congr 2
 apply Array.ext_getElem?
 intro j
 by_cases hj : j < 80
 ·have h1 : (encF (spk p)).toArray[j]? = some (.float .f32 (if (j : Int) = p then 1065353216 else 0)) := by
   rw [List.getElem?_toArray]
   unfold encF
   rw [List.getElem?_map, spk_at _ hj]; rfl
  rw [h1, Array.getElem?_setIfInBounds, fillA_size, fillA_get _ _ _ _ _ hj, if_neg (Nat.not_lt_zero _)]
  by_cases e : p = j
  ·subst e; simp [hp]
  ·rw [if_neg e, if_neg (by omega)]
 ·rw [Array.getElem?_eq_none (by simp [fillA_size]; omega), Array.getElem?_eq_none (by simp [encF, spk_len]; omega)]
def pk6 (n : Nat) (tm wv : Nat → Int) : List Td := (List.range n).map fun (k : Nat) => ⟨2 * (k : Int), 20 + tm k + wv k⟩
theorem trk.below {l' : List Tc} {B : Nat} {a : Nat → Int} {w w' : World} (h : trk l' B a w) (hb : Below w.heap.size w w') : trk l' B a w' := h.imp (fun y hy => hy.below hb)
theorem row_keptT {B b size n e t : Nat} {w w' : World} {v : Value} {xs : List Value} {cs : Array Value} {f : Nat × Nat} (h : w.ownsRow B e size v n xs) (hk : w.heap[b]? = some (.cells cs t f)) (ht : t ≠ e) (hg : w.grownBy w' (some b)) : w'.ownsRow B e size v n xs := by
 refine h.kept hg ?_
 rcases h.2 with ⟨he, _⟩ | ⟨g, cap, cs', he, h3, h4, h5⟩
 ·left; rw [he]; rfl
 ·right
  rw [he]
  intro e
  cases e
  rw [h4] at hk
  cases hk
  exact ht rfl
/-- a row of traces, own, and its samples -/
def OwR (B : Nat) (A : Option Addr) (n c : Nat) (l : List Tc) (w : World) : Prop := w.ownsRow B 48 10 (.slice A n c) n (l.flatMap Tc.enc)
theorem OwR.below {B : Nat} {A : Option Addr} {n c : Nat} {l : List Tc} {w w' : World} (h : OwR B A n c l w) (hb : Below w.heap.size w w') : OwR B A n c l w' := own_below h hb
theorem OwR.rd {B : Nat} {A : Option Addr} {n c : Nat} {l : List Tc} {w : World} (h : OwR B A n c l w) : RdC w A n l := by
 obtain ⟨_, _, he, hr, _⟩ := own_form h
 cases he
 exact hr
def pco (B : Nat) (l : List Tc) (f : Nat → List Nat) (w : World) : Prop := ∀ (k : Nat) (y : Tc), l[k]? = some y → y.fs = f k ∧ OwF B w y
theorem pco.imp {B : Nat} {l : List Tc} {f : Nat → List Nat} {w w' : World} (h : pco B l f w) (hi : ∀ y, OwF B w y → OwF B w' y) : pco B l f w' := fun k y hy => ⟨(h k y hy).1, hi y (h k y hy).2⟩
theorem pco.below {B : Nat} {l : List Tc} {f : Nat → List Nat} {w w' : World} (h : pco B l f w) (hb : Below w.heap.size w w') : pco B l f w' := h.imp (fun y hy => hy.below hb)
theorem pco.low {B B' : Nat} {l : List Tc} {f : Nat → List Nat} {w : World} (h : pco B l f w) (hb : B' ≤ B) : pco B' l f w := fun k y hy => ⟨(h k y hy).1, own_low (h k y hy).2 hb⟩
theorem nm115 : Nm { data := #[115] } := ⟨rfl, fun _ => (by decide : 97 ≤ (115 : UInt8).toNat ∧ (115 : UInt8).toNat ≤ 122)⟩
theorem k10 (V : Option Addr) (n vc : Nat) (l' : List Tc) (h : Int) (at0 : Nat → Int) (B : Nat) (w : World) (hn : 1 ≤ n ∧ n ≤ 6) (hh : -8 ≤ h ∧ h ≤ 8) (HR : Rng w) (H : RdC w V n l') (ht : trk l' B at0 w) (X : Option Addr) (xc : Nat) (HX : RdT w X 3 (tdl h)) :
  Calls Tryd.prog 10 #[.agg #[.string { data := #[115] }, .slice V n vc], .slice X 3 xc] w fun en w' => ∃ A' c' l'', en = .returned (.tuple #[.agg #[.string { data := #[115] }, .slice A' n c'], .int .i64 0]) ∧ l''.length = n ∧ OwR w.heap.size A' n c' l'' w' ∧ pco w.heap.size l'' (fun k => shiftF (spk (at0 k)) (lvS h (20 * (k : Int)))) w' ∧ Below w.heap.size w w' := by
 have hln := H.len
 have hok : OkC w 80 l' := fun x hx => by
  obtain ⟨k, hk, rfl⟩ := List.getElem_of_mem hx
  obtain ⟨h1, h2, h3⟩ := ht k _ (List.getElem?_eq_getElem hk)
  exact ⟨h3.rd, by rw [h2]; exact spk_or _, by rw [h2]; exact spk_len _, by rw [h1]; omega, by rw [h1]; omega⟩
 have key := c10 { data := #[115] } V n vc l' (fun x => shiftF x.fs (lvS h x.off)) X 3 xc w (fun W hb => c19 _ V n vc l' W nm115 ⟨by omega, by omega⟩ (HR.below hb) (H.below hb) 80 (by omega) (hok.below hb)) (fun W hb => c20 X 3 xc (tdl h) W (by omega) (by omega) (HX.below hb) (tdl_ok hh))
  (fun W pT hb hpT => c21 _ V n vc l' _ pT W (by omega) (H.below hb) (fun x hx => shiftF_len _ _) (fun x hx W2 hb2 => by
   obtain ⟨k, hk, rfl⟩ := List.getElem_of_mem hx
   obtain ⟨h1, h2, h3⟩ := ht k _ (List.getElem?_eq_getElem hk)
   have hm := hok _ hx
   have hv := lv_ok hh (i := k) (by omega)
   rw [← h1] at hv
   refine c22 _ _ _ _ _ pT X 3 xc (lvN h (l'[k]).off) (lvD h (l'[k]).off) W2 (by rw [hm.2.2.1]; omega) rfl (RdS.below (RdS.below hm.1 hb) hb2) hm.2.1 (blkb hpT hb2) (by omega) (by omega) (show -100000 ≤ lvS h (l'[k]).off ∧ lvS h (l'[k]).off ≤ 100000 by omega) (fun W3 hb3 => ?_)
   rw [h1]
   exact c23_at X xc h k W3 hh (by omega) (((HX.below hb).below hb2).below hb3)))
 refine key.mono ?_
 rintro e w' ⟨A', c', l'', rfl, hl, hrow, hcor, hb⟩
 refine ⟨A', c', l'', rfl, hl, hrow, fun k y hy => ?_, hb⟩
 obtain ⟨x, hx, h1, h2, h3⟩ := hcor k y hy
 obtain ⟨g1, g2, g3⟩ := ht k x hx
 exact ⟨by rw [h2]; show shiftF x.fs (lvS h x.off) = _; rw [g1, g2], h3⟩
/-- a copy: an append to an empty row -/
theorem wp_copyG {o : Oper} {a : Act} {w : World} {K : Act → World → Prop} {Q : Exit → Act → World → Prop} (s x : Operand) (t e : TypeId) (i0 : TypeInfo) (z : Value) (size by' : Nat)
  (ht : Tryd.prog.underlying t = some (.slice e)) (hi : Tryd.prog.info? e = some i0) (hz0 : i0.zero = some z) (hz1 : i0.size = size) (hz2 : i0.bytes = by') (hzz : z.cells.size = size) (hby : by' ≤ 128) (hs0 : 0 < size)
  (ho : o.op = .call { callee := .builtin .append, args := #[s, x], argTypes := #[t, t] }) (g : Nat)
  (hs : a.eval s = .slice (some ⟨g, 0, none⟩) 0 0) (ad : Addr) (m c : Nat) (hx : a.eval x = .slice (some ad) m c) (l : List Value) (H : RdS w size (some ad) m l) (hm : 1 ≤ m ∧ m ≤ 1000000)
  (h : ∀ X xc w', RdS w' size X m l → Below w.heap.size w w' → K (a.put o.dst (.slice X m xc)) w') : o.wp Tryd.prog a w K Q := by
 obtain ⟨v', w', hrun, r1, r2⟩ := run_append_arg_grows (P := Tryd.prog) w t o.type e i0 z size by' ht hi hz0 hz1 hz2 hzz hs0 ⟨g, 0, none⟩ 0 0 [] (by simp) (fun j u hu => by simp at hu) ad m c l (by rw [H.1]) (RdS.news H hs0) (by omega) (by unfold maxLen; omega) (by have h1 : (0 + m) * by' ≤ 1000000 * 128 := Nat.mul_le_mul (by omega) hby; omega)
 have hb : Below w.heap.size w w' := (Below.refl _ _).grown r2 (Nat.le_refl _) (fun g hg => by cases hg)
 rw [Nat.zero_add, List.nil_append] at r1
 obtain ⟨X, xc, rfl, hX, hxc, _⟩ := own_form r1
 have hk := h X xc w' hX hb
 unfold Oper.wp
 simp only [execOp, ho, resolve, invoke, builtin, Sem.run_bind, Sem.run_pure, Result.andThen_ok, List.map_toArray, List.map_cons, List.map_nil, hs, hx, hrun]
 exact hk
theorem wp_copyD {o : Oper} {a : Act} {w : World} {K : Act → World → Prop} {Q : Exit → Act → World → Prop} (s x : Operand)
  (ho : o.op = .call { callee := .builtin .append, args := #[s, x], argTypes := #[56, 56] }) (g : Nat)
  (hs : a.eval s = .slice (some ⟨g, 0, none⟩) 0 0) (ad : Addr) (m c : Nat) (hx : a.eval x = .slice (some ad) m c) (l : List Td) (H : RdT w (some ad) m l) (hm : 1 ≤ m ∧ m ≤ 1000000)
  (h : ∀ X xc w', RdT w' X m l → Below w.heap.size w w' → K (a.put o.dst (.slice X m xc)) w') : o.wp Tryd.prog a w K Q := by
 obtain ⟨i0, hi, hz0, hz1, hz2⟩ := info_parts info55
 exact wp_copyG s x 56 55 i0 _ 2 16 Tryd.underlying56 hi hz0 hz1 hz2 rfl (by decide) (by decide) ho g hs ad m c hx _ H hm h
theorem wp_copyF {o : Oper} {a : Act} {w : World} {K : Act → World → Prop} {Q : Exit → Act → World → Prop} (s x : Operand)
  (ho : o.op = .call { callee := .builtin .append, args := #[s, x], argTypes := #[45, 45] }) (g : Nat)
  (hs : a.eval s = .slice (some ⟨g, 0, none⟩) 0 0) (ad : Addr) (m c : Nat) (hx : a.eval x = .slice (some ad) m c) (l : List Nat) (H : RdS w 1 (some ad) m (encF l)) (hm : 1 ≤ m ∧ m ≤ 1000000)
  (h : ∀ X xc w', RdS w' 1 X m (encF l) → Below w.heap.size w w' → K (a.put o.dst (.slice X m xc)) w') : o.wp Tryd.prog a w K Q := by
 obtain ⟨i0, hi, hz0, hz1, hz2⟩ := info_parts info44
 exact wp_copyG s x 45 44 i0 _ 1 4 Tryd.underlying45 hi hz0 hz1 hz2 rfl (by decide) (by decide) ho g hs ad m c hx _ H hm h
def Fresh (B : Nat) (zs : Array Value) (t : TypeId) (v : Value) (w : World) : Prop := ∃ g : Nat, v = .pointer (some ⟨g, 0, none⟩) ∧ B ≤ g ∧ w.heap[g]? = some (.cells zs t (0, 0))
theorem Fresh.below {B : Nat} {zs : Array Value} {t : TypeId} {v : Value} {w w' : World} (h : Fresh B zs t v w) (hb : Below w.heap.size w w') : Fresh B zs t v w' := by
 obtain ⟨g, h1, h2, h3⟩ := h
 exact ⟨g, h1, h2, blkb h3 hb⟩
theorem pk6_succ (n : Nat) (tm wv : Nat → Int) : pk6 (n + 1) tm wv = pk6 n tm wv ++ [⟨2 * (n : Int), 20 + tm n + wv n⟩] := by simp [pk6, List.range_succ]
end Go.Proofs.YtfmgibhffgkieaaDoor
