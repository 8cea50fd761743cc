/- A part of the proofs about chapter 7 (image): contracts of functions and plain laws (V99, V100, PTx3, V101, V102, V103, V104). -/
import Derived.BigRegion
import Derived.Test.YtdimmlljjmmdbaaGreatDoorZ14a
import Derived.Test.YtdimmlljjmmdbaaGreatDoorZ14b
import Derived.Test.YtdimmlljjmmdbaaGreatDoorZ14d
import Derived.Test.YtdimmlljjmmdbaaGreatDoorZ14g
import Derived.Test.YtdimmlljjmmdbaaGreatDoorZ14h
import Derived.Test.YtdimmlljjmmdbaaGreatDoorZ14i
import Derived.Test.YtdimmlljjmmdbaaGreatDoorZ14j
set_option linter.all false
namespace Go.Proofs.YtdimmlljjmmdbaaGreatDoor
open Go.RowKit Go.Shelf
set_option maxHeartbeats 8000000
set_option maxRecDepth 100000
/-- what the program's 'numbers' returns -/
def NQ (w : World) (o : Option (List Int)) (n : Nat) (en : Ending) (w' : World) : Prop :=
 (∀ l, o = some l → ∃ A cap, en = .returned (.tuple #[.slice A n cap, .bool true]) ∧ RdI w' A n l ∧ ∀ g off, A = .some ⟨g, off, .none⟩ → w.heap.size ≤ g) ∧ (o = none → ∃ A k cap, en = .returned (.tuple #[.slice A k cap, .bool false])) ∧ Below w.heap.size w w'
theorem NQ.none {w w' : World} {n k cap : Nat} {A : Option Addr} {o : Option (List Int)} (h : o = .none) (hb : Below w.heap.size w w') : NQ w o n (.returned (.tuple #[.slice A k cap, .bool false])) w' := ⟨fun l e => (by rw [h] at e; cases e), fun _ => ⟨_, _, _, rfl⟩, hb⟩
theorem NQ.some {w w' : World} {n cap : Nat} {o : Option (List Int)} {l : List Int} {A : Option Addr} (h : o = .some l) (hr : RdI w' A n l) (hg : ∀ g off, A = .some ⟨g, off, .none⟩ → w.heap.size ≤ g) (hb : Below w.heap.size w w') : NQ w o n (.returned (.tuple #[.slice A n cap, .bool true])) w' := ⟨fun l' e => (by rw [h] at e; cases e; exact ⟨A, cap, rfl, hr, hg⟩), fun e => (by rw [h] at e; cases e), hb⟩
theorem tail_slice (g M : Nat) : ∃ A', (∀ W : World, (Instr.slice 140 (.slice (some ⟨g, 0, none⟩) (M + 1) (M + 1)) (some (.int .i64 1)) none none).run Tryz.prog W = .ok (.slice (some A') M M) W) ∧ (0 < M → A' = ⟨g, 1, none⟩) := by
 refine ⟨if M = 0 then ⟨g, 0, none⟩ else ⟨g, 1, none⟩, fun W => ?_, fun h => by rw [if_neg (by omega)]⟩
 rw [run_slice_l (P := Tryz.prog) W 140 (some ⟨g, 0, none⟩) (M + 1) (M + 1) (by kernel_rfl) .i64 1 (by omega) (by omega)]
 have hse : (sizeOf (Tryz.prog.elem 140)).run Tryz.prog W = .ok 1 W := by
  have : Tryz.prog.elem 140 = 9 := by kernel_rfl
  rw [this]
  go_simp
 rw [hse]
 simp only [Result.andThen_ok, sliced, Nat.add_sub_cancel, Int.toNat_one]
 by_cases h0 : M = 0
 ·subst h0; simp
 ·rw [if_neg (by omega), if_neg h0]
  simp [Addr.add]
theorem gb_only {W w w' : World} {b : Nat} (h : W.grownBy w (some b)) (k : Only b w w') : W.grownBy w' (some b) :=
 ⟨k.bel.os.trans h.os, k.bel.tape.trans h.tape, k.bel.output.trans h.output, Nat.le_trans h.size k.size, fun i hi hne => by
  have e := h.block i hi hne
  obtain ⟨o, ho⟩ : ∃ o, W.heap[i]? = some o := ⟨_, Array.getElem?_eq_getElem hi⟩
  rw [ho] at e ⊢
  exact k.same i o e (fun e2 => hne (by rw [e2]))⟩
theorem gb_call9 {W w w' : World} {go : Nat} (h : W.grownBy w (some go)) (hb : Below W.heap.size w w') : W.grownBy w' (some go) :=
 ⟨hb.os.trans h.os, hb.tape.trans h.tape, hb.output.trans h.output, Nat.le_trans h.size hb.size, fun k hk hne => (hb.block k hk).trans (h.block k hk hne)⟩
theorem gb_below9 {W w : World} {go B : Nat} (h : W.grownBy w (some go)) (h1 : B ≤ W.heap.size) (h2 : B ≤ go) : Below B W w := (Below.refl B W).grown h h1 (fun j hj => by cases hj; exact h2)
theorem own_only {w w' : World} {B b : Nat} {A : Option Addr} {n c m : Nat} {xs : List Value} (h : Own w B (.slice A n c) m xs) (hg : Only b w w') (hgo : b < B) : Own w' B (.slice A n c) m xs := by
 refine ⟨h.1, ?_⟩
 rcases h.2 with h2 | ⟨g, cap, cur, e, hb, hh, h3⟩
 ·exact .inl h2
 ·exact .inr ⟨g, cap, cur, e, hb, hg.same g _ hh (by omega), h3⟩
theorem Tkr.belowB {w w' : World} {b B : Nat} {ws : List (List UInt8)} {wr : Bool} {A : Option Addr} (h : Tkr w b ws wr A) (hb : Below B w w') (hB : b < B) : Tkr w' b ws wr A := by
 refine ⟨(hb.block b hB).trans h.blk, fun x r e => ?_⟩
 obtain ⟨g, off, hA, hg, hc⟩ := h.rd x r e
 exact ⟨g, off, hA, hg, fun j hj => (hb.cell (p := ⟨g, off + j, none⟩) (Nat.lt_trans hg hB)).trans (hc j hj)⟩
theorem nums_all {word : List UInt8} {n : Nat} {b : List UInt8} {ws : List (List UInt8)} (h : Tx.split 32 b = word :: ws) (ha : ws.all Tx.num = false) : Tx.nums word n b = none := by
 unfold Tx.nums; rw [h]; simp only; rw [if_neg (fun h => by rw [ha] at h; cases h.2.2)]
theorem iv_all : ∀ {ws : List (List UInt8)}, ws.all Tx.num = true → (ws.map fun y => (Tx.iv y : Int)) = ws.map fun y => (Tx.val y : Int)
 | [], _ => rfl
 | y :: ws, h => by
  simp only [List.all_cons, Bool.and_eq_true] at h
  rw [List.map_cons, List.map_cons, iv_all h.2, Tx.iv_num h.1]
theorem c138 (b word : List UInt8) (n : Nat) (m0 : Int) (w : World) (hb : b.length ≤ 1000000) (hn : n ≤ 1000000000) (hm0 : w.cell? ⟨1, 0, none⟩ = some (.int .i64 m0)) : Calls Tryz.prog 138 #[.string (Tx.bs b), .string (Tx.bs word), .int .i64 n] w (NQ w (Tx.nums word n b) n) := by
 obtain ⟨x, ws, hsp⟩ : ∃ x ws, Tx.split 32 b = x :: ws := by
  cases h : Tx.split 32 b with
  | nil => exact absurd h (Tx.split_ne 32 b)
  | cons x ws => exact ⟨x, ws, rfl⟩
 have h167 := c167 b m0 w hb hm0
 obtain ⟨m, hm⟩ : ∃ m, m = ws.length := ⟨_, rfl⟩
 have hml := Tx.split_len_le 32 b
 have hpc := Tx.piece_le (c := 32) (l := b)
 have hlm : (x :: ws).length = m + 1 := by simp [hm]
 rw [hsp] at hml h167 hpc
 rw [hlm] at h167 hml
 have hmb : m ≤ 1000000 := by omega
 have HPC : Hid (∀ p ∈ x :: ws, p.length ≤ 1000000) := Lib.hid (fun p hp => by have := hpc p hp; omega)
 have H167 := Lib.hid h167
 have HM := Lib.hid hm
 have HSP := Lib.hid hsp
 clear h167 hml hlm hm hsp hb hpc
 obtain ⟨BB, hBB⟩ : ∃ L, L = Tx.bs b := ⟨_, rfl⟩
 rw [← hBB] at H167 ⊢
 clear hBB
 obtain ⟨n1, hn1⟩ : ∃ z : Int, z = 1 + (n : Int) := ⟨_, rfl⟩
 have hwn : IntKind.i64.wrap (1 + (n : Int)) = n1 := by rw [hn1, wrapI (by omega)]
 have HN1 := Lib.hid hn1
 clear hn1
 go_enter Tryz.func138, Tryz.ntmps138
 go_wp2_with fail
 refine H167.out.mono ?_
 rintro e w1 ⟨rfl, hw1⟩
 have hB1 : Below w.heap.size w w1 := by rw [hw1]; exact bl2 _ _
 have hT0 : w1.heap[w.heap.size]? = some (.cells (Tx.cells (x :: ws)).toArray 9 (0, 0)) := by rw [hw1]; exact heap_new rfl
 have q0 : w1.cell? ⟨w.heap.size, 0, none⟩ = some (.string (Tx.bs x)) := cell_at hT0 (by simp [Tx.cells])
 clear hw1
 have hm0 : (0 : Int) < (m : Int) + 1 := by omega
 obtain ⟨X, hX⟩ : ∃ L, L = Tx.bs x := ⟨_, rfl⟩
 obtain ⟨Y, hY⟩ : ∃ L, L = Tx.bs word := ⟨_, rfl⟩
 rw [← hX] at q0
 rw [← hY]
 by_cases hxw : x = word
 rotate_left
 ·have hP := Lib.hid (Tx.nums_word (word := word) (n := n) HSP.out hxw)
  have hxy : (X.toList == Y.toList) = false := by
   rw [hX, hY, bs_tl, bs_tl]
   simpa using hxw
  clear hX hY hxw hT0
  go_wp2
  go_ret2
  exact NQ.none hP.out hB1
 subst hxw
 have hxy : (X.toList == Y.toList) = true := by rw [hX, hY]; simp
 clear hX hY
 by_cases hmn : m = n
 rotate_left
 ·have hP := Lib.hid (Tx.nums_len (word := x) (n := n) HSP.out (by rw [← HM.out]; exact hmn))
  have hne : (((m : Int) + 1) != n1) = true := by
   have := HN1.out
   simp only [bne_iff_ne, ne_eq]; omega
  clear hmn hT0
  go_wp2
  go_ret2
  exact NQ.none hP.out hB1
 subst hmn
 have hne : (((m : Int) + 1) != n1) = false := by have := HN1.out; simp only [bne_eq_false_iff_eq]; omega
 obtain ⟨A', hsl, hA'⟩ := tail_slice w.heap.size m
 obtain ⟨w2, hw2⟩ : ∃ W, W = w1.alloc (Obj.cells #[.slice (some A') m m, .bool false] 231) := ⟨_, rfl⟩
 have hb2 := bl2 w1 (Obj.cells #[.slice (some A') m m, .bool false] 231)
 rw [← hw2] at hb2
 have HB2 := Lib.hid (hB1.call hb2 rfl)
 have HTK : Hid (Tkr w2 w1.heap.size ws false (some A')) := Lib.hid ⟨by rw [← HM.out, hw2]; exact heap_new rfl, fun y r e => by
  have h0 : 0 < m := by rw [HM.out, e]; simp
  refine ⟨w.heap.size, 1, by rw [hA' h0], (Array.getElem?_eq_some_iff.1 hT0).1, fun j hj => ?_⟩
  have h1 := cell_at (i := j + 1) (v := .string (Tx.bs (ws[j]'hj))) (blkb hT0 hb2) (by simp [Tx.cells, hj])
  rw [show 1 + j = j + 1 by omega, h1]
  simp [Tx.cells, hj]⟩
 have hsz2 : w2.heap.size = w1.heap.size + 1 := by rw [hw2]; simp
 obtain ⟨ivs, hivs⟩ : ∃ v : List Int, v = ws.map fun y => (Tx.iv y : Int) := ⟨_, rfl⟩
 have HIV := Lib.hid hivs
 have HS2 := Lib.hid hsz2
 have HW1 := Lib.hid hB1.size
 go_wp2_with fail
 rw [← hw2]
 clear hw2 hb2 hT0 hsz2 hivs hA' hsl hne hxy q0 hm0 hB1
 obtain ⟨bt, hbt⟩ : ∃ b, b = w1.heap.size := ⟨_, rfl⟩
 rw [← hbt] at HTK HS2 HW1 ⊢
 clear hbt
 go_loopw [11, 34] (fun v iv wr => ∃ (k : Nat) (wg : Bool) (A : Option Addr), k ≤ m ∧ iv = .int .i64 k ∧ Hid (Own wr w2.heap.size v k (encI (ivs.take k))) ∧ Hid (Tkr wr bt (ws.drop k) wg A) ∧ Hid (wg = !((ws.take k).all Tx.num)) ∧ Hid (w2.grownBy wr (some bt))) (fun _ iv _ => m - (intOf iv).toNat)
 case atStart => exact ⟨0, false, some A', Nat.zero_le _, rfl, Lib.hid (World.ownsRow_nil _ _ _ _), HTK, Lib.hid rfl, Lib.hid ⟨rfl, rfl, rfl, Nat.le_refl _, fun _ _ _ => rfl⟩⟩
 case round =>
  clear HTK
  obtain ⟨k, wg, A, hk, rfl, HOW, HT, HWG, RG⟩ := hrel
  obtain ⟨VA, vc, rfl⟩ := own_slice HOW.out
  have hwk : IntKind.i64.wrap ((k : Int) + 1) = ((k + 1 : Nat) : Int) := by rw [wrapI (by omega)]; simp
  by_cases hlt : k < m
  ·have hlt2 : (k : Int) < (m : Int) := by omega
   obtain ⟨y, hy⟩ : ∃ y, ws[k]? = some y := ⟨ws[k]'(by rw [← HM.out]; exact hlt), List.getElem?_eq_getElem _⟩
   have hd : ws.drop k = y :: ws.drop (k + 1) := by
    obtain ⟨h1, e1⟩ := List.getElem?_eq_some_iff.1 hy
    rw [List.drop_eq_getElem_cons h1, e1]
   have htk := HT.out
   rw [hd] at htk
   have K168 := Lib.hid (c168 bt y (ws.drop (k + 1)) wg A wr (by rw [List.length_drop, ← HM.out]; omega) (HPC.out y (by simp [List.mem_of_getElem? hy])) htk)
   have HY := Lib.hid hy
   clear hy hd htk
   go_wp2_with fail
   refine K168.out.mono ?_
   rintro e w3 ⟨A2, rfl, ht3, ho3⟩
   have htk : ivs.take (k + 1) = ivs.take k ++ [(Tx.iv y : Int)] := by rw [List.take_add_one, HIV.out, List.getElem?_map, HY.out]; rfl
   have HTK := Lib.hid htk
   have HWN : Hid ((wg || !Tx.num y) = !((ws.take (k + 1)).all Tx.num)) := Lib.hid (by
    rw [List.take_add_one, HY.out, List.all_append, HWG.out]
    simp [Bool.not_and])
   have hbt2 : bt < w2.heap.size := by have := HS2.out; omega
   have RG3 := gb_only RG.out ho3
   have hsz := RG3.size
   have how3 := own_only HOW.out ho3 hbt2
   obtain ⟨I, hI⟩ : ∃ z : Int, z = (Tx.iv y : Int) := ⟨_, rfl⟩
   rw [← hI] at HTK ⊢
   have how2 : Own (w3.alloc (Obj.cells #[.int .i64 I] 3)) w2.heap.size (.slice VA k vc) k (encI (ivs.take k)) := how3.alloc _
   have RG4 := Lib.hid (gb_call9 RG3 ((bl2 w3 (Obj.cells #[.int .i64 I] 3)).mono hsz))
   have HT4 := Lib.hid (ht3.below (bl2 w3 (Obj.cells #[.int .i64 I] 3)))
   have HBT := Lib.hid hbt2
   clear htk ho3 ht3 RG3 how3 hI hbt2
   go_wp2_with (at_builtin; refine wpList_app_ints rfl _ _ rfl w2.heap.size (.slice VA k vc) k (ivs.take k) [I] rfl how2 (some ⟨w3.heap.size, 0, none⟩) 1 1 rfl (RdS.of_new (cs := encI [I]) rfl rfl) (by omega) (by simp; omega) ?_)
   intro v' w5 hown5 hb5
   have HO : Hid (Own w5 w2.heap.size v' (k + 1) (encI (ivs.take (k + 1)))) := Lib.hid (by rw [HTK.out]; exact hown5)
   have RG5 := Lib.hid (gb_call9 RG4.out hb5)
   have HT5 := Lib.hid (HT4.out.belowB hb5 HBT.out)
   clear hown5 hb5 how2 hsz
   go_wp2
   go_roundw
   case rel => exact ⟨k + 1, _, A2, by omega, by go_num, HO, HT5, HWN, RG5⟩
   case measure => simp [intOf]; omega
  ·obtain rfl : m = k := by omega
   have q1 : wr.cell? ⟨bt, 1, none⟩ = some (.bool wg) := cell_at HT.out.blk rfl
   have z1 := cell_lt q1
   have HF := Lib.hid (HB2.out.trans (gb_below9 RG.out HB2.out.size HW1.out))
   have hwa : wg = !(ws.all Tx.num) := by
    have h := HWG.out
    rw [List.take_of_length_le (by rw [← HM.out]; exact Nat.le_refl _)] at h
    exact h
   have hO : Own wr w2.heap.size (.slice VA m vc) m (encI ivs) := by
    have h := HOW.out
    rw [List.take_of_length_le (by rw [HIV.out, List.length_map, ← HM.out]; exact Nat.le_refl _)] at h
    exact h
   obtain ⟨A3, c3, e3, hr3⟩ := own_rdI hO
   have HGB : Hid (∀ g off, VA = .some ⟨g, off, .none⟩ → w.heap.size ≤ g) := Lib.hid (fun g off e => by
    rw [e] at hO
    exact Nat.le_trans HB2.out.size (own_base hO g rfl))
   cases e3
   have HR3 := Lib.hid hr3
   have HWA := Lib.hid hwa
   clear hO hr3 hlt hk hwk hwa
   go_wp2_with fail
   refine wp_region_plan [(0, true), (1, true), (2, true), (3, true), (4, true), (5, true), (6, true), (7, true)] wr.heap.size (by kernel_rfl) (by kernel_rfl) (Nat.le_refl _) (fun _ _ d _ _ h => by cases d <;> exact h) ?_
   have hC : Below wr.heap.size wr wr := Below.refl _ _
   repeat (first | (refine wpPlanA_skip _ rfl (by rfl) ?_; simp only [Act.put, List.setIfInBounds_toArray, List.set_cons_zero, List.set_cons_succ]) | (refine wpPlanA_soft _ ?_ rfl (by rfl) ?_ ?_; rotate_left; (intro wq hq hcq; go_simp; first | exact rfl | exact ⟨rfl, rfl⟩); simp only [Act.put, List.setIfInBounds_toArray, List.set_cons_zero, List.set_cons_succ]))
   refine wpPlanA_nil (fun w5 hS5 => ?_)
   have HF5 := Lib.hid (HF.out.call hS5 rfl)
   have HR5 := Lib.hid (HR3.out.below hS5)
   clear hS5 q1 z1
   go_wp2
   go_ret2
   cases wg
   ·have ha : ws.all Tx.num = true := by have := HWA.out; simpa using this.symm
    refine NQ.some (Tx.nums_ok HSP.out HM.out.symm ha) ?_ HGB.out HF5.out
    rw [← iv_all ha, ← HIV.out]
    exact HR5.out
   ·have ha : ws.all Tx.num = false := by have := HWA.out; simpa using this.symm
    exact NQ.none (nums_all HSP.out ha) HF5.out
end Go.Proofs.YtdimmlljjmmdbaaGreatDoor
namespace Go.Proofs.YtdimmlljjmmdbaaGreatDoor
open Go.RowKit Go.Shelf
set_option maxHeartbeats 8000000
set_option maxRecDepth 100000
/-- a number in digits -/
def tx (x : Int) : ByteArray := ⟨(Lib.decDigits x.toNat).toArray⟩
theorem c139x {x : Int} (h : 0 ≤ x ∧ x ≤ 1000000000) (w : World) : Calls Tryz.prog 139 #[.int .i64 x] w fun en w' => en = .returned (.string (tx x)) ∧ Below w.heap.size w w' := by
 have h1 := c139 x.toNat w (by omega)
 rw [show ((x.toNat : Nat) : Int) = x by omega] at h1
 exact h1
theorem ba_app (a b : List UInt8) : (⟨a.toArray⟩ : ByteArray) ++ ⟨b.toArray⟩ = ⟨(a ++ b).toArray⟩ := mk_app a b
/-- a row of numbers, each behind a blank -/
def rowX (l : List Int) : List UInt8 := l.flatMap fun x => 32 :: (tx x).data.toList
theorem join_row (w : List UInt8) : ∀ l : List Int, Lib.join (w :: l.map fun x => (tx x).data.toList) [32] = w ++ rowX l
 | [] => by simp [Lib.join, rowX]
 | x :: l => by
  have ih := join_row (tx x).data.toList l
  have e : ∀ (a : List UInt8) (L : List (List UInt8)), Lib.join (w :: a :: L) [32] = w ++ (32 :: Lib.join (a :: L) [32]) := fun a L => by simp [Lib.join, List.intercalate, List.intersperse]
  rw [List.map_cons, e, ih]
  simp [rowX]
theorem lineB_row (w : ByteArray) (l : List Int) : lineB w (l.map tx) = ⟨(w.data.toList ++ rowX l ++ [10]).toArray⟩ := by
 unfold lineB
 rw [List.map_cons, List.map_map]
 have h := join_row w.data.toList l
 have e : (fun x : ByteArray => x.data.toList) ∘ tx = fun x => (tx x).data.toList := rfl
 rw [e, h]
 exact ba_app _ [10]
end Go.Proofs.YtdimmlljjmmdbaaGreatDoor
/- Plain laws for the texts of grounds: what is printed is parsed, what is parsed is printed. -/
namespace Go.Proofs.YtdimmlljjmmdbaaGreatDoor
namespace Tx
open Go.Lib
/-- the body of a line -/
def rowL (w : List UInt8) (l : List Int) : List UInt8 := w ++ rowX l
theorem rowX_cons (x : Int) (l : List Int) : rowX (x :: l) = 32 :: (decDigits x.toNat ++ rowX l) := rfl
theorem join_blank (w : List UInt8) : ∀ ws : List (List UInt8), ([32] : List UInt8).intercalate (w :: ws) = w ++ ws.flatMap (fun x => 32 :: x)
 | [] => by simp [List.intercalate]
 | x :: l => by
  have ih := join_blank x l
  have e : ∀ (a : List UInt8) (L : List (List UInt8)), ([32] : List UInt8).intercalate (w :: a :: L) = w ++ (32 :: ([32] : List UInt8).intercalate (a :: L)) := fun a L => by simp [List.intercalate, List.intersperse]
  rw [e, ih]
  simp
theorem fm_congr {f g : List UInt8 → List UInt8} : ∀ {l : List (List UInt8)}, (∀ y ∈ l, f y = g y) → l.flatMap f = l.flatMap g
 | [], _ => rfl
 | y :: t, h => by
  rw [List.flatMap_cons, List.flatMap_cons, h y (by simp), fm_congr (fun z hz => h z (by simp [hz]))]
theorem nums_row {w b : List UInt8} {n : Nat} {l : List Int} (h : nums w n b = some l) : b = rowL w l := by
 have hj := split_join (c := 32) b
 unfold nums at h
 split at h
 ·cases h
 ·rename_i x ws hs
  split at h
  ·rename_i hc
   obtain ⟨rfl, _, hall⟩ := hc
   rw [← Option.some.inj h]
   rw [hs, join_blank] at hj
   rw [← hj]
   unfold rowL rowX
   congr 1
   rw [List.flatMap_map]
   refine fm_congr (fun y hy => ?_)
   have hn := List.all_eq_true.1 hall y hy
   show 32 :: y = 32 :: decDigits (val y : Int).toNat
   rw [Int.toNat_natCast, num_dec hn]
  ·cases h
/-- the rows of a ground -/
def rws (c : Nat) : Nat → List Int → List (List UInt8)
 | 0, _ => []
 | m + 1, l => rowL wR (l.take c) :: rws c m (l.drop c)
theorem rws_length (c : Nat) : ∀ m l, (rws c m l).length = m
 | 0, _ => rfl
 | m + 1, l => by simp [rws, rws_length c m]
theorem rws_snoc (c : Nat) : ∀ (m : Nat) (l : List Int), rws c (m + 1) l = rws c m l ++ [rowL wR (Im.rowK c l m)]
 | 0, l => by simp [rws, Im.rowK]
 | m + 1, l => by
  have ih := rws_snoc c m (l.drop c)
  have e : Im.rowK c (l.drop c) m = Im.rowK c l (m + 1) := by
   unfold Im.rowK
   rw [List.drop_drop]
   congr 2
   rw [Nat.add_mul]; omega
  rw [e] at ih
  show rowL wR (l.take c) :: rws c (m + 1) (l.drop c) = _
  rw [ih]; rfl
/-- lines with their ends -/
def txtL (ls : List (List UInt8)) : List UInt8 := ls.flatMap (· ++ [10])
theorem txtL_snoc (ls : List (List UInt8)) (b : List UInt8) : txtL (ls ++ [b]) = txtL ls ++ (b ++ [10]) := by simp [txtL]
theorem join_lines : ∀ (pre : List (List UInt8)), ([10] : List UInt8).intercalate (pre ++ [[]]) = txtL pre
 | [] => rfl
 | b :: r => by
  have ih := join_lines r
  unfold txtL at ih ⊢
  cases r with
  | nil => simp [List.intercalate, List.intersperse]
  | cons a t =>
   simp [List.intercalate, List.intersperse] at ih ⊢
   exact ih
def grL (c r : Nat) (l : List Int) : List (List UInt8) := rowL wG [(c : Int), (r : Int)] :: rws c r l
/-- the text of a ground -/
def grT (c r : Nat) (l : List Int) : List UInt8 := txtL (grL c r l)
theorem prT_grT (c : Nat) (l : List Int) (h : List (List UInt8)) : ∀ k, prT tx c l ⟨(txtL h).toArray⟩ k = ⟨(txtL (h ++ rws c k l)).toArray⟩
 | 0 => by simp [prT, rws]
 | k + 1 => by
  unfold prT
  rw [prT_grT c l h k, lineB_row, rws_snoc, ← List.append_assoc, txtL_snoc, ba_app]
  rfl
theorem prT_text (c r : Nat) (l : List Int) : prT tx c l (lineB { data := #[103, 114, 111, 117, 110, 100] } [tx c, tx r]) r = ⟨(grT c r l).toArray⟩ := by
 have h := prT_grT c l [rowL wG [(c : Int), (r : Int)]] r
 have e : lineB { data := #[103, 114, 111, 117, 110, 100] } [tx c, tx r] = ⟨(txtL [rowL wG [(c : Int), (r : Int)]]).toArray⟩ := by
  have := lineB_row { data := #[103, 114, 111, 117, 110, 100] } [(c : Int), (r : Int)]
  simp only [List.map_cons, List.map_nil] at this
  rw [this]
  simp [txtL, rowL, wG]
 rw [e, h]
 rfl
theorem gr_range {c r : Nat} {l : List Int} (g : Im.Gr c r l) : ∀ x ∈ l, 1 ≤ x ∧ x ≤ 100 := by
 intro x hx
 obtain ⟨i, hi, rfl⟩ := List.getElem_of_mem hx
 have h1 := g.lo i hi
 have h2 := g.hi i hi
 simp [Im.at0, List.getD_eq_getElem?_getD, hi] at h1 h2
 exact ⟨h1, h2⟩
theorem rowX_length : ∀ {l : List Int}, (∀ x ∈ l, x < 1000) → (rowX l).length ≤ 4 * l.length
 | [], _ => by simp [rowX]
 | x :: t, h => by
  have h1 := rowX_length (l := t) (fun y hy => h y (by simp [hy]))
  have h2 := dec_len x.toNat 2 (by have := h x (by simp); omega)
  rw [rowX_cons]
  simp only [List.length_cons, List.length_append]
  omega
theorem rws_length_le (c : Nat) : ∀ (m : Nat) (l : List Int), (∀ x ∈ l, x < 1000) → (txtL (rws c m l)).length ≤ m * (4 * c + 4)
 | 0, _, _ => by simp [rws, txtL]
 | m + 1, l, h => by
  have h1 := rws_length_le c m (l.drop c) (fun x hx => h x (List.mem_of_mem_drop hx))
  have h2 := rowX_length (l := l.take c) (fun x hx => h x (List.mem_of_mem_take hx))
  have h3 : (l.take c).length ≤ c := by rw [List.length_take]; omega
  show (((rowL wR (l.take c)) ++ [10]) ++ txtL (rws c m (l.drop c))).length ≤ _
  unfold rowL
  simp only [List.length_append, wR, List.length_cons, List.length_nil]
  rw [Nat.add_mul]
  omega
/-- what is parsed has been cut as it is -/
theorem prs_back : ∀ (ls : List (List UInt8)) (st : Gd) (k : Nat) (g : Gd) (i : Int), 1 ≤ k → prs st k ls = (g, i, 0) → ls ≠ [] →
  ∃ m l', ls = rws st.c.toNat m l' ++ [[]] ∧ l'.length = m * st.c.toNat ∧ g = ⟨st.c, st.r, st.l ++ l'⟩ ∧ i = 0 ∧ ((k + m : Nat) : Int) - 1 = st.r ∧ Mo.ground g.c g.r g.l = 0
 | [], _, _, _, _, _, _, h => absurd rfl h
 | [last], st, k, g, i, hk, h, _ => by
  unfold prs at h
  split at h
  ·simp at h
  ·rename_i h1
   split at h
   ·simp at h
   ·rename_i h2
    split at h
    ·rename_i h3
     simp at h
     exact absurd h.2.2 h3
    ·rename_i h3
     simp at h h1 h2 h3
     obtain ⟨h4, h5⟩ := h
     subst h4
     exact ⟨0, [], by simp [rws, h1.1], by simp, by simp, h5.symm, by simpa using h2, h3⟩
 | b :: b2 :: more, st, k, g, i, hk, h, _ => by
  cases hst : stepG st k b with
  | none => rw [prs_none hst] at h; simp at h
  | some st' =>
   rw [prs_some hst] at h
   obtain ⟨m, l', e1, e2, e3, e4, e5, e6⟩ := prs_back (b2 :: more) st' (k + 1) g i (by omega) h (by simp)
   unfold stepG at hst
   rw [if_neg (by omega)] at hst
   obtain ⟨l, hl, rfl⟩ := Option.map_eq_some_iff.1 hst
   have hb := nums_row hl
   have hn := nums_length hl
   refine ⟨m + 1, l ++ l', ?_, ?_, ?_, e4, ?_, e6⟩
   ·show _ = (rowL wR ((l ++ l').take st.c.toNat) :: rws st.c.toNat m ((l ++ l').drop st.c.toNat)) ++ [[]]
    rw [← hn, List.take_left', List.drop_left' rfl, ← hb, List.cons_append]
    ·rw [hn]; congr 1
    ·rfl
   ·rw [List.length_append, e2, hn, Nat.add_mul]; simp only; omega
   ·rw [e3]; simp
   ·have e5' : ((k + 1 + m : Nat) : Int) - 1 = st.r := e5
    omega
/-- whatever is parsed is printed as it was -/
theorem text_parse {s : List UInt8} {g : Gd} {i : Int} (h : parseG s = (g, i, 0)) : ∃ c r : Nat, g.c = c ∧ g.r = r ∧ c ≤ 16 ∧ r ≤ 16 ∧ Im.Gr c r g.l ∧ grT c r g.l = s ∧ i = 0 := by
 unfold parseG at h
 split at h
 ·simp at h
 ·have hj := split_join (c := 10) s
  cases hls : split 10 s with
  | nil => exact absurd hls (split_ne 10 s)
  | cons b t =>
   rw [hls] at h hj
   cases t with
   | nil =>
    unfold prs at h
    simp at h
   | cons b2 more =>
    cases hst : stepG zG 0 b with
    | none => rw [prs_none hst] at h; simp at h
    | some st' =>
     rw [prs_some hst] at h
     obtain ⟨m, l', e1, e2, e3, e4, e5, e6⟩ := prs_back (b2 :: more) st' 1 g i (by omega) h (by simp)
     unfold stepG at hst
     rw [if_pos rfl] at hst
     obtain ⟨l, hl, rfl⟩ := Option.map_eq_some_iff.1 hst
     have hb := nums_row hl
     have hn := nums_length hl
     have hnn := nums_nonneg hl
     obtain ⟨x, y, rfl⟩ : ∃ x y, l = [x, y] := by
      match l, hn with
      | [x, y], _ => exact ⟨x, y, rfl⟩
     obtain ⟨c, r, g1, g2, hc, hr, gg⟩ := Mo.ground_ok e6
     refine ⟨c, r, g1, g2, hc, hr, gg, ?_, e4⟩
     subst e3
     simp [zG] at g1 g2 e1 e2 e5 gg ⊢
     subst g1 g2
     have hm : m = r := by omega
     subst hm
     simp at e1
     rw [← hj, hb, e1, ← List.cons_append, join_lines]
     rfl
end Tx
end Go.Proofs.YtdimmlljjmmdbaaGreatDoor
namespace Go
open Go.RowKit
section
variable {P : Program} {ops : Array Oper} {C : World → Prop} {Q : Exit → Act → World → Prop}
theorem wpIn_region_planC {id n lr : Nat} {a : Act} {W : World} (p : List (Nat × Bool)) (L : Nat) (C : World → Prop) (hCg : ∀ w w', C w → Below w.heap.size w w' → C w') (hC0 : C W) (hm : P.follows .mixedOrders = true)
  (hB : (p.length + 1 == ops.size && Region.noSelect ops && Region.planLB .any ops L p (Array.replicate ops.size false)) = true) (hnd : Region.noDefer ops = true) (hQl : ¬ LetsOut Q)
  (hQ : ∀ c a d v w, Q (.panic c) (a.put d v) w → Q (.panic c) a w)
  (h : wpPlanLA P ops C Q L p a W) : (Code.region id ops true).wpIn (Fence.wide.inRound lr) n P Q a W := wpIn_region_any hm (wpAnyIn_of hnd hQl _ _ _ _ (wpAny_planC p L C hCg hC0 hB hQ h))
end
end Go
namespace Go.Proofs.YtdimmlljjmmdbaaGreatDoor
open Go.RowKit Go.Shelf
set_option maxHeartbeats 8000000
set_option maxRecDepth 100000
attribute [local go_sem] Oper.semAt_some
/-- an append of integers, in a round -/
theorem wpListIn_app_ints {F : Fence} {n : Nat} (w : World) {ops : Array Oper} {rest : List Oper} {o : Oper} {a : Act} {Q : Exit → Act → World → Prop} (hg : o.guard = none) (s x : Operand)
  (ho : o.op = .call { callee := .builtin .append, args := #[s, x], argTypes := #[22, 22] })
  (base : Nat) (v : Value) (k : Nat) (xs ys : List Int) (hs : a.eval s = v) (hown : Own w base v k (encI xs))
  (A : Option Addr) (m c : Nat) (hx : a.eval x = .slice A m c) (H : RdI w A m ys) (hnm : k + m ≤ 1000000) (hbase : base ≤ w.heap.size)
  (h : ∀ v' w', Own w' base v' (k + m) (encI (xs ++ ys)) → w.grownBy w' v.ownBlock → wpListIn F n Tryz.prog ops Q rest (a.put o.dst v') w') : wpListIn F n Tryz.prog ops Q (o :: rest) a w := by
 obtain ⟨i0, hi, hz0, hz1, hz2⟩ := info_parts info3
 have e : encI (xs ++ ys) = encI xs ++ encI ys := by simp [encI]
 cases A with
 | none =>
  obtain rfl : m = 0 := RdS.none0 H
  obtain rfl : ys = [] := List.eq_nil_of_length_eq_zero (by simpa [encI] using H.1)
  have hr := run_app_none 22 o.type 3 i0 Tryz.underlying22 hi v k (encI xs) hown c
  have := h v w (by rw [Nat.add_zero, List.append_nil]; exact hown) (grownBy_of_below (Below.refl _ _) _)
  refine wpListIn_plain hg fun K hK' => ?_
  unfold Oper.wpIn
  refine ⟨?_, ?_⟩
  ·simp [Oper.about, ho, resolve, Target.leads, Sem.run_pure]
  ·rw [Oper.semAt_plain F _ _ (by rw [ho]; intro c hc'; cases hc')]
   simp [execOp, ho, resolve, invoke, builtin, hs, hx, hr, Result.andThen]
   exact hK' _ _ this
 | some ad =>
  refine wpListIn_append_own w hg s x 22 ho base 3 i0 (.int .i64 0) 1 8 Tryz.underlying22 hi hz0 hz1 hz2 rfl (by decide) v k (encI xs) hs hown ad m c (encI ys) hx (by rw [H.1]) (RdS.news H (by omega)) (fun u hu => by simp [encI] at hu; obtain ⟨y, _, rfl⟩ := hu; rfl) (by unfold maxLen; omega) (by omega) hbase (fun v' w' h2 h3 _ => h v' w' (by rw [e]; exact h2) h3)
theorem results_blk3 {P : Program} {fn : Func} {a b c : Tmp} {T U V : TypeId} (h : fn.results = #[.cell a T, .cell b U, .cell c V]) {tmps : Array Value} {w : World} {g g2 g3 : Nat} {cs : Array Value} {t : TypeId} {f : Nat × Nat} {x y : Value} (ha : tmps.getD a undef = .pointer (some ⟨g, 0, none⟩)) (hb : tmps.getD b undef = .pointer (some ⟨g2, 0, none⟩)) (hc : tmps.getD c undef = .pointer (some ⟨g3, 0, none⟩)) (hh : w.heap[g]? = some (.cells cs t f))
  (d : TypeDesc) (hu : P.underlying T = some d) (hd : d.isRow = true) (hi : (P.info? T).map (·.size) = some cs.size) (h2 : (loadVar U ⟨g2, 0, none⟩).run P w = .ok x w) (h3 : (loadVar V ⟨g3, 0, none⟩).run P w = .ok y w) : (results fn tmps).run P w = .ok (.tuple #[.agg cs, x, y]) w := by
 have hl := run_loadVar_blk (P := P) hh T d hu hd hi
 have ha' : tmps[a]?.getD undef = .pointer (some ⟨g, 0, none⟩) := by simpa using ha
 have hb' : tmps[b]?.getD undef = .pointer (some ⟨g2, 0, none⟩) := by simpa using hb
 have hc' : tmps[c]?.getD undef = .pointer (some ⟨g3, 0, none⟩) := by simpa using hc
 simp [results, h, ha', hb', hc', asAddr, hl, h2, h3]
theorem nq_cases {w w' : World} {o : Option (List Int)} {n : Nat} {en : Ending} (h : NQ w o n en w') : ∃ A m cap b, en = .returned (.tuple #[.slice A m cap, .bool b]) ∧ (b = true → ∃ l, o = some l ∧ m = n ∧ RdI w' A n l ∧ ∀ g off, A = .some ⟨g, off, .none⟩ → w.heap.size ≤ g) ∧ (b = false → o = none) ∧ Below w.heap.size w w' := by
 obtain ⟨h1, h2, h3⟩ := h
 cases ho : o with
 | none =>
  obtain ⟨A, k, cap, e⟩ := h2 ho
  exact ⟨A, k, cap, false, e, fun h => (by cases h), fun _ => rfl, h3⟩
 | some l =>
  obtain ⟨A, cap, e, h4, h5⟩ := h1 l ho
  exact ⟨A, n, cap, true, e, fun _ => ⟨l, rfl, rfl, h4, h5⟩, fun h => (by cases h), h3⟩
namespace Tx
theorem whole_cases (s : List UInt8) : (whole s = false ∧ split 10 s = [s]) ∨ (whole s = true ∧ split 10 s = bodyOf s :: split 10 (restOf s) ∧ (bodyOf s).length + 1 + (restOf s).length = s.length) := by
 rcases indexByte_cases s 10 with hi | ⟨i, hi⟩
 ·exact .inl ⟨by unfold whole; rw [hi]; rfl, split_miss hi⟩
 ·have hw : whole s = true := by unfold whole; rw [hi]; simp
  have hb : bodyOf s = s.take i := by unfold bodyOf; rw [if_neg (by omega), hi]; rfl
  obtain ⟨h1, _, _⟩ := indexByte_some hi
  refine .inr ⟨hw, by rw [split_hit hi, hb, (line_hit hi).2], ?_⟩
  rw [hb, (line_hit hi).2, List.length_take, List.length_drop]; omega
theorem bodyOf_le (s : List UInt8) : (bodyOf s).length ≤ s.length := by
 unfold bodyOf
 split
 ·exact Nat.le_refl _
 ·rw [List.length_take]; omega
theorem prs_miss {s : List UInt8} (st : Gd) (k : Nat) (h : whole s = false) (hne : s ≠ []) : prs st k (split 10 s) = (zG, (k : Int), 25) := by
 rcases whole_cases s with ⟨_, e⟩ | ⟨e, _⟩
 ·rw [e]; unfold prs; rw [if_pos (.inl hne)]
 ·rw [e] at h; cases h
theorem prs_hit {s : List UInt8} {st : Gd} {k : Nat} (h : whole s = true) : (stepG st k (bodyOf s) = none → prs st k (split 10 s) = (zG, (k : Int), 25)) ∧ ∀ st', stepG st k (bodyOf s) = some st' → prs st k (split 10 s) = prs st' (k + 1) (split 10 (restOf s)) := by
 rcases whole_cases s with ⟨e, _⟩ | ⟨_, e, _⟩
 ·rw [e] at h; cases h
 ·obtain ⟨b2, more, hb⟩ : ∃ b2 more, split 10 (restOf s) = b2 :: more := by
   cases hr : split 10 (restOf s) with
   | nil => exact absurd hr (split_ne _ _)
   | cons b2 more => exact ⟨_, _, rfl⟩
  rw [e, hb]
  exact ⟨fun h => prs_none h, fun st' h => prs_some h⟩
end Tx
/-- the six blocks of Parse, and the row -/
structure GB (r2 r3 r4 g n p : Nat) (w : World) (z2 : Array Value) (e3 e4 gc gr : Int) (x y : Value) (l : List Int) (k : Int) (cur : List UInt8) (W0 W : World) : Prop where
 k2 : W.heap[r2]? = some (.cells z2 35 (0, 0))
 k3 : W.heap[r3]? = some (.cells #[.int .i64 e3] 3 (0, 0))
 k4 : W.heap[r4]? = some (.cells #[.int .i64 e4] 32 (0, 0))
 kg : W.heap[g]? = some (.cells #[.int .i64 gc, .int .i64 gr, x] 35 (0, 0))
 kn : W.heap[n]? = some (.cells #[.int .i64 k] 3 (0, 0))
 kp : W.heap[p]? = some (.cells #[.string (Tx.bs cur)] 9 (0, 0))
 row : Own W (p + 1) y l.length (encI l)
 bel : Below r2 w W
 kf : KeepsFrom (p + 1) W0 W
 sz : p + 1 ≤ W.heap.size
def Ord (w : World) (r2 r3 r4 g n p : Nat) : Prop := w.heap.size = r2 ∧ r3 = r2 + 1 ∧ r4 = r2 + 2 ∧ r4 < g ∧ n = g + 1 ∧ p = g + 2
section
variable {r2 r3 r4 g n p : Nat} {w : World} {z2 : Array Value} {e3 e4 gc gr : Int} {x y : Value} {l : List Int} {k : Int} {cur : List UInt8} {W0 W W' : World}
theorem GB.grow (h : GB r2 r3 r4 g n p w z2 e3 e4 gc gr x y l k cur W0 W) (ho : Ord w r2 r3 r4 g n p) (hb : Below W.heap.size W W') : GB r2 r3 r4 g n p w z2 e3 e4 gc gr x y l k cur W0 W' := by
 obtain ⟨a1, a2, a3, a4, a5, a6⟩ := ho
 have := h.sz
 exact ⟨blkb h.k2 hb, blkb h.k3 hb, blkb h.k4 hb, blkb h.kg hb, blkb h.kn hb, blkb h.kp hb, own_below h.row hb, h.bel.trans (hb.mono (by omega)), h.kf.trans (keepsF_below hb), Nat.le_trans h.sz hb.size⟩
theorem kf_set {B b i : Nat} {cs : Array Value} {t : TypeId} {f : Nat × Nat} (v : Value) (hk : W.heap[b]? = some (.cells cs t f)) : KeepsFrom B W (W.setCell ⟨b, i, none⟩ v) :=
 ⟨by simp [World.setCell], fun k o _ hk1 hc => (set_far (p := ⟨b, i, none⟩) v (fun e => by subst e; rw [hk] at hk1; cases hk1; cases hc)).trans hk1⟩
theorem GB.set3 (h : GB r2 r3 r4 g n p w z2 e3 e4 gc gr x y l k cur W0 W) (ho : Ord w r2 r3 r4 g n p) (v : Int) : GB r2 r3 r4 g n p w z2 v e4 gc gr x y l k cur W0 (W.setCell ⟨r3, 0, none⟩ (.int .i64 v)) := by
 obtain ⟨a1, a2, a3, a4, a5, a6⟩ := ho
 have f : ∀ {q : Nat} {o : Obj}, q ≠ r3 → W.heap[q]? = some o → (W.setCell ⟨r3, 0, none⟩ (.int .i64 v)).heap[q]? = some o := fun hq hk => (set_far (p := ⟨r3, 0, none⟩) _ hq).trans hk
 exact ⟨f (by omega) h.k2, set_blk (i := 0) h.k3 _, f (by omega) h.k4, f (by omega) h.kg, f (by omega) h.kn, f (by omega) h.kp, own_setfar h.row (by show r3 < p + 1; omega), h.bel.setCell (p := ⟨r3, 0, none⟩) (by show r2 ≤ r3; omega) _, h.kf.trans (kf_set _ h.k3), by simp; exact h.sz⟩
theorem GB.set4 (h : GB r2 r3 r4 g n p w z2 e3 e4 gc gr x y l k cur W0 W) (ho : Ord w r2 r3 r4 g n p) (v : Int) : GB r2 r3 r4 g n p w z2 e3 v gc gr x y l k cur W0 (W.setCell ⟨r4, 0, none⟩ (.int .i64 v)) := by
 obtain ⟨a1, a2, a3, a4, a5, a6⟩ := ho
 have f : ∀ {q : Nat} {o : Obj}, q ≠ r4 → W.heap[q]? = some o → (W.setCell ⟨r4, 0, none⟩ (.int .i64 v)).heap[q]? = some o := fun hq hk => (set_far (p := ⟨r4, 0, none⟩) _ hq).trans hk
 exact ⟨f (by omega) h.k2, f (by omega) h.k3, set_blk (i := 0) h.k4 _, f (by omega) h.kg, f (by omega) h.kn, f (by omega) h.kp, own_setfar h.row (by show r4 < p + 1; omega), h.bel.setCell (p := ⟨r4, 0, none⟩) (by show r2 ≤ r4; omega) _, h.kf.trans (kf_set _ h.k4), by simp; exact h.sz⟩
theorem GB.setc (h : GB r2 r3 r4 g n p w z2 e3 e4 gc gr x y l k cur W0 W) (ho : Ord w r2 r3 r4 g n p) (v : Int) : GB r2 r3 r4 g n p w z2 e3 e4 v gr x y l k cur W0 (W.setCell ⟨g, 0, none⟩ (.int .i64 v)) := by
 obtain ⟨a1, a2, a3, a4, a5, a6⟩ := ho
 have f : ∀ {q : Nat} {o : Obj}, q ≠ g → W.heap[q]? = some o → (W.setCell ⟨g, 0, none⟩ (.int .i64 v)).heap[q]? = some o := fun hq hk => (set_far (p := ⟨g, 0, none⟩) _ hq).trans hk
 exact ⟨f (by omega) h.k2, f (by omega) h.k3, f (by omega) h.k4, set_blk (i := 0) h.kg _, f (by omega) h.kn, f (by omega) h.kp, own_setfar h.row (by show g < p + 1; omega), h.bel.setCell (p := ⟨g, 0, none⟩) (by show r2 ≤ g; omega) _, h.kf.trans (kf_set _ h.kg), by simp; exact h.sz⟩
theorem GB.setr (h : GB r2 r3 r4 g n p w z2 e3 e4 gc gr x y l k cur W0 W) (ho : Ord w r2 r3 r4 g n p) (v : Int) : GB r2 r3 r4 g n p w z2 e3 e4 gc v x y l k cur W0 (W.setCell ⟨g, 1, none⟩ (.int .i64 v)) := by
 obtain ⟨a1, a2, a3, a4, a5, a6⟩ := ho
 have f : ∀ {q : Nat} {o : Obj}, q ≠ g → W.heap[q]? = some o → (W.setCell ⟨g, 1, none⟩ (.int .i64 v)).heap[q]? = some o := fun hq hk => (set_far (p := ⟨g, 1, none⟩) _ hq).trans hk
 exact ⟨f (by omega) h.k2, f (by omega) h.k3, f (by omega) h.k4, set_blk (i := 1) h.kg _, f (by omega) h.kn, f (by omega) h.kp, own_setfar h.row (by show g < p + 1; omega), h.bel.setCell (p := ⟨g, 1, none⟩) (by show r2 ≤ g; omega) _, h.kf.trans (kf_set _ h.kg), by simp; exact h.sz⟩
theorem GB.setx (h : GB r2 r3 r4 g n p w z2 e3 e4 gc gr x y l k cur W0 W) (ho : Ord w r2 r3 r4 g n p) (v : Value) : GB r2 r3 r4 g n p w z2 e3 e4 gc gr v y l k cur W0 (W.setCell ⟨g, 2, none⟩ v) := by
 obtain ⟨a1, a2, a3, a4, a5, a6⟩ := ho
 have f : ∀ {q : Nat} {o : Obj}, q ≠ g → W.heap[q]? = some o → (W.setCell ⟨g, 2, none⟩ v).heap[q]? = some o := fun hq hk => (set_far (p := ⟨g, 2, none⟩) _ hq).trans hk
 exact ⟨f (by omega) h.k2, f (by omega) h.k3, f (by omega) h.k4, set_blk (i := 2) h.kg _, f (by omega) h.kn, f (by omega) h.kp, own_setfar h.row (by show g < p + 1; omega), h.bel.setCell (p := ⟨g, 2, none⟩) (by show r2 ≤ g; omega) _, h.kf.trans (kf_set _ h.kg), by simp; exact h.sz⟩
theorem GB.setn (h : GB r2 r3 r4 g n p w z2 e3 e4 gc gr x y l k cur W0 W) (ho : Ord w r2 r3 r4 g n p) (v : Int) : GB r2 r3 r4 g n p w z2 e3 e4 gc gr x y l v cur W0 (W.setCell ⟨n, 0, none⟩ (.int .i64 v)) := by
 obtain ⟨a1, a2, a3, a4, a5, a6⟩ := ho
 have f : ∀ {q : Nat} {o : Obj}, q ≠ n → W.heap[q]? = some o → (W.setCell ⟨n, 0, none⟩ (.int .i64 v)).heap[q]? = some o := fun hq hk => (set_far (p := ⟨n, 0, none⟩) _ hq).trans hk
 exact ⟨f (by omega) h.k2, f (by omega) h.k3, f (by omega) h.k4, f (by omega) h.kg, set_blk (i := 0) h.kn _, f (by omega) h.kp, own_setfar h.row (by show n < p + 1; omega), h.bel.setCell (p := ⟨n, 0, none⟩) (by show r2 ≤ n; omega) _, h.kf.trans (kf_set _ h.kn), by simp; exact h.sz⟩
theorem GB.setp (h : GB r2 r3 r4 g n p w z2 e3 e4 gc gr x y l k cur W0 W) (ho : Ord w r2 r3 r4 g n p) (c : List UInt8) : GB r2 r3 r4 g n p w z2 e3 e4 gc gr x y l k c W0 (W.setCell ⟨p, 0, none⟩ (.string (Tx.bs c))) := by
 obtain ⟨a1, a2, a3, a4, a5, a6⟩ := ho
 have f : ∀ {q : Nat} {o : Obj}, q ≠ p → W.heap[q]? = some o → (W.setCell ⟨p, 0, none⟩ (.string (Tx.bs c))).heap[q]? = some o := fun hq hk => (set_far (p := ⟨p, 0, none⟩) _ hq).trans hk
 exact ⟨f (by omega) h.k2, f (by omega) h.k3, f (by omega) h.k4, f (by omega) h.kg, f (by omega) h.kn, set_blk (i := 0) h.kp _, own_setfar h.row (by show p < p + 1; omega), h.bel.setCell (p := ⟨p, 0, none⟩) (by show r2 ≤ p; omega) _, h.kf.trans (kf_set _ h.kp), by simp; exact h.sz⟩
/-- a store of the whole first result -/
theorem GB.set2 (h : GB r2 r3 r4 g n p w z2 e3 e4 gc gr x y l k cur W0 W) (ho : Ord w r2 r3 r4 g n p) {z : Array Value} (hz : W'.heap[r2]? = some (.cells z 35 (0, 0))) (hg : W.grownBy W' (some r2)) : GB r2 r3 r4 g n p w z e3 e4 gc gr x y l k cur W0 W' := by
 obtain ⟨a1, a2, a3, a4, a5, a6⟩ := ho
 have f : ∀ {q : Nat} {o : Obj}, q ≠ r2 → W.heap[q]? = some o → W'.heap[q]? = some o := fun hq hk => (hg.block _ (Array.getElem?_eq_some_iff.1 hk).1 (fun e => hq (Option.some.inj e))).trans hk
 refine ⟨hz, f (by omega) h.k3, f (by omega) h.k4, f (by omega) h.kg, f (by omega) h.kn, f (by omega) h.kp, ?_, h.bel.grown hg (by have := h.sz; omega) (fun j hj => by cases hj; exact Nat.le_refl _), h.kf.trans ⟨hg.size, fun q o hq hk _ => f (by omega) hk⟩, Nat.le_trans h.sz hg.size⟩
 exact h.row.kept hg (by omega)
/-- an append to the row -/
theorem GB.app (h : GB r2 r3 r4 g n p w z2 e3 e4 gc gr x y l k cur W0 W) (ho : Ord w r2 r3 r4 g n p) {y' : Value} {l' : List Int} (hown : Own W' (p + 1) y' l'.length (encI l')) (hg : W.grownBy W' y.ownBlock) : GB r2 r3 r4 g n p w z2 e3 e4 gc gr x y' l' k cur W0 W' := by
 obtain ⟨a1, a2, a3, a4, a5, a6⟩ := ho
 have hbn : ∀ b, b < p + 1 → some b ≠ y.ownBlock := fun b hlt e => by have := own_base h.row b e.symm; omega
 have f : ∀ {q : Nat} {o : Obj}, q < p + 1 → W.heap[q]? = some o → W'.heap[q]? = some o := fun hq hk => (hg.block _ (Array.getElem?_eq_some_iff.1 hk).1 (hbn _ hq)).trans hk
 refine ⟨f (by omega) h.k2, f (by omega) h.k3, f (by omega) h.k4, f (by omega) h.kg, f (by omega) h.kn, f (by omega) h.kp, hown, h.bel.grown hg (by have := h.sz; omega) (fun j hj => by have := own_base h.row j hj; omega), h.kf.trans ⟨hg.size, fun q o hq hk hc => ?_⟩, Nat.le_trans h.sz hg.size⟩
 refine (hg.block _ (Array.getElem?_eq_some_iff.1 hk).1 (fun e => ?_)).trans hk
 rcases h.row.2 with ⟨rfl, _⟩ | ⟨b, cap, cs, rfl, hb, hgg, _⟩
 ·cases e
 ·have : q = b := by simpa [Value.ownBlock] using e
  subst this
  rw [hk] at hgg
  cases hgg
  simp [Obj.isCells] at hc
theorem GB.here (h : GB r2 r3 r4 g n p w z2 e3 e4 gc gr x y l k cur W0 W) : GB r2 r3 r4 g n p w z2 e3 e4 gc gr x y l k cur W W :=
 ⟨h.k2, h.k3, h.k4, h.kg, h.kn, h.kp, h.row, h.bel, KeepsFrom.refl _ _, h.sz⟩
theorem cells_keep {B : Nat} {row : Option Nat} {q : Nat} {cs : Array Value} {t : TypeId} {f : Nat × Nat} (hk : W.heap[q]? = some (.cells cs t f)) (hg : W.grownBy W' row) (hr : ∀ r, row = some r → B ≤ r ∧ ∃ o : Obj, W.heap[r]? = some o ∧ o.isCells = false) : W'.heap[q]? = some (.cells cs t f) := by
 refine (hg.block q (Array.getElem?_eq_some_iff.1 hk).1 (fun e => ?_)).trans hk
 obtain ⟨_, o, ho, hc⟩ := hr q e.symm
 rw [hk] at ho
 cases ho
 cases hc
theorem own_keepR {B B1 : Nat} {row : Option Nat} {e : TypeId} {size m : Nat} {v : Value} {xs : List Value} (h : W.ownsRow B1 e size v m xs) (hg : W.grownBy W' row) (hr : ∀ r, row = some r → B ≤ r ∧ ∃ o : Obj, W.heap[r]? = some o ∧ o.isCells = false) : W'.ownsRow B1 e size v m xs := by
 rcases h.2 with ⟨rfl, _⟩ | ⟨g, cap, cur, rfl, hb, hgg, _⟩
 ·exact h.kept hg (.inl rfl)
 ·refine h.kept hg (.inr (fun e => ?_))
  obtain ⟨_, o, ho, hc⟩ := hr g e.symm
  rw [hgg] at ho
  cases ho
  simp [Obj.isCells] at hc
theorem GB.own (ho : Ord w r2 r3 r4 g n p) : OwnFrom (p + 1) (fun (_ : Unit) W => GB r2 r3 r4 g n p w z2 e3 e4 gc gr x y l k cur W W) := fun _ W W' row h hg hr => by
 obtain ⟨a1, a2, a3, a4, a5, a6⟩ := ho
 exact ⟨cells_keep h.k2 hg hr, cells_keep h.k3 hg hr, cells_keep h.k4 hg hr, cells_keep h.kg hg hr, cells_keep h.kn hg hr, cells_keep h.kp hg hr, own_keepR h.row hg hr, h.bel.grown hg (by have := h.sz; omega) (fun j hj => by have := (hr j hj).1; omega), KeepsFrom.refl _ _, Nat.le_trans h.sz hg.size⟩
end
def z35 : Array Value := #[.int .i64 0, .int .i64 0, .slice none 0 0]
/-- between two lines -/
def PI (T : List UInt8) (w : World) (r2 r3 r4 g n p : Nat) (rest cur : List UInt8) (W : World) : Prop :=
 ∃ (st : Tx.Gd) (k cn : Nat) (x : Value), Tx.prs Tx.zG 0 (Tx.split 10 T) = Tx.prs st k (Tx.split 10 rest) ∧ (k = 0 → rest = T) ∧ st.c = (cn : Int) ∧ cn ≤ 1000000000 ∧ k + rest.length ≤ T.length ∧ st.l.length + rest.length ≤ T.length ∧ GB r2 r3 r4 g n p w z35 0 0 st.c st.r x x st.l k cur W W
theorem PI.own {T : List UInt8} {w : World} {r2 r3 r4 g n p : Nat} (ho : Ord w r2 r3 r4 g n p) (rest cur : List UInt8) : OwnFrom (p + 1) (fun (_ : Unit) W => PI T w r2 r3 r4 g n p rest cur W) := fun u W W' row hs hg hr => by
 obtain ⟨st, k, cn, x, h1, h2, h3, h4, h5, h6, h7⟩ := hs
 exact ⟨st, k, cn, x, h1, h2, h3, h4, h5, h6, GB.own ho u W W' row h7 hg hr⟩
/-- a line was wrong: the results lie -/
def PX (T : List UInt8) (w : World) (r2 r3 r4 : Nat) (W : World) : Prop :=
 ∃ i : Int, Tx.prs Tx.zG 0 (Tx.split 10 T) = (Tx.zG, i, 25) ∧ W.heap[r2]? = some (.cells z35 35 (0, 0)) ∧ W.heap[r3]? = some (.cells #[.int .i64 i] 3 (0, 0)) ∧ W.heap[r4]? = some (.cells #[.int .i64 25] 32 (0, 0)) ∧ Below r2 w W
theorem PX.own {T : List UInt8} {w : World} {r2 r3 r4 g n p : Nat} (ho : Ord w r2 r3 r4 g n p) : OwnFrom (p + 1) (fun (_ : Unit) W => PX T w r2 r3 r4 W) := fun _ W W' row hs hg hr => by
 obtain ⟨i, h1, h2, h3, h4, h5⟩ := hs
 obtain ⟨a1, a2, a3, a4, a5, a6⟩ := ho
 exact ⟨i, h1, cells_keep h2 hg hr, cells_keep h3 hg hr, cells_keep h4 hg hr, h5.grown hg (by have := (Array.getElem?_eq_some_iff.1 h2).1; omega) (fun j hj => by have := (hr j hj).1; omega)⟩
end Go.Proofs.YtdimmlljjmmdbaaGreatDoor
namespace Go.Proofs.YtdimmlljjmmdbaaGreatDoor
open Go.RowKit Go.Shelf
set_option maxHeartbeats 8000000
set_option maxRecDepth 100000
attribute [local go_sem] Oper.semAt_some
def NoPan (Q : Exit → Act → World → Prop) : Exit → Act → World → Prop
 | .panic _, _, _ => False
 | e, a, w => Q e a w
theorem nopan_le {Q : Exit → Act → World → Prop} : ∀ e a w, NoPan Q e a w → Q e a w := by
 intro e a w h
 cases e <;> first | exact h | exact h.elim
theorem nopan_norm {Q : Exit → Act → World → Prop} {a : Act} {w : World} (h : Q .normal a w) : NoPan Q .normal a w := h
theorem nopan_pan {Q : Exit → Act → World → Prop} : ∀ c a d v w, NoPan Q (.panic c) (a.put d v) w → NoPan Q (.panic c) a w := fun _ _ _ _ _ h => h.elim
theorem c82 (s : ByteArray) (m : Int) (w : World) (hs : s.size ≤ 1000000) (hm : w.cell? ⟨1, 0, none⟩ = some (.int .i64 m)) : Calls Tryz.prog 82 #[.string s] w (PG w (Tx.parseG s.data.toList)) := by
 have hsl := Tx.size_len s
 have hm0 : 1 < w.heap.size := cell_lt hm
 obtain ⟨TX, hTX⟩ : ∃ T, T = s.data.toList := ⟨_, rfl⟩
 rw [← hTX] at hsl ⊢
 obtain ⟨d1, hdl⟩ : ∃ d, decide (4096 < (s.size : Int)) = d := ⟨_, rfl⟩
 obtain ⟨d2, hem⟩ : ∃ d, s.toList.isEmpty = d := ⟨_, rfl⟩
 obtain ⟨E, hE⟩ : ∃ E, E = Mo.first [Mo.when d1 26, Mo.when d2 25] := ⟨_, rfl⟩
 have HE := Lib.hid hE
 have HBAD : Hid (E ≠ 0 → Tx.parseG TX = (Tx.zG, 0, E)) := Lib.hid (fun h => by
  cases d1
  ·cases d2
   ·exact absurd hE h
   ·have : TX = [] := by rw [hTX, ← ByteArray.toList_eq]; exact List.isEmpty_iff.1 hem
    rw [this, hE]; rfl
  ·have h1 : 4096 < (s.size : Int) := by simpa using hdl
   unfold Tx.parseG
   rw [if_pos (by omega), hE]
   cases d2 <;> rfl)
 have HOK : Hid (E = 0 → Tx.parseG TX = Tx.prs Tx.zG 0 (Tx.split 10 TX) ∧ TX.length ≤ 4096 ∧ TX ≠ []) := Lib.hid (fun h => by
  cases d1
  ·cases d2
   ·have h1 : ¬ 4096 < (s.size : Int) := by simpa using hdl
    refine ⟨by unfold Tx.parseG; rw [if_neg (by omega)], by omega, fun h => ?_⟩
    rw [hTX, ← ByteArray.toList_eq] at h
    rw [h] at hem
    cases hem
   ·rw [h] at hE; cases hE
  ·rw [h] at hE; cases d2 <;> cases hE)
 have HTX : Hid (s = Tx.bs TX) := Lib.hid (by rw [hTX]; exact (Tx.bs_data s).symm)
 obtain ⟨w0, hW⟩ : ∃ W, W = ((w.alloc (Obj.cells #[.int .i64 0, .int .i64 0, .slice none 0 0] 35)).alloc (Obj.cells #[.int .i64 0] 3)).alloc (Obj.cells #[.int .i64 0] 32) := ⟨_, rfl⟩
 have k2 : w0.heap[w.heap.size]? = some (.cells z35 35 (0, 0)) := by rw [hW]; exact heap_old (by simp; omega) (heap_old (by simp) (heap_new rfl))
 have k3 : w0.heap[w.heap.size + 1]? = some (.cells #[.int .i64 0] 3 (0, 0)) := by rw [hW]; exact heap_old (by simp) (heap_new (by simp))
 have k4 : w0.heap[w.heap.size + 1 + 1]? = some (.cells #[.int .i64 0] 32 (0, 0)) := by rw [hW]; exact heap_new (by simp)
 have hB0 : Below w.heap.size w w0 := by rw [hW]; exact (((Below.refl _ _).alloc (Nat.le_refl _) _).alloc (by simp) _).alloc (by simp; omega) _
 have HMM : Hid (∀ W, Below w.heap.size w W → W.cell? ⟨1, 0, none⟩ = some (.int .i64 m)) := Lib.hid (fun W hW => (hW.cell (p := ⟨1, 0, none⟩) hm0).trans hm)
 have HS0 : Hid (1 < w.heap.size ∧ w0.heap.size = w.heap.size + 3) := Lib.hid ⟨hm0, by rw [hW]; simp⟩
 clear hsl hTX hs hE hm hm0
 refine (callsIn_wide (n := 8)).1 ?_
 refine callsIn_of_wp_marks Tryz.func82 rfl trivial ?_ rfl
 refine wpIn_wide.2 ?_
 simp only [Tryz.ntmps82, List.size_toArray, List.length_cons, List.length_nil, Nat.reduceAdd, Nat.reduceSub, Array.replicate_succ, Array.replicate_zero, List.push_toArray, List.append_toArray, List.nil_append, List.cons_append]
 go_wp2_with fail
 rw [← hW]
 clear hW
 refine (c94 d1 26 _).mono ?_
 rintro e w' ⟨rfl, rfl⟩
 go_wp2_with fail
 refine (c94 d2 25 _).mono ?_
 rintro e w' ⟨rfl, rfl⟩
 have hR1 : RdS (w0.alloc (Obj.cells #[.int .i64 (Mo.when d1 26), .int .i64 (Mo.when d2 25)] 32)) 1 (some ⟨w0.heap.size, 0, none⟩) 2 (encI [Mo.when d1 26, Mo.when d2 25]) := RdS.of_block (cs := encI [Mo.when d1 26, Mo.when d2 25]) (heap_new rfl) rfl
 have hb1 : Below w0.heap.size w0 (w0.alloc (Obj.cells #[.int .i64 (Mo.when d1 26), .int .i64 (Mo.when d2 25)] 32)) := (Below.refl _ _).alloc (Nat.le_refl _) _
 obtain ⟨w1, hw1⟩ : ∃ W, W = w0.alloc (Obj.cells #[.int .i64 (Mo.when d1 26), .int .i64 (Mo.when d2 25)] 32) := ⟨_, rfl⟩
 rw [← hw1] at hR1 hb1
 go_wp2_with fail
 rw [← hw1]
 clear hw1
 refine (c89 (some ⟨w0.heap.size, 0, none⟩) 2 2 [Mo.when d1 26, Mo.when d2 25] _ rfl (by decide) hR1).mono ?_
 rintro e w' ⟨rfl, rfl⟩
 rw [← HE.out]
 replace k2 := blkb k2 hb1
 replace k3 := blkb k3 hb1
 replace k4 := blkb k4 hb1
 have hB1 := hB0.call hb1 rfl
 have hs1 := hb1.size
 have c3 := cell_at k3 (i := 0) rfl
 have c4 := cell_at k4 (i := 0) rfl
 have f3 := free_at k3 (i := 0)
 have f4 := free_at k4 (i := 0)
 clear hR1 hb1 hB0
 by_cases hE0 : E = 0
 rotate_left
 ·have hEb : (E != 0) = true := by simpa using hE0
  have HP := Lib.hid (HBAD.out hE0)
  clear hE0
  go_wp2_with (refine wpList_store_blk rfl 35 _ _ rfl w.heap.size _ rfl rfl k2 ?s1 ?s2 ?s3 ?_)
  case s1 => rfl
  case s2 => kernel_rfl
  case s3 => simp [Value.oneCell']
  intro w2 hz2 hg2 hs2
  have hB2 := hB1.grown hg2 hB1.size (fun j hj => by cases hj; exact Nat.le_refl _)
  have j3 : w2.heap[w.heap.size + 1]? = some (.cells #[.int .i64 0] 3 (0, 0)) := (hg2.block _ (Array.getElem?_eq_some_iff.1 k3).1 (fun e => by have := Option.some.inj e; omega)).trans k3
  have j4 : w2.heap[w.heap.size + 1 + 1]? = some (.cells #[.int .i64 0] 32 (0, 0)) := (hg2.block _ (Array.getElem?_eq_some_iff.1 k4).1 (fun e => by have := Option.some.inj e; omega)).trans k4
  clear k2 k3 k4 c3 c4 f3 f4 hB1 hg2
  have c3 := cell_at j3 (i := 0) rfl
  have c4 := cell_at j4 (i := 0) rfl
  have f3 := free_at j3 (i := 0)
  have f4 := free_at j4 (i := 0)
  have hZ := Lib.hid hz2
  have hJ3 := Lib.hid j3
  have hJ4 := Lib.hid j4
  have hB := Lib.hid hB2
  clear hz2 j3 j4 hB2
  go_wp2
  have g2 := (set_far (p := ⟨w.heap.size + 1 + 1, 0, none⟩) (.int .i64 E) (show w.heap.size ≠ w.heap.size + 1 + 1 by omega)).trans ((set_far (p := ⟨w.heap.size + 1, 0, none⟩) (.int .i64 0) (show w.heap.size ≠ w.heap.size + 1 by omega)).trans hZ.out)
  have g3 := (set_far (p := ⟨w.heap.size + 1 + 1, 0, none⟩) (.int .i64 E) (show w.heap.size + 1 ≠ w.heap.size + 1 + 1 by omega)).trans (set_blk (i := 0) hJ3.out (.int .i64 0))
  have g4 := set_blk (i := 0) ((set_far (p := ⟨w.heap.size + 1, 0, none⟩) (.int .i64 0) (show w.heap.size + 1 + 1 ≠ w.heap.size + 1 by omega)).trans hJ4.out) (.int .i64 E)
  have hBf := (hB.out.setCell (p := ⟨w.heap.size + 1, 0, none⟩) (Nat.le_succ _) (.int .i64 0)).setCell (p := ⟨w.heap.size + 1 + 1, 0, none⟩) (by show w.heap.size ≤ w.heap.size + 1 + 1; omega) (.int .i64 E)
  generalize ((w2.setCell ⟨w.heap.size + 1, 0, none⟩ (.int .i64 0)).setCell ⟨w.heap.size + 1 + 1, 0, none⟩ (.int .i64 E)) = w4 at g2 g3 g4 hBf ⊢
  have e3 := cell_at g3 (i := 0) rfl
  have e4 := cell_at g4 (i := 0) rfl
  exact ⟨_, results_blk3 rfl rfl rfl rfl g2 _ Tryz.underlying35 rfl (by kernel_rfl) (x := .int .i64 0) (y := .int .i64 E) (by simp [go_sem, e3]) (by simp [go_sem, e4]), PG.zero HP.out hBf⟩
 subst hE0
 obtain ⟨hP1, hP2, hP3⟩ := HOK.out rfl
 have HPS := Lib.hid hP1
 have hTXl := Lib.hid hP2
 have HTN := Lib.hid hP3
 have HK2 := Lib.hid k2
 have HK3 := Lib.hid k3
 have HK4 := Lib.hid k4
 have HB1 := Lib.hid hB1
 obtain ⟨S, hS⟩ : ∃ S, S = Tx.bs TX := ⟨_, rfl⟩
 have HSX := Lib.hid hS
 have hsS : s = S := by rw [HTX.out, hS]
 subst hsS
 clear hP1 hP2 hP3 hS k2 k3 k4 c3 c4 f3 f4 hB1 HBAD HOK HE hdl hem
 go_wp2_with fail
 refine (c136 _ _).mono ?_
 rintro e w2 ⟨rfl, hw2⟩
 simp only [World.size_alloc] at hw2 ⊢
 obtain ⟨r2, hr2⟩ : ∃ r, r = w.heap.size := ⟨_, rfl⟩
 obtain ⟨r3, hr3⟩ : ∃ r, r = w.heap.size + 1 := ⟨_, rfl⟩
 obtain ⟨r4, hr4⟩ : ∃ r, r = w.heap.size + 1 + 1 := ⟨_, rfl⟩
 obtain ⟨g, hg⟩ : ∃ r, r = w1.heap.size := ⟨_, rfl⟩
 obtain ⟨n, hn⟩ : ∃ r, r = w1.heap.size + 1 := ⟨_, rfl⟩
 obtain ⟨p, hp⟩ : ∃ r, r = w1.heap.size + 1 + 1 := ⟨_, rfl⟩
 obtain ⟨hz1, hz2⟩ := HS0.out
 have hord : Ord w r2 r3 r4 g n p := ⟨by omega, by omega, by omega, by omega, by omega, by omega⟩
 have hb1 : w2.heap.size = p + 1 := by rw [hw2]; simp; omega
 have hblk : GB r2 r3 r4 g n p w z35 0 0 0 0 (.slice none 0 0) (.slice none 0 0) [] 0 TX w2 w2 := by
  have hbb : Below w1.heap.size w1 w2 := by rw [hw2]; exact (below2 _ _ _).alloc (by simp; omega) _
  refine ⟨?_, ?_, ?_, ?_, ?_, ?_, World.ownsRow_nil _ _ _ _, ?_, KeepsFrom.refl _ _, by omega⟩
  ·rw [hr2]; exact blkb HK2.out hbb
  ·rw [hr3]; exact blkb HK3.out hbb
  ·rw [hr4]; exact blkb HK4.out hbb
  ·rw [hw2]; exact heap_old (by simp; omega) (heap_old (by simp; omega) (heap_new (by omega)))
  ·rw [hw2]; exact heap_old (by simp; omega) (heap_new (by simp; omega))
  ·rw [hw2, ← HSX.out]; exact heap_new (by simp; omega)
  ·rw [hr2]; exact HB1.out.call hbb rfl
 rw [← hp, ← hn, ← hg, ← hr4, ← hr3, ← hr2]
 have hm1 : Hid (∀ W, Below r2 w W → W.cell? ⟨1, 0, none⟩ = some (.int .i64 m)) := Lib.hid (fun W hW => HMM.out W (by rw [← hr2]; exact hW))
 have hslb : (Obj.cells #[.int .i64 0] 3) = (Obj.cells #[.int .i64 0] 3) := rfl
 clear hw2 hr2 hr3 hr4 hg hn hp hz1 hz2 HS0 HK2 HK3 HK4 HB1 hs1 hslb
 go_wp2
 refine (wpIn_wide (n := 6)).1 ?_
 refine wpIn_lines (n := 6) (by omega) (p := p) rfl rfl (by omega) (fun s W => PI TX w r2 r3 r4 g n p s s W) (fun s W => PI TX w r2 r3 r4 g n p s (Tx.restOf s) W) (fun W => PX TX w r2 r3 r4 W)
  (fun s => by rw [hb1]; exact PI.own hord s s) (fun s => by rw [hb1]; exact PI.own hord s (Tx.restOf s)) (by rw [hb1]; exact PX.own hord)
  (fun s W h => by obtain ⟨st, k, cn, x, _, _, _, _, _, _, h⟩ := h; exact ⟨cell_at h.kp rfl, free_at h.kp⟩)
  (fun s W _ h => by obtain ⟨st, k, cn, x, h1, h2, h3, h4, h5, h6, h⟩ := h; exact ⟨st, k, cn, x, h1, h2, h3, h4, h5, h6, (h.setp hord _).here⟩)
  TX (by have := hTXl.out; omega) ⟨Tx.zG, 0, 0, .slice none 0 0, rfl, fun _ => rfl, rfl, by decide, by omega, by simp [Tx.zG], hblk⟩
  (fun x => { tmps := #[.string s, undef, .pointer (some ⟨r2, 0, none⟩), .pointer (some ⟨r3, 0, none⟩), .pointer (some ⟨r4, 0, none⟩), .int .i64 0, .pointer (some ⟨g, 0, none⟩), .pointer (some ⟨n, 0, none⟩), .string (Tx.bs x), undef, undef, undef, undef, undef, undef, undef, .string s, .int .i64 (s.size : Int), .bool d1, .int .i64 (Mo.when d1 26), .string s, .bool d2, .int .i64 (Mo.when d2 25), .slice (some ⟨w0.heap.size, 0, none⟩) 2 2, .int .i64 0, .int .i64 0, .bool false, undef, undef, .string s, .func (.func 164) #[] #[.pointer (some ⟨p, 0, none⟩)], .string (Tx.bs x), undef, undef, undef, undef, undef, undef, undef, undef, undef, undef, undef, undef, undef, undef, undef, undef, undef, undef, undef, undef, undef, undef, undef, undef, undef, undef, undef, undef, undef, undef, undef, undef, undef, undef, undef, undef, undef, undef, undef, undef, undef, undef, undef, undef, undef, undef, undef, undef, undef, undef, undef, undef, undef, undef, undef, undef, undef], defers := [] }) ?assign ?body ?done ?stop
 case assign =>
  intro l x W K hK
  gi_wp2
  exact hK
 case body =>
  intro lr st0 W hne hI
  obtain ⟨st, k, cn, x, h1, h2, h3, h4, h5, h6, hG⟩ := hI
  obtain ⟨Ax, cx, rfl, _⟩ := Sl.of_own hG.row
  have HB := Lib.hid hG
  have hl3 : TX.length ≤ 4096 := hTXl.out
  have hbl := Tx.bodyOf_le st0
  have h137 := fun W => c137 st0 W (by omega)
  have HC : Hid (st.c = (cn : Int) ∧ cn ≤ 1000000000) := Lib.hid ⟨h3, h4⟩
  have HBND : Hid (k + st0.length ≤ TX.length ∧ st.l.length + st0.length ≤ TX.length ∧ TX.length ≤ 4096) := Lib.hid ⟨h5, h6, hl3⟩
  have HMISS0 : Tx.whole st0 = false → Tx.prs Tx.zG 0 (Tx.split 10 TX) = (Tx.zG, (k : Int), 25) := fun h => by rw [h1]; exact Tx.prs_miss st k h hne
  have HHIT0 : Tx.whole st0 = true → (Tx.stepG st k (Tx.bodyOf st0) = none → Tx.prs Tx.zG 0 (Tx.split 10 TX) = (Tx.zG, (k : Int), 25)) ∧ ∀ st', Tx.stepG st k (Tx.bodyOf st0) = some st' → Tx.prs Tx.zG 0 (Tx.split 10 TX) = Tx.prs st' (k + 1) (Tx.split 10 (Tx.restOf st0)) := fun h => by rw [h1]; exact Tx.prs_hit h
  have HLEN0 : Tx.whole st0 = true → (Tx.bodyOf st0).length + 1 + (Tx.restOf st0).length = st0.length := fun h => by
   rcases Tx.whole_cases st0 with ⟨e, _⟩ | ⟨_, _, e⟩
   ·rw [e] at h; cases h
   ·exact e
  obtain ⟨BD, hBD⟩ : ∃ b, b = Tx.bodyOf st0 := ⟨_, rfl⟩
  obtain ⟨wh, hwh⟩ : ∃ b, b = Tx.whole st0 := ⟨_, rfl⟩
  obtain ⟨LN, hLN⟩ : ∃ L, L = Tx.bs (Tx.lineOf st0) := ⟨_, rfl⟩
  rw [← hBD, ← hwh, ← hLN] at h137
  rw [← hBD] at hbl HHIT0 HLEN0
  rw [← hwh] at HMISS0 HHIT0 HLEN0
  rw [← hLN]
  obtain ⟨Bd, hBd⟩ : ∃ L, L = Tx.bs BD := ⟨_, rfl⟩
  rw [← hBd] at h137
  have HBd := Lib.hid hBd
  have HLN : Hid (BD.length ≤ 4096) := Lib.hid (by omega)
  have H137 := Lib.hid h137
  have HMISS := Lib.hid HMISS0
  have HHIT := Lib.hid HHIT0
  have HLEN := Lib.hid HLEN0
  clear h1 h2 h3 h4 h5 h6 hG hl3 hbl h137 hBD hwh hLN hBd hne HMISS0 HHIT0 HLEN0
  by_cases hk0 : k = 0
  ·subst hk0
   have H138 : Hid (∀ W, Below r2 w W → Calls Tryz.prog 138 #[.string Bd, .string { data := #[103, 114, 111, 117, 110, 100] }, .int .i64 2] W (NQ W (Tx.nums Tx.wG 2 BD) 2)) := Lib.hid (fun W hW => by rw [HBd.out]; exact c138 BD Tx.wG 2 m W (by have := HLN.out; omega) (by first | decide | exact HC.out.2) (hm1.out W hW))
   have cN := cell_at HB.out.kn (i := 0) rfl
   have c0 : W.cell? ⟨g, 0, none⟩ = some (.int .i64 (cn : Int)) := by rw [← HC.out.1]; exact cell_at HB.out.kg (i := 0) rfl
   have l0 := cell_lt c0
   gi_wp2_with (refine ⟨trivial, ?_⟩; gi_at_call 137; refine (CallsIn.inRound lr (callsIn_wide.2 (H137.out _))).mono ?_; rintro e w' ⟨rfl, rfl⟩)
   refine wpIn_region_planL [(0, true), (1, true), (2, true)] W.heap.size 3 (by kernel_rfl) (by kernel_rfl) (by kernel_rfl) (fun ⟨_, _, h⟩ => h) (Nat.le_refl _) (fun _ _ d _ _ h => by cases d <;> exact h) ?_
   repeat (first | (refine wpPlanLA_skip _ rfl (by rfl) ?_; simp only [Act.put, List.setIfInBounds_toArray, List.set_cons_zero, List.set_cons_succ]) | (refine wpPlanLA_soft _ ?_ rfl (by rfl) ?_ ?_; rotate_left; (intro wq hq hcq; go_simp; first | exact rfl | exact ⟨rfl, rfl⟩); simp only [Act.put, List.setIfInBounds_toArray, List.set_cons_zero, List.set_cons_succ]))
   refine wpPlanLA_last _ rfl (by rfl) (fun w5 hS K hK => ?_)
   go_simp
   refine hK _ _ (fun w6 hb6 => ?_)
   have HB6 := Lib.hid (HB.out.grow hord (hS.call hb6 rfl))
   clear hK K hS hb6 cN c0 l0
   have cN := cell_at HB6.out.kn (i := 0) rfl
   gi_wp2_with (refine ⟨trivial, ?_⟩; gi_at_call 138; refine (CallsIn.inRound lr (callsIn_wide.2 (H138.out _ HB6.out.bel))).mono ?_)
   rintro e w7 hq
   obtain ⟨A, mq, cp, bb, rfl, hyes, hno, hb7⟩ := nq_cases hq
   have HB7 := Lib.hid (HB6.out.grow hord hb7)
   have HSZ6 := Lib.hid HB6.out.sz
   have HYES := Lib.hid hyes
   have HNO := Lib.hid hno
   clear hq hb7 hyes hno cN HB6
   have cN := cell_at HB7.out.kn (i := 0) rfl
   cases wh
   ·have HX := Lib.hid (HMISS.out rfl)
    gi_wp2
    refine wpIn_region_planC [(0, true), (1, true), (2, false), (3, false)] 4 (fun V => V.heap[n]? = some (.cells #[.int .i64 0] 3 (0, 0))) (fun _ _ h hb => blkb h hb) HB7.out.kn (by kernel_rfl) (by kernel_rfl) (by kernel_rfl) (fun ⟨_, _, h⟩ => h) (fun _ _ d _ _ h => by cases d <;> exact h) ?_
    repeat (first | (refine wpPlanLA_skip _ rfl (by rfl) ?_; simp only [Act.put, List.setIfInBounds_toArray, List.set_cons_zero, List.set_cons_succ]) | (refine wpPlanLA_softC _ ?_ rfl (by rfl) ?_ ?_; rotate_left; (intro wq hqn; have c0 := cell_at hqn (i := 0) rfl; go_simp; first | exact rfl | exact ⟨rfl, rfl⟩); simp only [Act.put, List.setIfInBounds_toArray, List.set_cons_zero, List.set_cons_succ]))
    refine wpPlanLA_hard _ rfl (by rfl) (fun w3 hb3 K hK => ?_)
    have B3 := HB7.out.grow hord hb3
    refine wp_store_blk 35 _ _ rfl r2 z35 rfl rfl B3.k2 rfl (by kernel_rfl) (by simp [z35, Value.oneCell']) (fun w4 hz4 hg4 hs4 => ?_)
    have B4 := Lib.hid (B3.set2 hord hz4 hg4)
    refine hK _ _ B4.out.kn ?_
    clear hK K hz4 hg4 hs4 hb3 B3
    try simp only [Act.put, List.setIfInBounds_toArray, List.set_cons_zero, List.set_cons_succ]
    refine wpPlanLA_hard _ rfl (by rfl) (fun w5 hb5 K hK => ?_)
    have B5 := B4.out.grow hord hb5
    have e3 := cell_at B5.k3 (i := 0) rfl
    have f3 := free_at B5.k3 (i := 0)
    have B6 := Lib.hid (B5.set3 hord 0)
    have z3 := cell_lt e3
    clear B5 hb5 B4
    go_simp
    refine hK _ _ B6.out.kn ?_
    clear hK K e3 f3 z3
    try simp only [Act.put, List.setIfInBounds_toArray, List.set_cons_zero, List.set_cons_succ]
    generalize w5.setCell ⟨r3, 0, none⟩ (.int .i64 0) = w6 at B6 ⊢
    refine wpPlanLA_last _ rfl (by rfl) (fun w8 hb8 K hK => ?_)
    have B7 := B6.out.grow hord hb8
    have e4 := cell_at B7.k4 (i := 0) rfl
    have f4 := free_at B7.k4 (i := 0)
    have B8 := Lib.hid (B7.set4 hord 25)
    have z4 := cell_lt e4
    clear B7 hb8 B6
    go_simp
    refine hK _ _ (fun w9 hb9 => ?_)
    clear hK K e4 f4 z4
    have HF : Hid (LinePost w2.heap.size (fun W => PI TX w r2 r3 r4 g n p (Tx.restOf st0) (Tx.restOf st0) W) (fun W => PX TX w r2 r3 r4 W) W .ret { tmps := #[], defers := [] } w9) := Lib.hid (by
     have B9 := B8.out.grow hord hb9
     rw [hb1]
     exact ⟨B9.kf, _, HX.out, B9.k2, B9.k3, B9.k4, B9.bel⟩)
    clear hb9 B8
    gi_wp2
    exact HF.out
   cases bb
   ·have HX := Lib.hid ((HHIT.out rfl).1 (by unfold Tx.stepG; rw [if_pos rfl, HNO.out rfl]; rfl))
    gi_wp2
    refine wpIn_region_planC [(0, true), (1, true), (2, false), (3, false)] 4 (fun V => V.heap[n]? = some (.cells #[.int .i64 0] 3 (0, 0))) (fun _ _ h hb => blkb h hb) HB7.out.kn (by kernel_rfl) (by kernel_rfl) (by kernel_rfl) (fun ⟨_, _, h⟩ => h) (fun _ _ d _ _ h => by cases d <;> exact h) ?_
    repeat (first | (refine wpPlanLA_skip _ rfl (by rfl) ?_; simp only [Act.put, List.setIfInBounds_toArray, List.set_cons_zero, List.set_cons_succ]) | (refine wpPlanLA_softC _ ?_ rfl (by rfl) ?_ ?_; rotate_left; (intro wq hqn; have c0 := cell_at hqn (i := 0) rfl; go_simp; first | exact rfl | exact ⟨rfl, rfl⟩); simp only [Act.put, List.setIfInBounds_toArray, List.set_cons_zero, List.set_cons_succ]))
    refine wpPlanLA_hard _ rfl (by rfl) (fun w3 hb3 K hK => ?_)
    have B3 := HB7.out.grow hord hb3
    refine wp_store_blk 35 _ _ rfl r2 z35 rfl rfl B3.k2 rfl (by kernel_rfl) (by simp [z35, Value.oneCell']) (fun w4 hz4 hg4 hs4 => ?_)
    have B4 := Lib.hid (B3.set2 hord hz4 hg4)
    refine hK _ _ B4.out.kn ?_
    clear hK K hz4 hg4 hs4 hb3 B3
    try simp only [Act.put, List.setIfInBounds_toArray, List.set_cons_zero, List.set_cons_succ]
    refine wpPlanLA_hard _ rfl (by rfl) (fun w5 hb5 K hK => ?_)
    have B5 := B4.out.grow hord hb5
    have e3 := cell_at B5.k3 (i := 0) rfl
    have f3 := free_at B5.k3 (i := 0)
    have B6 := Lib.hid (B5.set3 hord 0)
    have z3 := cell_lt e3
    clear B5 hb5 B4
    go_simp
    refine hK _ _ B6.out.kn ?_
    clear hK K e3 f3 z3
    try simp only [Act.put, List.setIfInBounds_toArray, List.set_cons_zero, List.set_cons_succ]
    generalize w5.setCell ⟨r3, 0, none⟩ (.int .i64 0) = w6 at B6 ⊢
    refine wpPlanLA_last _ rfl (by rfl) (fun w8 hb8 K hK => ?_)
    have B7 := B6.out.grow hord hb8
    have e4 := cell_at B7.k4 (i := 0) rfl
    have f4 := free_at B7.k4 (i := 0)
    have B8 := Lib.hid (B7.set4 hord 25)
    have z4 := cell_lt e4
    clear B7 hb8 B6
    go_simp
    refine hK _ _ (fun w9 hb9 => ?_)
    clear hK K e4 f4 z4
    have HF : Hid (LinePost w2.heap.size (fun W => PI TX w r2 r3 r4 g n p (Tx.restOf st0) (Tx.restOf st0) W) (fun W => PX TX w r2 r3 r4 W) W .ret { tmps := #[], defers := [] } w9) := Lib.hid (by
     have B9 := B8.out.grow hord hb9
     rw [hb1]
     exact ⟨B9.kf, _, HX.out, B9.k2, B9.k3, B9.k4, B9.bel⟩)
    clear hb9 B8
    gi_wp2
    exact HF.out
   obtain ⟨lq, hlq, rfl, hr7, hgA⟩ := HYES.out rfl
   have hlen7 := Tx.nums_length hlq
   have hnn := Tx.nums_nonneg hlq
   have hle7 := nums_le hlq
   obtain ⟨x0, x1, rfl⟩ : ∃ x0 x1, lq = [x0, x1] := by
    match lq, hlen7 with
    | [x0, x1], _ => exact ⟨x0, x1, rfl⟩
   have hx0 := hnn x0 (by simp)
   have HST := Lib.hid ((HHIT.out rfl).2 ⟨x0, x1, st.l⟩ (by unfold Tx.stepG; rw [if_pos rfl, hlq]; rfl))
   have HX0 : Hid (x0 = ((x0.toNat : Nat) : Int) ∧ x0.toNat ≤ 1000000000) := Lib.hid (by omega)
   obtain ⟨a2, o2, rfl, za2⟩ := hr7.form (by decide)
   have hq0 : w7.cell? ⟨a2, o2, none⟩ = some (.int .i64 x0) := hr7.get (k := 0) (by decide)
   have hq1 : w7.cell? ⟨a2, o2 + 1, none⟩ = some (.int .i64 x1) := hr7.get (k := 1) (by decide)
   have hag : a2 ≠ g := by
    have h1 := hgA a2 o2 rfl
    have h2 := HSZ6.out
    obtain ⟨_, _, _, _, _, h3⟩ := hord
    omega
   clear hr7 hgA hlq hnn hx0 hlen7 hle7 za2 HYES HNO
   gi_wp2
   refine wpIn_region_planC [(0, true), (1, true), (2, true), (3, true), (4, true), (5, true), (6, true), (7, false), (8, true)] 9 (fun V => V.cell? ⟨a2, o2, none⟩ = some (.int .i64 x0) ∧ V.cell? ⟨a2, o2 + 1, none⟩ = some (.int .i64 x1)) (fun _ _ h hb => ⟨(hb.cell (p := ⟨a2, o2, none⟩) (cell_lt h.1)).trans h.1, (hb.cell (p := ⟨a2, o2 + 1, none⟩) (cell_lt h.2)).trans h.2⟩) ⟨hq0, hq1⟩ (by kernel_rfl) (by kernel_rfl) (by kernel_rfl) (fun ⟨_, _, h⟩ => h) (fun _ _ d _ _ h => by cases d <;> exact h) ?_
   repeat (first | (refine wpPlanLA_skip _ rfl (by rfl) ?_; simp only [Act.put, List.setIfInBounds_toArray, List.set_cons_zero, List.set_cons_succ]) | (refine wpPlanLA_softC _ ?_ rfl (by rfl) ?_ ?_; rotate_left; (intro wq ⟨e0, e1⟩; have e0l := cell_lt e0; go_simp; first | exact rfl | exact ⟨rfl, rfl⟩); simp only [Act.put, List.setIfInBounds_toArray, List.set_cons_zero, List.set_cons_succ]))
   refine wpPlanLA_hard _ rfl (by rfl) (fun w3 hb3 K hK => ?_)
   have B3 := HB7.out.grow hord hb3
   have e3 := cell_at B3.kg (i := 0) rfl
   have f3 := free_at B3.kg (i := 0)
   have z3 := cell_lt e3
   have B4 := Lib.hid (B3.setc hord x0)
   have NC : (w3.setCell ⟨g, 0, none⟩ (.int .i64 x0)).cell? ⟨a2, o2, none⟩ = some (.int .i64 x0) ∧ (w3.setCell ⟨g, 0, none⟩ (.int .i64 x0)).cell? ⟨a2, o2 + 1, none⟩ = some (.int .i64 x1) := ⟨((World.cell?_of_block (a := ⟨a2, o2, none⟩) (set_far (p := ⟨g, 0, none⟩) _ hag)).trans (hb3.cell (p := ⟨a2, o2, none⟩) (cell_lt hq0))).trans hq0, ((World.cell?_of_block (a := ⟨a2, o2 + 1, none⟩) (set_far (p := ⟨g, 0, none⟩) _ hag)).trans (hb3.cell (p := ⟨a2, o2 + 1, none⟩) (cell_lt hq1))).trans hq1⟩
   clear B3 hb3 hq0 hq1
   go_simp
   refine hK _ _ NC ?_
   clear hK K e3 f3 z3 NC
   try simp only [Act.put, List.setIfInBounds_toArray, List.set_cons_zero, List.set_cons_succ]
   generalize w3.setCell ⟨g, 0, none⟩ (.int .i64 x0) = w4 at B4 ⊢
   repeat (first | (refine wpPlanLA_skip _ rfl (by rfl) ?_; simp only [Act.put, List.setIfInBounds_toArray, List.set_cons_zero, List.set_cons_succ]) | (refine wpPlanLA_softC _ ?_ rfl (by rfl) ?_ ?_; rotate_left; (intro wq ⟨e0, e1⟩; have e0l := cell_lt e0; go_simp; first | exact rfl | exact ⟨rfl, rfl⟩); simp only [Act.put, List.setIfInBounds_toArray, List.set_cons_zero, List.set_cons_succ]))
   refine wpPlanLA_last _ rfl (by rfl) (fun w5 hb5 K hK => ?_)
   have B5 := B4.out.grow hord hb5
   have e3 := cell_at B5.kg (i := 1) rfl
   have f3 := free_at B5.kg (i := 1)
   have z3 := cell_lt e3
   have B6 := Lib.hid (B5.setr hord x1)
   clear B5 hb5 B4
   go_simp
   refine hK _ _ (fun w9 hb9 => ?_)
   clear hK K e3 f3 z3
   have B9 := Lib.hid (B6.out.grow hord hb9)
   clear hb9 B6
   have e7 := cell_at B9.out.kn (i := 0) rfl
   have f7 := free_at B9.out.kn (i := 0)
   have z7 := cell_lt e7
   have HF : Hid (LinePost w2.heap.size (fun W => PI TX w r2 r3 r4 g n p (Tx.restOf st0) (Tx.restOf st0) W) (fun W => PX TX w r2 r3 r4 W) W .normal { tmps := #[], defers := [] } (w9.setCell ⟨n, 0, none⟩ (.int .i64 1))) := Lib.hid (by
    have BF := B9.out.setn hord 1
    have hl := HLEN.out (by first | exact rfl | exact trivial)
    have hb := HBND.out
    rw [hb1]
    exact ⟨BF.kf, ⟨x0, x1, st.l⟩, 1, x0.toNat, _, HST.out, fun h => (by cases h), HX0.out.1, HX0.out.2, by omega, by show st.l.length + _ ≤ _; omega, BF.here⟩)
   clear B9
   gi_wp2
   exact HF.out
  have HK0 := Lib.hid hk0
  have hke : ((k : Int) == 0) = false := by simp; omega
  have hwk : IntKind.i64.wrap ((k : Int) + 1) = ((k + 1 : Nat) : Int) := by rw [wrapI (by have := HBND.out; omega)]; simp
  clear hk0
  have H138 : Hid (∀ W, Below r2 w W → Calls Tryz.prog 138 #[.string Bd, .string { data := #[114, 111, 119] }, .int .i64 (cn : Int)] W (NQ W (Tx.nums Tx.wR cn BD) cn)) := Lib.hid (fun W hW => by rw [HBd.out]; exact c138 BD Tx.wR cn m W (by have := HLN.out; omega) (by first | decide | exact HC.out.2) (hm1.out W hW))
  have cN := cell_at HB.out.kn (i := 0) rfl
  have c0 : W.cell? ⟨g, 0, none⟩ = some (.int .i64 (cn : Int)) := by rw [← HC.out.1]; exact cell_at HB.out.kg (i := 0) rfl
  have l0 := cell_lt c0
  gi_wp2_with (refine ⟨trivial, ?_⟩; gi_at_call 137; refine (CallsIn.inRound lr (callsIn_wide.2 (H137.out _))).mono ?_; rintro e w' ⟨rfl, rfl⟩)
  refine wpIn_region_planL [(0, true), (1, true), (2, true)] W.heap.size 3 (by kernel_rfl) (by kernel_rfl) (by kernel_rfl) (fun ⟨_, _, h⟩ => h) (Nat.le_refl _) (fun _ _ d _ _ h => by cases d <;> exact h) ?_
  repeat (first | (refine wpPlanLA_skip _ rfl (by rfl) ?_; simp only [Act.put, List.setIfInBounds_toArray, List.set_cons_zero, List.set_cons_succ]) | (refine wpPlanLA_soft _ ?_ rfl (by rfl) ?_ ?_; rotate_left; (intro wq hq hcq; go_simp; first | exact rfl | exact ⟨rfl, rfl⟩); simp only [Act.put, List.setIfInBounds_toArray, List.set_cons_zero, List.set_cons_succ]))
  refine wpPlanLA_last _ rfl (by rfl) (fun w5 hS K hK => ?_)
  go_simp
  refine hK _ _ (fun w6 hb6 => ?_)
  have HB6 := Lib.hid (HB.out.grow hord (hS.call hb6 rfl))
  clear hK K hS hb6 cN c0 l0
  have cN := cell_at HB6.out.kn (i := 0) rfl
  gi_wp2_with (refine ⟨trivial, ?_⟩; gi_at_call 138; refine (CallsIn.inRound lr (callsIn_wide.2 (H138.out _ HB6.out.bel))).mono ?_)
  rintro e w7 hq
  obtain ⟨A, mq, cp, bb, rfl, hyes, hno, hb7⟩ := nq_cases hq
  have HB7 := Lib.hid (HB6.out.grow hord hb7)
  have HSZ6 := Lib.hid HB6.out.sz
  have HYES := Lib.hid hyes
  have HNO := Lib.hid hno
  clear hq hb7 hyes hno cN HB6
  have cN := cell_at HB7.out.kn (i := 0) rfl
  cases wh
  ·have HX := Lib.hid (HMISS.out rfl)
   gi_wp2
   refine wpIn_region_planC [(0, true), (1, true), (2, false), (3, false)] 4 (fun V => V.heap[n]? = some (.cells #[.int .i64 (k : Int)] 3 (0, 0))) (fun _ _ h hb => blkb h hb) HB7.out.kn (by kernel_rfl) (by kernel_rfl) (by kernel_rfl) (fun ⟨_, _, h⟩ => h) (fun _ _ d _ _ h => by cases d <;> exact h) ?_
   repeat (first | (refine wpPlanLA_skip _ rfl (by rfl) ?_; simp only [Act.put, List.setIfInBounds_toArray, List.set_cons_zero, List.set_cons_succ]) | (refine wpPlanLA_softC _ ?_ rfl (by rfl) ?_ ?_; rotate_left; (intro wq hqn; have c0 := cell_at hqn (i := 0) rfl; go_simp; first | exact rfl | exact ⟨rfl, rfl⟩); simp only [Act.put, List.setIfInBounds_toArray, List.set_cons_zero, List.set_cons_succ]))
   refine wpPlanLA_hard _ rfl (by rfl) (fun w3 hb3 K hK => ?_)
   have B3 := HB7.out.grow hord hb3
   refine wp_store_blk 35 _ _ rfl r2 z35 rfl rfl B3.k2 rfl (by kernel_rfl) (by simp [z35, Value.oneCell']) (fun w4 hz4 hg4 hs4 => ?_)
   have B4 := Lib.hid (B3.set2 hord hz4 hg4)
   refine hK _ _ B4.out.kn ?_
   clear hK K hz4 hg4 hs4 hb3 B3
   try simp only [Act.put, List.setIfInBounds_toArray, List.set_cons_zero, List.set_cons_succ]
   refine wpPlanLA_hard _ rfl (by rfl) (fun w5 hb5 K hK => ?_)
   have B5 := B4.out.grow hord hb5
   have e3 := cell_at B5.k3 (i := 0) rfl
   have f3 := free_at B5.k3 (i := 0)
   have B6 := Lib.hid (B5.set3 hord (k : Int))
   have z3 := cell_lt e3
   clear B5 hb5 B4
   go_simp
   refine hK _ _ B6.out.kn ?_
   clear hK K e3 f3 z3
   try simp only [Act.put, List.setIfInBounds_toArray, List.set_cons_zero, List.set_cons_succ]
   generalize w5.setCell ⟨r3, 0, none⟩ (.int .i64 (k : Int)) = w6 at B6 ⊢
   refine wpPlanLA_last _ rfl (by rfl) (fun w8 hb8 K hK => ?_)
   have B7 := B6.out.grow hord hb8
   have e4 := cell_at B7.k4 (i := 0) rfl
   have f4 := free_at B7.k4 (i := 0)
   have B8 := Lib.hid (B7.set4 hord 25)
   have z4 := cell_lt e4
   clear B7 hb8 B6
   go_simp
   refine hK _ _ (fun w9 hb9 => ?_)
   clear hK K e4 f4 z4
   have HF : Hid (LinePost w2.heap.size (fun W => PI TX w r2 r3 r4 g n p (Tx.restOf st0) (Tx.restOf st0) W) (fun W => PX TX w r2 r3 r4 W) W .ret { tmps := #[], defers := [] } w9) := Lib.hid (by
    have B9 := B8.out.grow hord hb9
    rw [hb1]
    exact ⟨B9.kf, _, HX.out, B9.k2, B9.k3, B9.k4, B9.bel⟩)
   clear hb9 B8
   gi_wp2
   exact HF.out
  cases bb
  ·have HX := Lib.hid ((HHIT.out rfl).1 (by unfold Tx.stepG; rw [if_neg HK0.out, HC.out.1, Int.toNat_natCast, HNO.out rfl]; rfl))
   gi_wp2
   refine wpIn_region_planC [(0, true), (1, true), (2, false), (3, false)] 4 (fun V => V.heap[n]? = some (.cells #[.int .i64 (k : Int)] 3 (0, 0))) (fun _ _ h hb => blkb h hb) HB7.out.kn (by kernel_rfl) (by kernel_rfl) (by kernel_rfl) (fun ⟨_, _, h⟩ => h) (fun _ _ d _ _ h => by cases d <;> exact h) ?_
   repeat (first | (refine wpPlanLA_skip _ rfl (by rfl) ?_; simp only [Act.put, List.setIfInBounds_toArray, List.set_cons_zero, List.set_cons_succ]) | (refine wpPlanLA_softC _ ?_ rfl (by rfl) ?_ ?_; rotate_left; (intro wq hqn; have c0 := cell_at hqn (i := 0) rfl; go_simp; first | exact rfl | exact ⟨rfl, rfl⟩); simp only [Act.put, List.setIfInBounds_toArray, List.set_cons_zero, List.set_cons_succ]))
   refine wpPlanLA_hard _ rfl (by rfl) (fun w3 hb3 K hK => ?_)
   have B3 := HB7.out.grow hord hb3
   refine wp_store_blk 35 _ _ rfl r2 z35 rfl rfl B3.k2 rfl (by kernel_rfl) (by simp [z35, Value.oneCell']) (fun w4 hz4 hg4 hs4 => ?_)
   have B4 := Lib.hid (B3.set2 hord hz4 hg4)
   refine hK _ _ B4.out.kn ?_
   clear hK K hz4 hg4 hs4 hb3 B3
   try simp only [Act.put, List.setIfInBounds_toArray, List.set_cons_zero, List.set_cons_succ]
   refine wpPlanLA_hard _ rfl (by rfl) (fun w5 hb5 K hK => ?_)
   have B5 := B4.out.grow hord hb5
   have e3 := cell_at B5.k3 (i := 0) rfl
   have f3 := free_at B5.k3 (i := 0)
   have B6 := Lib.hid (B5.set3 hord (k : Int))
   have z3 := cell_lt e3
   clear B5 hb5 B4
   go_simp
   refine hK _ _ B6.out.kn ?_
   clear hK K e3 f3 z3
   try simp only [Act.put, List.setIfInBounds_toArray, List.set_cons_zero, List.set_cons_succ]
   generalize w5.setCell ⟨r3, 0, none⟩ (.int .i64 (k : Int)) = w6 at B6 ⊢
   refine wpPlanLA_last _ rfl (by rfl) (fun w8 hb8 K hK => ?_)
   have B7 := B6.out.grow hord hb8
   have e4 := cell_at B7.k4 (i := 0) rfl
   have f4 := free_at B7.k4 (i := 0)
   have B8 := Lib.hid (B7.set4 hord 25)
   have z4 := cell_lt e4
   clear B7 hb8 B6
   go_simp
   refine hK _ _ (fun w9 hb9 => ?_)
   clear hK K e4 f4 z4
   have HF : Hid (LinePost w2.heap.size (fun W => PI TX w r2 r3 r4 g n p (Tx.restOf st0) (Tx.restOf st0) W) (fun W => PX TX w r2 r3 r4 W) W .ret { tmps := #[], defers := [] } w9) := Lib.hid (by
    have B9 := B8.out.grow hord hb9
    rw [hb1]
    exact ⟨B9.kf, _, HX.out, B9.k2, B9.k3, B9.k4, B9.bel⟩)
   clear hb9 B8
   gi_wp2
   exact HF.out
  obtain ⟨lq, hlq, rfl, hr7, hgA⟩ := HYES.out rfl
  have hlen7 := Tx.nums_length hlq
  have hnn := Tx.nums_nonneg hlq
  have hle7 := nums_le hlq
  have HST := Lib.hid ((HHIT.out rfl).2 ⟨st.c, st.r, st.l ++ lq⟩ (by unfold Tx.stepG; rw [if_neg HK0.out, HC.out.1, Int.toNat_natCast, hlq]; rfl))
  have HLQ := Lib.hid hlen7
  have HLE7 := Lib.hid hle7
  have hrow := HB7.out.row
  have hsz7 := HB7.out.sz
  have HR7 := Lib.hid hr7
  have c2 := cell_at HB7.out.kg (i := 2) rfl
  have l2 := cell_lt c2
  have hnm : st.l.length + mq ≤ 1000000 := by have := HBND.out; have := HLEN.out (by first | exact rfl | exact trivial); omega
  clear hr7 hgA hlq hnn hlen7 hle7 HYES HNO
  gi_wp2_with (gi_at_builtin; refine stopq ?_)
  unfold StopQ
  refine wpListIn_app_ints _ rfl _ _ rfl (p + 1) _ st.l.length st.l lq rfl hrow A mq cp rfl HR7.out hnm hsz7 ?_
  intro v8 w8 hown8 hg8
  have hown9 : Own w8 (p + 1) v8 (st.l ++ lq).length (encI (st.l ++ lq)) := by rw [List.length_append, HLQ.out]; exact hown8
  have B8 := Lib.hid (HB7.out.app hord hown9 hg8)
  obtain ⟨A8, c8, rfl, _⟩ := Sl.of_own hown8
  clear hown8 hg8 hown9 hrow hsz7 c2 l2 cN
  have e8 := cell_at B8.out.kg (i := 2) rfl
  have f8 := free_at B8.out.kg (i := 2)
  have z8 := cell_lt e8
  have B9 := Lib.hid (B8.out.setx hord (.slice A8 (st.l.length + mq) c8))
  have e7 := cell_at B8.out.kn (i := 0) rfl
  have f7 := free_at B8.out.kn (i := 0)
  have z7 := cell_lt e7
  have hng : n ≠ g := by obtain ⟨_, _, _, _, h, _⟩ := hord; omega
  have HF : Hid (LinePost w2.heap.size (fun W => PI TX w r2 r3 r4 g n p (Tx.restOf st0) (Tx.restOf st0) W) (fun W => PX TX w r2 r3 r4 W) W .normal { tmps := #[], defers := [] } ((w8.setCell ⟨g, 2, none⟩ (.slice A8 (st.l.length + mq) c8)).setCell ⟨n, 0, none⟩ (.int .i64 ((k + 1 : Nat) : Int)))) := Lib.hid (by
   have BF := B9.out.setn hord ((k + 1 : Nat) : Int)
   have hl := HLEN.out (by first | exact rfl | exact trivial)
   have hb := HBND.out
   have hq := HLQ.out
   have hle := HLE7.out
   rw [hb1]
   exact ⟨BF.kf, ⟨st.c, st.r, st.l ++ lq⟩, k + 1, mq, _, HST.out, fun h => (by omega), HC.out.1, HC.out.2, by omega, by rw [List.length_append]; omega, BF.here⟩)
  clear B9 hnm
  cases A8
  ·gi_wp2
   exact HF.out
  ·gi_wp2
   exact HF.out
 case done =>
  intro D W hD hI hK0
  rw [hb1] at hD
  obtain ⟨st, k, cn, x, h1, h2, h3, h4, h5, h6, hG⟩ := hI
  have hk1 : 1 ≤ k := by
   rcases Nat.eq_zero_or_pos k with h | h
   ·exact absurd (h2 h).symm HTN.out
   ·exact h
  obtain ⟨Ax, cx, rfl, hrx, hlx, hcx, _⟩ := own_form hG.row
  have hl3 : TX.length ≤ 4096 := hTXl.out
  have hK := Lib.hid hK0
  have HB := Lib.hid hG
  have hpf : Tx.prs Tx.zG 0 (Tx.split 10 TX) = if (k : Int) - 1 ≠ st.r then (Tx.zG, (k : Int), 2) else if Mo.ground st.c st.r st.l ≠ 0 then (Tx.zG, (k : Int), Mo.ground st.c st.r st.l) else (st, 0, 0) := by
   rw [h1, show Tx.split 10 ([] : List UInt8) = [[]] from rfl]
   unfold Tx.prs
   rw [if_neg (by simp; omega)]
  obtain ⟨bq, hbq⟩ : ∃ b, ((k : Int) - 1 != st.r) = b := ⟨_, rfl⟩
  obtain ⟨Gq, hGq⟩ : ∃ G, G = Mo.ground st.c st.r st.l := ⟨_, rfl⟩
  obtain ⟨E, hE⟩ : ∃ E, E = Mo.first [Mo.when bq 2, Gq] := ⟨_, rfl⟩
  have HBAD : Hid (E ≠ 0 → Tx.parseG TX = (Tx.zG, (k : Int), E)) := Lib.hid (fun h => by
   rw [HPS.out, hpf]
   cases bq
   ·have : (k : Int) - 1 = st.r := by simpa using hbq
    have he : E = Gq := by rw [hE]; by_cases hg : Gq = 0 <;> simp [Mo.first, Mo.when, hg]
    rw [if_neg (by simp [this]), if_pos (by rw [← hGq, ← he]; exact h), he, hGq]
   ·have : (k : Int) - 1 ≠ st.r := by simpa using hbq
    rw [if_pos this, hE]; rfl)
  have HOK : Hid (E = 0 → Tx.parseG TX = (st, 0, 0)) := Lib.hid (fun h => by
   rw [HPS.out, hpf]
   cases bq
   ·have : (k : Int) - 1 = st.r := by simpa using hbq
    have he : E = Gq := by rw [hE]; by_cases hg : Gq = 0 <;> simp [Mo.first, Mo.when, hg]
    rw [if_neg (by simp [this]), if_neg (by rw [← hGq, ← he, h]; simp)]
   ·rw [h] at hE; cases hE)
  have HE := Lib.hid hE
  have HGQ := Lib.hid hGq
  have HLX := Lib.hid (⟨hlx, hcx⟩ : st.l.length ≤ cx ∧ cx ≤ 9223372036854775807)
  have HSL : Hid (st.l.length ≤ 1000000) := Lib.hid (by omega)
  have hwk : IntKind.i64.wrap ((k : Int) - 1) = (k : Int) - 1 := by rw [wrapI (by omega)]
  have HRX := Lib.hid hrx
  have cN := cell_at hG.kn (i := 0) rfl
  have c0 := cell_at hG.kg (i := 0) rfl
  have c1 := cell_at hG.kg (i := 1) rfl
  have c2 := cell_at hG.kg (i := 2) rfl
  have lN := cell_lt cN
  have l0 := cell_lt c0
  clear h1 h2 h3 h4 h5 h6 hG hk1 hrx hlx hcx hl3 hpf hE hGq hK0
  go_wp2_with fail
  refine Code.wp_mono nopan_le ?_
  refine wp_region_plan [(0, true), (1, true), (2, true), (3, true), (4, true), (6, true), (5, false), (7, false), (8, false), (9, false), (10, true)] W.heap.size (by kernel_rfl) (by kernel_rfl) (Nat.le_refl _) nopan_pan ?_
  have hC : Below W.heap.size W W := Below.refl _ _
  repeat (first | (refine wpPlanA_skip _ rfl (by rfl) ?_; simp only [Act.put, List.setIfInBounds_toArray, List.set_cons_zero, List.set_cons_succ]) | (refine wpPlanA_soft _ ?_ rfl (by rfl) ?_ ?_; rotate_left; (intro wq hq hcq; go_simp; first | exact rfl | exact ⟨rfl, rfl⟩); simp only [Act.put, List.setIfInBounds_toArray, List.set_cons_zero, List.set_cons_succ]))
  refine wpPlanA_hard _ rfl (by rfl) (fun w3 hS K hK9 => ?_)
  replace hC := hC.call hS rfl
  go_simp
  refine (c94 bq 2 _).mono ?_
  rintro e w' ⟨rfl, rfl⟩
  refine hK9 _ _ hC ?_
  clear hK9 K hS
  try simp only [Act.put, List.setIfInBounds_toArray, List.set_cons_zero, List.set_cons_succ]
  repeat (first | (refine wpPlanA_skip _ rfl (by rfl) ?_; simp only [Act.put, List.setIfInBounds_toArray, List.set_cons_zero, List.set_cons_succ]) | (refine wpPlanA_soft _ ?_ rfl (by rfl) ?_ ?_; rotate_left; (intro wq hq hcq; go_simp; first | exact rfl | exact ⟨rfl, rfl⟩); simp only [Act.put, List.setIfInBounds_toArray, List.set_cons_zero, List.set_cons_succ]))
  refine wpPlanA_hard _ rfl (by rfl) (fun w4 hS K hK9 => ?_)
  replace hC := hC.call hS rfl
  go_simp
  refine (c64 st.c st.r Ax st.l.length cx st.l _ HSL.out (RdI.below HRX.out hC)).mono ?_
  rintro e w5 ⟨rfl, hb⟩
  rw [← HGQ.out]
  replace hC := hC.call hb rfl
  refine hK9 _ _ hC ?_
  clear hK9 K hS hb
  try simp only [Act.put, List.setIfInBounds_toArray, List.set_cons_zero, List.set_cons_succ]
  repeat (first | (refine wpPlanA_skip _ rfl (by rfl) ?_; simp only [Act.put, List.setIfInBounds_toArray, List.set_cons_zero, List.set_cons_succ]) | (refine wpPlanA_soft _ ?_ rfl (by rfl) ?_ ?_; rotate_left; (intro wq hq hcq; go_simp; first | exact rfl | exact ⟨rfl, rfl⟩); simp only [Act.put, List.setIfInBounds_toArray, List.set_cons_zero, List.set_cons_succ]))
  refine wpPlanA_hard _ rfl (by rfl) (fun w6 hS K hK9 => ?_)
  replace hC := hC.call hS rfl
  go_simp
  have hb : Below w6.heap.size w6 (w6.alloc (Obj.cells #[.int .i64 (Mo.when bq 2), .int .i64 Gq] 32)) := (Below.refl _ _).alloc (Nat.le_refl _) _
  have hR6 : RdS (w6.alloc (Obj.cells #[.int .i64 (Mo.when bq 2), .int .i64 Gq] 32)) 1 (some ⟨w6.heap.size, 0, none⟩) 2 (encI [Mo.when bq 2, Gq]) := RdS.of_block (cs := encI [Mo.when bq 2, Gq]) (heap_new rfl) rfl
  refine hK9 _ _ (hC.alloc hC.size _) ?_
  clear hK9 K hS
  replace hC := hC.call hb rfl
  generalize hWn : w6.alloc (Obj.cells #[.int .i64 (Mo.when bq 2), .int .i64 Gq] 32) = w7 at hC hR6 ⊢
  clear hWn hb
  generalize hWn : w6.heap.size = b6 at hR6 ⊢
  clear hWn
  try simp only [Act.put, List.setIfInBounds_toArray, List.set_cons_zero, List.set_cons_succ]
  repeat (first | (refine wpPlanA_skip _ rfl (by rfl) ?_; simp only [Act.put, List.setIfInBounds_toArray, List.set_cons_zero, List.set_cons_succ]) | (refine wpPlanA_soft _ ?_ rfl (by rfl) ?_ ?_; rotate_left; (intro wq hq hcq; go_simp; first | exact rfl | exact ⟨rfl, rfl⟩); simp only [Act.put, List.setIfInBounds_toArray, List.set_cons_zero, List.set_cons_succ]))
  refine wpPlanA_hard _ rfl (by rfl) (fun w8 hS K hK9 => ?_)
  replace hC := hC.call hS rfl
  go_simp
  refine (c89 (some ⟨b6, 0, none⟩) 2 2 [Mo.when bq 2, Gq] _ rfl (by decide) (hR6.below hS)).mono ?_
  rintro e w' ⟨rfl, rfl⟩
  rw [← HE.out]
  refine hK9 _ _ hC ?_
  clear hK9 K hS hR6
  try simp only [Act.put, List.setIfInBounds_toArray, List.set_cons_zero, List.set_cons_succ]
  repeat (first | (refine wpPlanA_skip _ rfl (by rfl) ?_; simp only [Act.put, List.setIfInBounds_toArray, List.set_cons_zero, List.set_cons_succ]) | (refine wpPlanA_soft _ ?_ rfl (by rfl) ?_ ?_; rotate_left; (intro wq hq hcq; go_simp; first | exact rfl | exact ⟨rfl, rfl⟩); simp only [Act.put, List.setIfInBounds_toArray, List.set_cons_zero, List.set_cons_succ]))
  refine wpPlanA_nil (fun w9 hS => ?_)
  refine nopan_norm ?_
  have HB9 := Lib.hid (HB.out.grow hord (hC.call hS rfl))
  clear hC hS cN c0 c1 c2 lN l0 HRX
  by_cases hE0 : E = 0
  ·subst hE0
   have HP := Lib.hid (HOK.out rfl)
   have q0 := cell_at HB9.out.kg (i := 0) rfl
   have q1 := cell_at HB9.out.kg (i := 1) rfl
   have q2 := cell_at HB9.out.kg (i := 2) rfl
   go_wp2_with (refine wpList_store_blk rfl 35 _ _ rfl r2 _ rfl rfl HB9.out.k2 ?s1 ?s2 ?s3 ?_)
   case s1 => rfl
   case s2 => exact Option.map_eq_some_iff.1 (show (Tryz.prog.info? 35).map (·.size) = some 3 by kernel_rfl)
   case s3 => simp [Value.oneCell']
   intro wa hz hg hs
   have Ba := Lib.hid (HB9.out.set2 hord hz hg)
   clear hz hg hs q0 q1 q2
   have e3 := cell_at Ba.out.k3 (i := 0) rfl
   have f3 := free_at Ba.out.k3 (i := 0)
   have e4 := cell_at Ba.out.k4 (i := 0) rfl
   have f4 := free_at Ba.out.k4 (i := 0)
   have z3 := cell_lt e3
   have z4 := cell_lt e4
   have n43 : r4 ≠ r3 := by obtain ⟨_, _, _, _, _, _⟩ := hord; omega
   have BF := Lib.hid ((Ba.out.set3 hord 0).set4 hord 0)
   go_wp2
   generalize ((wa.setCell ⟨r3, 0, none⟩ (.int .i64 0)).setCell ⟨r4, 0, none⟩ (.int .i64 0)) = wb at BF ⊢
   clear e3 f3 e4 f4 z3 z4 n43
   have hKf := BF.out.kf.same D _ (by omega) hK.out rfl
   have hDp : p + 1 ≤ D := by omega
   obtain ⟨a1, a2, a3, a4, a5, a6⟩ := hord
   have g2 := (World.putObj_heap_other (o := .deferred none) (show r2 ≠ D by omega)).trans BF.out.k2
   have g3 := (World.putObj_heap_other (o := .deferred none) (show r3 ≠ D by omega)).trans BF.out.k3
   have g4 := (World.putObj_heap_other (o := .deferred none) (show r4 ≠ D by omega)).trans BF.out.k4
   have e3 := cell_at g3 (i := 0) rfl
   have e4 := cell_at g4 (i := 0) rfl
   have hBf := BF.out.bel.grown (grownBy_putObj' _ D (.deferred none)) (by have := BF.out.sz; omega) (fun j hj => by cases hj; omega)
   have hrow := own_keepR (B := p + 1) BF.out.row (grownBy_putObj' wb D (.deferred none)) (fun r e => by cases e; exact ⟨hDp, _, hKf, rfl⟩)
   obtain ⟨A9, c9, h9, hr9, _⟩ := own_form hrow
   cases h9
   refine ⟨by simp, .inl ⟨_, _, rfl, run_takeDeferred hKf, ?_⟩⟩
   refine ⟨_, results_blk3 rfl rfl rfl rfl g2 _ Tryz.underlying35 rfl (by kernel_rfl) (x := .int .i64 0) (y := .int .i64 0) (by simp [go_sem, e3]) (by simp [go_sem, e4]), ?_⟩
   rw [HP.out]
   refine ⟨_, _, rfl, hr9, HLX.out.1, HLX.out.2, ?_⟩
   rw [a1]
   exact hBf
  ·have hEb : (E != 0) = true := by simpa using hE0
   have HP := Lib.hid (HBAD.out hE0)
   have cN := cell_at HB9.out.kn (i := 0) rfl
   clear hE0
   go_wp2_with fail
   refine Code.wp_mono nopan_le ?_
   refine wp_region_planC [(0, true), (1, true), (2, true), (3, false), (4, false)] 5 (fun V => V.heap[n]? = some (.cells #[.int .i64 (k : Int)] 3 (0, 0))) (fun _ _ h hb => blkb h hb) HB9.out.kn (by kernel_rfl) (by kernel_rfl) nopan_pan ?_
   repeat (first | (refine wpPlanLA_skip _ rfl (by rfl) ?_; simp only [Act.put, List.setIfInBounds_toArray, List.set_cons_zero, List.set_cons_succ]) | (refine wpPlanLA_softC _ ?_ rfl (by rfl) ?_ ?_; rotate_left; (intro wq hqn; have c0 := cell_at hqn (i := 0) rfl; go_simp; first | exact rfl | exact ⟨rfl, rfl⟩); simp only [Act.put, List.setIfInBounds_toArray, List.set_cons_zero, List.set_cons_succ]))
   refine wpPlanLA_hard _ rfl (by rfl) (fun w3 hb3 K hK9 => ?_)
   have B3 := HB9.out.grow hord hb3
   refine wp_store_blk 35 _ _ rfl r2 z35 rfl rfl B3.k2 rfl (by kernel_rfl) (by simp [z35, Value.oneCell']) (fun w4 hz4 hg4 hs4 => ?_)
   have B4 := Lib.hid (B3.set2 hord hz4 hg4)
   refine hK9 _ _ B4.out.kn ?_
   clear hK9 K hz4 hg4 hs4 hb3 B3
   try simp only [Act.put, List.setIfInBounds_toArray, List.set_cons_zero, List.set_cons_succ]
   refine wpPlanLA_hard _ rfl (by rfl) (fun w5 hb5 K hK9 => ?_)
   have B5 := B4.out.grow hord hb5
   have e3 := cell_at B5.k3 (i := 0) rfl
   have f3 := free_at B5.k3 (i := 0)
   have B6 := Lib.hid (B5.set3 hord k)
   have z3 := cell_lt e3
   clear B5 hb5 B4
   go_simp
   refine hK9 _ _ B6.out.kn ?_
   clear hK9 K e3 f3 z3
   try simp only [Act.put, List.setIfInBounds_toArray, List.set_cons_zero, List.set_cons_succ]
   generalize w5.setCell ⟨r3, 0, none⟩ (.int .i64 k) = w6 at B6 ⊢
   refine wpPlanLA_last _ rfl (by rfl) (fun w8 hb8 K hK9 => ?_)
   have B7 := B6.out.grow hord hb8
   have e4 := cell_at B7.k4 (i := 0) rfl
   have f4 := free_at B7.k4 (i := 0)
   have B8 := Lib.hid (B7.set4 hord E)
   have z4 := cell_lt e4
   clear B7 hb8 B6
   go_simp
   refine hK9 _ _ (fun wb hb9 => ?_)
   refine nopan_norm ?_
   clear hK9 K e4 f4 z4
   have BF := Lib.hid (B8.out.grow hord hb9)
   clear hb9 B8
   go_wp2
   have hKf := BF.out.kf.same D _ (by omega) hK.out rfl
   have hDp : p + 1 ≤ D := by omega
   obtain ⟨a1, a2, a3, a4, a5, a6⟩ := hord
   have g2 := (World.putObj_heap_other (o := .deferred none) (show r2 ≠ D by omega)).trans BF.out.k2
   have g3 := (World.putObj_heap_other (o := .deferred none) (show r3 ≠ D by omega)).trans BF.out.k3
   have g4 := (World.putObj_heap_other (o := .deferred none) (show r4 ≠ D by omega)).trans BF.out.k4
   have e3 := cell_at g3 (i := 0) rfl
   have e4 := cell_at g4 (i := 0) rfl
   have hBf := BF.out.bel.grown (grownBy_putObj' _ D (.deferred none)) (by have := BF.out.sz; omega) (fun j hj => by cases hj; omega)
   refine ⟨by simp, .inl ⟨_, _, rfl, run_takeDeferred hKf, ?_⟩⟩
   refine ⟨_, results_blk3 rfl rfl rfl rfl g2 _ Tryz.underlying35 rfl (by kernel_rfl) (x := .int .i64 k) (y := .int .i64 E) (by simp [go_sem, e3]) (by simp [go_sem, e4]), PG.zero HP.out ?_⟩
   rw [a1]
   exact hBf
 case stop =>
  intro D W hD hX hK
  obtain ⟨i, hi, h2, h3, h4, h5⟩ := hX
  rw [hb1] at hD
  obtain ⟨a1, a2, a3, a4, a5, a6⟩ := hord
  have g2 := (World.putObj_heap_other (o := .deferred none) (show r2 ≠ D by omega)).trans h2
  have g3 := (World.putObj_heap_other (o := .deferred none) (show r3 ≠ D by omega)).trans h3
  have g4 := (World.putObj_heap_other (o := .deferred none) (show r4 ≠ D by omega)).trans h4
  have e3 := cell_at g3 (i := 0) rfl
  have e4 := cell_at g4 (i := 0) rfl
  have hBf := h5.grown (grownBy_putObj' _ D (.deferred none)) (by have := (Array.getElem?_eq_some_iff.1 h2).1; omega) (fun j hj => by cases hj; omega)
  have HP : Hid (Tx.parseG TX = (Tx.zG, i, 25)) := Lib.hid (HPS.out.trans hi)
  have HG2 := Lib.hid g2
  have hKh := Lib.hid hK
  have HBf := Lib.hid hBf
  clear h2 h3 h4 h5 hi g2 g3 g4 hBf hK
  gi_wp2
  refine ⟨by simp, .inl ⟨_, _, rfl, run_takeDeferred hKh.out, ?_⟩⟩
  refine ⟨_, results_blk3 rfl rfl rfl rfl HG2.out _ Tryz.underlying35 rfl (by kernel_rfl) (x := .int .i64 i) (y := .int .i64 25) (by simp [go_sem, e3]) (by simp [go_sem, e4]), PG.zero HP.out ?_⟩
  rw [a1]
  exact HBf.out
end Go.Proofs.YtdimmlljjmmdbaaGreatDoor
namespace Go.Proofs.YtdimmlljjmmdbaaGreatDoor
open Go.RowKit
set_option maxHeartbeats 4000000
set_option maxRecDepth 20000
/-- Itoa at x, in any world that has grown out of w -/
def ItoaF (f : Int → ByteArray) (w : World) (x : Int) : Prop := ∀ W, Below w.heap.size w W → Calls Tryz.prog 162 #[.int .i64 x] W fun e w' => e = .returned (.string (f x)) ∧ Below W.heap.size W w'
theorem ItoaF.below {f : Int → ByteArray} {w W : World} {x : Int} (h : ItoaF f w x) (hB : Below w.heap.size w W) : ItoaF f W x := fun W' hB' => h W' (hB.call hB' rfl)
theorem c161w (A : Option Addr) (n cap : Nat) (l : List Int) (f : Int → ByteArray) (w : World) (hl : n ≤ 1000000) (H : RdI w A n l)
  (hcl : ∀ x ∈ l, ItoaF f w x) :
  Calls Tryz.prog 161 #[.slice A n cap, .func (.func 162) #[] #[]] w fun en w' => ∃ A' cap', en = .returned (.slice A' n cap') ∧ RdS w' 1 A' n (encS (l.map f)) ∧ Below w.heap.size w w' := by
 have Hn := Lib.hid H.len
 have Hcl := Lib.hid hcl
 have hmm : encS (l.map f) = l.map fun x => Value.string (f x) := by simp [encS]
 have Hm := Lib.hid hmm
 clear hcl hmm
 obtain ⟨i0, hi, hz0, hz1, hz2⟩ := info_parts info9
 go_enter Tryz.func161, Tryz.ntmps161
 go_wp2
 go_loopw [5, 10] (fun x i wr => ∃ k : Nat, k ≤ n ∧ i = .int .i64 k ∧ wr.ownsRow w.heap.size 9 1 x k ((l.map fun x => Value.string (f x)).take k) ∧ Below w.heap.size w wr) (fun _ i _ => n - (intOf i).toNat)
 case atStart => exact ⟨0, Nat.zero_le _, rfl, World.ownsRow_nil _ _ _ _, Below.refl _ _⟩
 case round =>
  obtain ⟨k, hk, rfl, hown, hB⟩ := hrel
  by_cases hlt : k < n
  ·obtain ⟨b, off, x, rfl, hx, hb, h0⟩ := (H.below hB).at hlt
   have Hx := Lib.hid hx
   have htk : (l.map fun x => Value.string (f x)).take (k + 1) = (l.map fun x => Value.string (f x)).take k ++ [Value.string (f x)] := by rw [List.take_add_one, List.getElem?_map, hx]; simp
   have HTK := Lib.hid htk
   clear hx htk
   go_wp2_with fail
   refine (Hcl.out x (List.mem_of_getElem? Hx.out) _ hB).mono ?_
   rintro e w2 ⟨rfl, hb2⟩
   replace hown := own_below hown hb2
   replace hB := hB.call hb2 rfl
   clear hb2 h0 hb
   have hsz := hB.size
   go_wp2_with (at_builtin; refine wpList_append_own _ rfl _ _ 140 rfl w.heap.size 9 i0 (.string ByteArray.empty) 1 16 Tryz.underlying140 hi hz0 hz1 hz2 rfl (by decide) _ _ _ rfl (hown.alloc _) ⟨w2.heap.size, 0, none⟩ 1 1 [Value.string (f x)] rfl rfl (news_one _ _ rfl) (fun x hx => by rw [List.mem_singleton.1 hx]; rfl) (by unfold maxLen; omega) (by omega) (by simp; omega) ?_)
   intro x' w3 hown3 hg3 _
   have hB3 : Below w.heap.size w w3 := (hB.alloc hsz _).grown hg3 (by simp; omega) (fun g hg => (hown.lt g hg).1)
   rw [← HTK.out] at hown3
   have HO := Lib.hid hown3
   clear hown3 hg3 hown
   go_wp2
   go_roundw
   case rel => exact ⟨k + 1, by omega, by go_num, HO.out, hB3⟩
   case measure => simp [intOf]; omega
  ·obtain rfl : n = k := by omega
   rw [List.take_of_length_le (by rw [List.length_map, Hn.out]; exact Nat.le_refl _)] at hown
   have HO := Lib.hid hown
   clear hown
   go_wp2
   go_ret
   obtain ⟨A', cap', rfl, hr⟩ := Sl.of_own HO.out
   exact ⟨A', cap', rfl, by rw [Hm.out]; exact hr, hB⟩
theorem c134w (word : ByteArray) (A : Option Addr) (n cap : Nat) (l : List Int) (f : Int → ByteArray) (w : World) (hl : n ≤ 1000000) (H : RdI w A n l)
  (hcl : ∀ x ∈ l, ItoaF f w x)
  (hlen : (Lib.join ((word :: l.map f).map (·.data.toList)) [32]).length ≤ 1000000) :
  Calls Tryz.prog 134 #[.string word, .slice A n cap] w fun en w' => en = .returned (.string (lineB word (l.map f))) ∧ Below w.heap.size w w' := by
 obtain ⟨w0, hW⟩ : ∃ W, W = w.alloc (Obj.cells #[.string word] 9) := ⟨_, rfl⟩
 have hB0 : Below w.heap.size w w0 := by rw [hW]; exact (Below.refl _ _).alloc (Nat.le_refl _) _
 have hown : w0.ownsRow w.heap.size 9 1 (.slice (some ⟨w.heap.size, 0, none⟩) 1 1) 1 [.string word] := ⟨rfl, .inr ⟨w.heap.size, 1, #[.string word], rfl, Nat.le_refl _, by rw [hW]; exact heap_new rfl, Nat.le_refl _, by unfold maxLen; omega, rfl, rfl⟩⟩
 have Hcl := Lib.hid hcl
 have HLN := Lib.hid H.len
 have H0 := H.below hB0
 have HLE := Lib.hid hlen
 clear hcl hlen H
 go_enter Tryz.func134, Tryz.ntmps134
 go_wp2_with fail
 rw [← hW]
 clear hW
 refine (c161w A n cap l f _ hl H0 (fun x hx => (Hcl.out x hx).below hB0)).mono ?_
 rintro e w1 ⟨A1, cap1, rfl, hr1, hb1⟩
 have hown1 := own_below hown hb1
 have hB1 := hB0.call hb1 rfl
 have hsz := hB1.size
 have H140 := Tryz.underlying140
 clear hown hb1 H0 hB0
 go_wp2_with (at_builtin; refine wpList_plain rfl fun K hK => wp_app1 _ _ 140 rfl w.heap.size 9 (.string ByteArray.empty) 16 Tryz.underlying140 info9 rfl (by decide) _ 1 [.string word] (encS (l.map f)) rfl hown1 A1 n cap1 rfl hr1 (fun u hu => by simp [encS] at hu; obtain ⟨y, _, rfl⟩ := hu; rfl) (by omega) hsz (fun v' w2 h2 h3 => ?_); obtain ⟨A2, cap2, rfl, hr2, hc2, _⟩ := own_form h2; refine hK _ _ (stopq ?_))
 unfold StopQ
 obtain ⟨bk, off, rfl, hbk, hcs⟩ := hr2.2 (by omega)
 obtain ⟨xs, hxs⟩ : ∃ xs, xs = word :: l.map f := ⟨_, rfl⟩
 have hxl : xs.length = 1 + n := by rw [hxs]; simp [HLN.out]; omega
 have hen : encS xs = [.string word] ++ encS (l.map f) := by rw [hxs]; rfl
 have hcells : ∀ (j : Nat) x, xs[j]? = some x → w2.cell? ⟨bk, off + j, none⟩ = some (.string x) := fun j x hx => by
  have hj : j < xs.length := by
   by_cases h : j < xs.length
   ·exact h
   ·rw [List.getElem?_eq_none (by omega)] at hx; cases hx
  have h1 := hcs j (by rw [← hen]; simp [encS]; exact hj)
  rw [h1, ← hen]
  simp [encS, hx]
 have hbb := hB1.grown h3 hsz (fun g hg => by cases hg; exact Nat.le_refl _)
 have HJL := HLE.out
 have HXS := Lib.hid hxs
 rw [← hxs] at HJL
 have HBB := Lib.hid hbb
 rw [← hxl]
 rw [← hxl] at hc2
 have hN : xs.length ≤ 140737488355328 := by omega
 clear hr2 hcs hen h2 h3 hown1 hr1 hbb hxs hxl
 go_wp2_with fail
 refine (Tryz.strings_Join bk off cap2 xs ⟨#[32]⟩ _ hcells hbk hN hc2 (Nat.le_trans HJL (by decide))).mono ?_
 rintro e w3 ⟨rfl, hb3⟩
 have HB3 : Hid (Below w.heap.size w w3) := Lib.hid (HBB.out.call hb3 rfl)
 clear hb3 hcells
 go_wp2
 go_ret
 exact ⟨by unfold lineB; rw [← HXS.out]; rfl, HB3.out⟩
end Go.Proofs.YtdimmlljjmmdbaaGreatDoor
namespace Go.Proofs.YtdimmlljjmmdbaaGreatDoor
open Go.RowKit Go.Shelf
set_option maxHeartbeats 8000000
set_option maxRecDepth 100000
attribute [local go_sem] Oper.semAt_some
theorem c81w (c r b off n cap : Nat) (l : List Int) (f : Int → ByteArray) (w : World) (g : Im.Gr c r l) (hc : c ≤ 16) (hr : r ≤ 16) (hcap : n ≤ cap) (H : RdI w (some ⟨b, off, none⟩) n l)
  (hcl : ∀ x ∈ (c : Int) :: (r : Int) :: l, ItoaF f w x) (hf : ∀ x ∈ (c : Int) :: (r : Int) :: l, (f x).size ≤ 20) :
  Calls Tryz.prog 81 #[.agg #[.int .i64 c, .int .i64 r, .slice (some ⟨b, off, none⟩) n cap]] w fun en w' => en = .returned (.tuple #[.string (prT f c l (lineB { data := #[103, 114, 111, 117, 110, 100] } [f c, f r]) r), .int .i64 0]) ∧ Below w.heap.size w w' := by
 have hln := H.len
 have hcl1 := g.c1
 have hlr := g.len
 have h256 : c * r ≤ 256 := Nat.mul_le_mul hc hr
 have hz := Mo.ground_of g hc hr
 obtain ⟨T0, hT00⟩ : ∃ T, T = lineB { data := #[103, 114, 111, 117, 110, 100] } [f c, f r] := ⟨_, rfl⟩
 rw [← hT00]
 have HT00 := Lib.hid hT00
 clear hT00
 refine (callsIn_wide (n := 6)).1 ?_
 refine callsIn_of_wp_marks Tryz.func81 rfl trivial ?_ rfl
 refine wpIn_wide.2 ?_
 simp only [Tryz.ntmps81, List.size_toArray, List.length_cons, List.length_nil, Nat.reduceAdd, Nat.reduceSub, Array.replicate_succ, Array.replicate_zero, List.push_toArray, List.append_toArray, List.nil_append, List.cons_append]
 obtain ⟨w0, hW⟩ : ∃ W, W = w.alloc (Obj.cells #[.int .i64 c, .int .i64 r, .slice (some ⟨b, off, none⟩) n cap] 35) := ⟨_, rfl⟩
 have hT0 : w0.heap[w.heap.size]? = some (.cells #[.int .i64 c, .int .i64 r, .slice (some ⟨b, off, none⟩) n cap] 35 (0, 0)) := by rw [hW]; exact heap_new (by simp)
 have hB0 : Below w.heap.size w w0 := by rw [hW]; exact (Below.refl _ _).alloc (Nat.le_refl _) _
 have H0 := H.below hB0
 have HCL := Lib.hid hcl
 have HF := Lib.hid hf
 have HG := Lib.hid hlr
 have HLN := Lib.hid hln
 have HRD := Lib.hid H
 clear hcl hf hlr H hln
 go_wp2_with fail
 rw [← hW]
 clear hW
 refine (c64 c r (some ⟨b, off, none⟩) n cap l _ (by have := HG.out; have := HLN.out; omega) H0).mono ?_
 rintro e w1 ⟨rfl, hb1⟩
 rw [hz]
 have hB1 := hB0.call hb1 rfl
 have H1 := H0.below hb1
 replace hT0 := blkb hT0 hb1
 have q0 : w1.cell? ⟨w.heap.size, 0, none⟩ = some (.int .i64 c) := cell_at hT0 rfl
 have q1 : w1.cell? ⟨w.heap.size, 1, none⟩ = some (.int .i64 r) := cell_at hT0 rfl
 clear hb1 hB0 H0
 go_wp2_with fail
 obtain ⟨w2, hW⟩ : ∃ W, W = w1.alloc (Obj.cells #[.int .i64 c, .int .i64 r] 3) := ⟨_, rfl⟩
 have hTs : w2.heap[w1.heap.size]? = some (.cells #[.int .i64 c, .int .i64 r] 3 (0, 0)) := by rw [hW]; exact heap_new (by simp)
 have hb2 : Below w1.heap.size w1 w2 := by rw [hW]; exact (Below.refl _ _).alloc (Nat.le_refl _) _
 rw [← hW]
 clear hW
 have hB2 := hB1.call hb2 rfl
 have H2 := H1.below hb2
 replace hT0 := blkb hT0 hb2
 clear hb2 hB1 H1 q0 q1
 have HT := line_len { data := #[103, 114, 111, 117, 110, 100] } f [(c : Int), (r : Int)] (by decide) (by simp) (fun x hx => HF.out x (by simp at hx ⊢; omega))
 refine (c134w { data := #[103, 114, 111, 117, 110, 100] } (some ⟨w1.heap.size, 0, none⟩) 2 2 [(c : Int), (r : Int)] f _ (by omega) (RdS.of_block (cs := encI [(c : Int), (r : Int)]) hTs rfl) (fun x hx => (HCL.out x (by simp at hx ⊢; omega)).below hB2) HT).mono ?_
 rintro e w3 ⟨rfl, hb3⟩
 clear hTs
 have hB3 := hB2.call hb3 rfl
 have H3 := H2.below hb3
 replace hT0 := blkb hT0 hb3
 clear hb3 hB2 H2
 have HTS : Hid (T0.size ≤ 1000001) := Lib.hid (by rw [HT00.out, lineB_size]; exact Nat.succ_le_succ HT)
 rw [show lineB { data := #[103, 114, 111, 117, 110, 100] } ([(c : Int), (r : Int)].map f) = T0 from HT00.out.symm]
 clear HT
 have q0 : w3.cell? ⟨w.heap.size, 0, none⟩ = some (.int .i64 c) := cell_at hT0 rfl
 have q2 : w3.cell? ⟨w.heap.size, 2, none⟩ = some (.slice (some ⟨b, off, none⟩) n cap) := cell_at hT0 rfl
 have hlw := cell_lt q0
 go_wp2_with fail
 refine (c135 b off n cap c hcl1 _).mono ?_
 rintro e w4 ⟨rfl, hw4⟩
 obtain ⟨ob, hob⟩ : ∃ b, b = w3.heap.size := ⟨_, rfl⟩
 obtain ⟨p1, hp1⟩ : ∃ b, b = ob + 1 := ⟨_, rfl⟩
 obtain ⟨p2, hp2⟩ : ∃ b, b = ob + 1 + 1 := ⟨_, rfl⟩
 have hs1 : (w3.alloc (Obj.cells #[.string T0] 9)).heap.size = p1 := by simp; omega
 rw [hs1, show p1 + 1 = p2 by omega]
 have k0 : w4.heap[ob]? = some (.cells #[.string T0] 9 (0, 0)) := by rw [hw4]; exact heap_old (by simp; omega) (heap_old (by simp; omega) (heap_new hob))
 have k1 : w4.heap[p1]? = some (.cells #[.slice (some ⟨b, off, none⟩) n cap] 22 (0, 0)) := by rw [hw4]; exact heap_old (by simp; omega) (heap_new hs1.symm)
 have k2 : w4.heap[p2]? = some (.cells #[.int .i64 c] 3 (0, 0)) := by rw [hw4]; exact heap_new (by simp; omega)
 have hb4 : Below w3.heap.size w3 w4 := by rw [hw4]; exact (below2 _ _ _).alloc (by simp; omega) _
 have hB4 := hB3.call hb4 rfl
 have hsz := hB4.size
 have HWO : Hid (w.heap.size ≤ ob) := Lib.hid (by rw [hob]; exact hB3.size)
 obtain ⟨bs, hbs⟩ : ∃ bs : ByteArray → List (Nat × Array Value × TypeId), bs = fun T => [(ob, #[.string T], 9), (p1, #[.slice (some ⟨b, off, none⟩) n cap], 22), (p2, #[.int .i64 c], 3)] := ⟨_, rfl⟩
 have I0 : BI w [] (bs T0) True w4 := by
  refine ⟨Marks.nil _ _, fun x hx => ?_, hB4, trivial⟩
  rw [hbs] at hx
  simp only [List.mem_cons, List.not_mem_nil, or_false] at hx
  rcases hx with rfl | rfl | rfl
  ·exact k0
  ·exact k1
  ·exact k2
 rw [← hob]
 have HBS := Lib.hid hbs
 have HR0 : Hid (RdI w (some ⟨b, off, none⟩) n l) := HRD
 have hob2 := Lib.hid (⟨by omega, by omega⟩ : p1 ≠ ob ∧ p2 ≠ ob)
 have hord := Lib.hid hsz
 clear hw4 hs1 hp1 hp2 hob k0 k1 k2 hb4 hB4 hB3 H3 hT0 q0 q2 hbs
 go_wp2
 have HNR : Hid (n = r * c) := Lib.hid (by rw [← HLN.out, HG.out, Nat.mul_comm])
 refine (wpIn_wide (n := 6)).1 ?_
 refine wpIn_chunks (n := 6) (by omega) (p1 := p1) (p2 := p2) (b := b) (off := off) (cap := cap) (N := n) (c := c) (r := r) hcl1 (by omega) (by omega) HNR.out hcap rfl rfl (fun k W => BI w [] (bs (prT f c l T0 k)) True W)
  (fun k => BI.own hsz (fun _ h => by cases h))
  (fun k W h => ⟨cell_at (h.blk (p1, #[.slice (some ⟨b, off, none⟩) n cap], 22) (by rw [HBS.out]; simp)) rfl, cell_at (h.blk (p2, #[.int .i64 c], 3) (by rw [HBS.out]; simp)) rfl⟩) I0
  (fun k => { tmps := #[.agg #[.int .i64 c, .int .i64 r, .slice (some ⟨b, off, none⟩) n cap], .pointer (some ⟨w.heap.size, 0, none⟩), .string { data := #[] }, .int .i64 0, .int .i64 0, .pointer (some ⟨ob, 0, none⟩), .slice (some ⟨b, off + k * c, none⟩) c c, .agg #[.int .i64 c, .int .i64 r, .slice (some ⟨b, off, none⟩) n cap], .int .i64 0, .int .i64 0, .bool false, undef, .pointer (some ⟨w.heap.size, 0, none⟩), .int .i64 c, .pointer (some ⟨w.heap.size, 1, none⟩), .int .i64 r, .slice (some ⟨w1.heap.size, 0, none⟩) 2 2, .string T0, .pointer (some ⟨w.heap.size, 2, none⟩), .slice (some ⟨b, off, none⟩) n cap, .pointer (some ⟨w.heap.size, 0, none⟩), .int .i64 c, .func (.func 163) #[] #[.pointer (some ⟨p1, 0, none⟩), .pointer (some ⟨p2, 0, none⟩)], .slice (some ⟨b, off + k * c, none⟩) c c, undef, undef, undef, undef, undef], defers := [] }) ?assign ?body ?done
 case assign =>
  intro lr k W K hK
  have HK := Lib.hid hK
  clear hK
  gi_wp2
  exact HK.out
 case done =>
  intro D W hD hI hK
  have k0 : W.heap[ob]? = some (.cells #[.string (prT f c l T0 r)] 9 (0, 0)) := hI.blk (ob, _, _) (by rw [HBS.out]; simp)
  have c0 : W.cell? ⟨ob, 0, none⟩ = some (.string (prT f c l T0 r)) := cell_at k0 rfl
  have hM : Marks w.heap.size [D] W := (Marks.nil _ w).push (Marks.nil _ W) (Nat.le_refl _) (Nat.le_trans hord.out hD) hK
  have HM := Lib.hid hM
  have HI := Lib.hid hI
  clear hI hM hK
  go_wp2
  refine leaves_marks [D] W W HM.out (Aft.refl _ _) rfl (fun w' ha => ?_)
  refine ⟨.tuple #[.string (prT f c l T0 r), .int .i64 0], by simp [results, Tryz.results81, go_sem], ?_⟩
  exact ⟨rfl, ha.2 w HI.out.bel.size HI.out.bel⟩
 case body =>
  intro lr k W hk hsz2 hI
  have k0 : W.heap[ob]? = some (.cells #[.string (prT f c l T0 k)] 9 (0, 0)) := hI.blk (ob, _, _) (by rw [HBS.out]; simp)
  have c0 : W.cell? ⟨ob, 0, none⟩ = some (.string (prT f c l T0 k)) := cell_at k0 rfl
  have f0 := free_at k0 (i := 0)
  have l0 := cell_lt c0
  have HRW := HR0.out.below hI.bel
  have HI := Lib.hid hI
  have HK0 := Lib.hid k0
  obtain ⟨T1, hT1⟩ : ∃ T, T = prT f c l T0 k := ⟨_, rfl⟩
  rw [← hT1] at c0
  have HT1 := Lib.hid hT1
  have hkc : k * c + c ≤ n := by
   rw [HNR.out]
   have : (k + 1) * c ≤ r * c := Nat.mul_le_mul hk (Nat.le_refl _)
   rw [Nat.add_mul] at this
   omega
  have hseg : Hid (RdI W (some ⟨b, off + k * c, none⟩) c (Im.rowK c l k)) := Lib.hid (HRW.seg (k * c) c hkc)
  have hmem : Hid (∀ x ∈ Im.rowK c l k, x ∈ (c : Int) :: (r : Int) :: l) := Lib.hid (fun x hx => by
   have := List.mem_of_mem_drop (List.mem_of_mem_take hx)
   simp [this])
  have HLC : Hid ((Lib.join (({ data := #[114, 111, 119] } :: (Im.rowK c l k).map f).map (·.data.toList)) [32]).length ≤ 1000000) := Lib.hid (line_len _ f _ (by decide) (by have := hseg.out.len; omega) (fun x hx => HF.out x (hmem.out x hx)))
  clear hI k0 hT1 HRW
  gi_wp2
  refine wpIn_region_planL [(0, true), (1, true), (2, false), (3, false)] W.heap.size 4 (by kernel_rfl) (by kernel_rfl) (by kernel_rfl) (fun ⟨_, _, h⟩ => h) (Nat.le_refl _) (fun _ _ d _ _ h => by cases d <;> exact h) ?_
  have hC : Below W.heap.size W W := Below.refl _ _
  repeat (first | (refine wpPlanLA_skip _ rfl (by rfl) ?_; simp only [Act.put, List.setIfInBounds_toArray, List.set_cons_zero, List.set_cons_succ]) | (refine wpPlanLA_soft _ ?_ rfl (by rfl) ?_ ?_; rotate_left; (intro wq hq hcq; go_simp; first | exact rfl | exact ⟨rfl, rfl⟩); simp only [Act.put, List.setIfInBounds_toArray, List.set_cons_zero, List.set_cons_succ]))
  refine wpPlanLA_hard _ rfl (by rfl) (fun w5 hS K hK => ?_)
  replace hC := hC.call hS rfl
  clear hS
  go_simp
  refine (c134w { data := #[114, 111, 119] } (some ⟨b, off + k * c, none⟩) c c (Im.rowK c l k) f _ (by omega) (hseg.out.below hC) (fun x hx => (HCL.out x (hmem.out x hx)).below (HI.out.bel.call hC rfl)) HLC.out).mono ?_
  rintro e w6 ⟨rfl, hb⟩
  replace hC := hC.call hb rfl
  clear hb
  refine hK _ _ hC ?_
  clear hK K
  try simp only [Act.put, List.setIfInBounds_toArray, List.set_cons_zero, List.set_cons_succ]
  refine wpPlanLA_hard _ rfl (by rfl) (fun w5 hS K hK => ?_)
  replace hC := hC.call hS rfl
  clear hS
  go_simp
  obtain ⟨LN, hLN⟩ : ∃ L, L = lineB { data := #[114, 111, 119] } ((Im.rowK c l k).map f) := ⟨_, rfl⟩
  have hsz7 : ¬ (9223372036854775807 < T1.size + LN.size) := by
   have h1 := prT_size f c l T0 (fun x hx => HF.out x (by simp [hx])) (by omega) k
   have h2 := HLC.out
   have h3 := HTS.out
   rw [hLN, lineB_size, HT1.out]
   omega
  rw [← hLN, if_neg hsz7]
  have HLNE := Lib.hid hLN
  clear hLN hsz7
  dsimp only [Oper.upon]
  refine hK _ _ hC ?_
  clear hK K
  try simp only [Act.put, List.setIfInBounds_toArray, List.set_cons_zero, List.set_cons_succ]
  refine wpPlanLA_last _ rfl (by rfl) (fun w7 hS K hK => ?_)
  replace hC := hC.call hS rfl
  clear hS
  have k7 := blkb HK0.out hC
  have f7 := free_at k7 (i := 0)
  have l7 := cell_lt (cell_at k7 (i := 0) rfl)
  have c7 := cell_at k7 (i := 0) rfl
  have HC := Lib.hid hC
  clear hC
  go_simp
  try dsimp only [Oper.upon]
  refine hK _ _ (fun w8 hb8 => ?_)
  have hkk : KeepsFrom w4.heap.size W w8 := ((keepsF_below HC.out).trans (keepsF_set _ k7)).trans (keepsF_below hb8)
  have h7 := (HI.out.below HC.out).set (b := ob) (bs' := bs (prT f c l T0 (k + 1))) (.string (T1 ++ LN)) HWO.out k7 (fun x hx => by
   rw [HBS.out] at hx ⊢
   simp only [List.mem_cons, List.not_mem_nil, or_false] at hx
   obtain ⟨hn1, hn2⟩ := hob2.out
   rcases hx with rfl | rfl | rfl
   ·exact .inl ⟨rfl, by rw [HT1.out, HLNE.out]; rfl, rfl⟩
   ·exact .inr ⟨hn1, by simp⟩
   ·exact .inr ⟨hn2, by simp⟩)
  exact ⟨hkk, h7.below hb8⟩
end Go.Proofs.YtdimmlljjmmdbaaGreatDoor
