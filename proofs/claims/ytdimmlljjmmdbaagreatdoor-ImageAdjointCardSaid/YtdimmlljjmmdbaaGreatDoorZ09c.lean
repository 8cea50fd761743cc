/- A part of the proofs about chapter 7 (image): contracts of functions and plain laws (V7, V8, V9, V10, V11, V12, V6, V13). -/
import Derived.Shelf.Bits.Mul64
import Derived.Shelf.Spec.SlicesInsert
import Derived.Lib.LazyBuf
import Derived.Lib.AppendZerosOnto
import Derived.Laws.NewBlocks
import Derived.Test.YtdimmlljjmmdbaaGreatDoorZ09a
import Derived.Test.YtdimmlljjmmdbaaGreatDoorZ09b
set_option linter.all false
namespace Go.Proofs.YtdimmlljjmmdbaaGreatDoor
open Go.RowKit
set_option maxHeartbeats 4000000
set_option maxRecDepth 20000
theorem c186 (a : Int) (w : World) : Calls Tryz.prog 186 #[.int .i64 a] w fun en w' => en = .returned (.bool false) ∧ w = w' := by
 go_enter Tryz.func186, Tryz.ntmps186
 go_wp2
 all_goals go_ret
 all_goals simp
def cmpI (a b : Int) : Int := if a < b then -1 else if b < a then 1 else 0
theorem c172 (a b : Int) (w : World) : Calls Tryz.prog 172 #[.int .i64 a, .int .i64 b] w fun en w' => en = .returned (.int .i64 (cmpI a b)) ∧ w = w' := by
 obtain ⟨V, hV⟩ : ∃ V, V = cmpI a b := ⟨_, rfl⟩
 rw [← hV]
 have HV := Lib.hid hV
 clear hV
 go_enter Tryz.func172, Tryz.ntmps172
 by_cases h1 : a < b
 ·have t1 : decide (a < b) = true := by simpa using h1
  have HG : Hid (V = -1) := Lib.hid (by rw [HV.out]; simp [cmpI, h1])
  clear h1
  go_wp2_with (go_at_call 186; refine (c186 _ _).mono ?_; rintro e w' ⟨rfl, rfl⟩)
  go_ret
  exact ⟨ret_int HG.out.symm, rfl⟩
 ·have t1 : decide (a < b) = false := by simpa using h1
  by_cases h2 : b < a
  ·have t2 : decide (b < a) = true := by simpa using h2
   have HG : Hid (V = 1) := Lib.hid (by rw [HV.out]; simp [cmpI, h1, h2])
   clear h1 h2
   go_wp2_with (go_at_call 186; refine (c186 _ _).mono ?_; rintro e w' ⟨rfl, rfl⟩)
   go_ret
   exact ⟨ret_int HG.out.symm, rfl⟩
  ·have t2 : decide (b < a) = false := by simpa using h2
   have HG : Hid (V = 0) := Lib.hid (by rw [HV.out]; simp [cmpI, h1, h2])
   clear h1 h2
   go_wp2_with (go_at_call 186; refine (c186 _ _).mono ?_; rintro e w' ⟨rfl, rfl⟩)
   go_ret
   exact ⟨ret_int HG.out.symm, rfl⟩
theorem c171 (A : Option Addr) (n cap : Nat) (xs : List Int) (w : World) (hl : n ≤ 1000000) (H : RdI w A n xs) :
  Calls Tryz.prog 171 #[.slice A n cap] w fun en w' => en = .returned (.int .i64 (Mo.first xs)) ∧ w = w' := by
 have Hn := Lib.hid H.len
 go_enter Tryz.func171, Tryz.ntmps171
 go_wp2
 go_loop [8] (fun i => ∃ k : Nat, k ≤ n ∧ i = .int .i64 k ∧ Mo.first xs = Mo.first (xs.drop k)) (fun i => n - (intOf i).toNat)
 case atStart => exact ⟨0, Nat.zero_le _, rfl, rfl⟩
 case round =>
  obtain ⟨k, hk, rfl, he⟩ := hrel
  have HE := Lib.hid he
  clear he
  by_cases hlt : k < n
  ·obtain ⟨b, off, x, rfl, hx, hb, h0⟩ := H.at hlt
   have hs := Mo.first_drop xs k (by rw [Hn.out]; exact hlt)
   rw [show xs[k]'(by rw [Hn.out]; exact hlt) = x from (List.getElem?_eq_some_iff.1 hx).2] at hs
   have HS := Lib.hid hs
   clear hs hx H hb
   go_wp2
   ·go_ret
    exact ⟨ret_int (by rw [HE.out, HS.out, if_pos (by simpa using ‹(x != 0) = true›)]), rfl⟩
   ·go_round
    case rel => exact ⟨k+1, by omega, by go_num, by rw [HE.out, HS.out, if_neg (by simpa using ‹(x != 0) = false›)]⟩
    case measure => simp [intOf]; omega
  ·go_wp2
   go_ret
   exact ⟨by rw [HE.out, List.drop_of_length_le (by rw [Hn.out]; omega)]; rfl, rfl⟩
def cmpE (x y : Nat × Int) : Int := Mo.first [cmpI x.2 y.2, cmpI x.1 y.1]
theorem cmpE_lt (x y : Nat × Int) : decide (cmpE x y < 0) = Im.lt2 x y := by
 unfold cmpE Im.lt2
 rw [Mo.first_cons, Mo.first_cons]
 unfold cmpI
 by_cases h1 : x.2 < y.2
 ·simp [h1]
 ·by_cases h2 : y.2 < x.2
  ·simp [h1, h2]; omega
  ·have h3 : x.2 = y.2 := by omega
   by_cases h4 : (x.1 : Int) < y.1
   ·have h5 : x.1 < y.1 := by omega
    simp [h3, h5]
   ·by_cases h6 : (y.1 : Int) < x.1
    ·have h5 : y.1 < x.1 := by omega
     have h7 : ¬ x.1 < y.1 := by omega
     simp [h3, h5, h7]
    ·have h7 : ¬ x.1 < y.1 := by omega
     have h8 : ¬ y.1 < x.1 := by omega
     simp [h3, h7, h8, Mo.first]
theorem c156 (a b : Nat) (s t : Int) (w : World) :
  Calls Tryz.prog 156 #[.agg #[.int .i64 a, .int .i64 s], .agg #[.int .i64 b, .int .i64 t]] w fun en w' => en = .returned (.int .i64 (cmpE (a, s) (b, t))) ∧ Below w.heap.size w w' := by
 obtain ⟨w0, hW⟩ : ∃ W, W = (w.alloc (Obj.cells #[.int .i64 a, .int .i64 s] 214)).alloc (Obj.cells #[.int .i64 b, .int .i64 t] 214) := ⟨_, rfl⟩
 have hT0 : w0.heap[w.heap.size]? = some (.cells #[.int .i64 a, .int .i64 s] 214 (0, 0)) := by rw [hW]; exact heap_old (by simp <;> omega) (heap_new (by simp))
 have hT1 : w0.heap[w.heap.size + 1]? = some (.cells #[.int .i64 b, .int .i64 t] 214 (0, 0)) := by rw [hW]; exact heap_new (by simp)
 have hB0 : Below w.heap.size w w0 := by rw [hW]; exact (((Below.refl _ _).alloc (by first | omega | (simp <;> omega)) _).alloc (by first | omega | (simp <;> omega)) _)
 go_enter Tryz.func156, Tryz.ntmps156
 go_wp2_with fail
 rw [← hW]
 clear hW
 have qhT0_0 : w0.cell? ⟨w.heap.size, 0, none⟩ = some (.int .i64 a) := cell_at hT0 rfl
 have qhT0_1 : w0.cell? ⟨w.heap.size, 1, none⟩ = some (.int .i64 s) := cell_at hT0 rfl
 have qhT1_0 : w0.cell? ⟨w.heap.size + 1, 0, none⟩ = some (.int .i64 b) := cell_at hT1 rfl
 have qhT1_1 : w0.cell? ⟨w.heap.size + 1, 1, none⟩ = some (.int .i64 t) := cell_at hT1 rfl
 refine wp_region_plan [(0, true), (1, true), (2, true), (3, true), (5, true), (6, true), (7, true), (8, true), (4, false), (9, false), (10, false), (11, false), (12, true)] w0.heap.size (by kernel_rfl) (by kernel_rfl) (Nat.le_refl _) (fun _ _ d _ _ h => by cases d <;> exact h) ?_
 have hC : Below w0.heap.size w0 w0 := Below.refl _ _
 have zhT0 : w.heap.size < w0.heap.size := (Array.getElem?_eq_some_iff.1 hT0).1
 have zhT1 : w.heap.size + 1 < w0.heap.size := (Array.getElem?_eq_some_iff.1 hT1).1
 repeat (first | (refine wpPlanA_skip _ rfl (by rfl) ?_; simp only [Act.put, List.setIfInBounds_toArray, List.set_cons_zero, List.set_cons_succ]) | (refine wpPlanA_soft _ ?_ rfl (by rfl) ?_ ?_; rotate_left; (intro wq hq hcq; go_simp; first | exact rfl | exact ⟨rfl, rfl⟩); simp only [Act.put, List.setIfInBounds_toArray, List.set_cons_zero, List.set_cons_succ]))
 refine wpPlanA_hard _ rfl (by rfl) (fun w1 hS K hK => ?_)
 have hB1 := hB0.call hS rfl
 replace hC := hC.call hS rfl
 replace hT0 := blkb hT0 hS
 replace hT1 := blkb hT1 hS
 clear hS hB0
 go_simp
 refine (c172 _ _ _).mono ?_
 rintro e w' ⟨rfl, rfl⟩
 refine hK _ _ hC ?_
 clear hK K
 try simp only [Act.put, List.setIfInBounds_toArray, List.set_cons_zero, List.set_cons_succ]
 refine wpPlanA_hard _ rfl (by rfl) (fun w2 hS K hK => ?_)
 have hB2 := hB1.call hS rfl
 replace hC := hC.call hS rfl
 replace hT0 := blkb hT0 hS
 replace hT1 := blkb hT1 hS
 clear hS hB1
 go_simp
 refine (c172 _ _ _).mono ?_
 rintro e w' ⟨rfl, rfl⟩
 refine hK _ _ hC ?_
 clear hK K
 try simp only [Act.put, List.setIfInBounds_toArray, List.set_cons_zero, List.set_cons_succ]
 refine wpPlanA_hard _ rfl (by rfl) (fun w3 hS K hK => ?_)
 have hB3 := hB2.call hS rfl
 replace hC := hC.call hS rfl
 replace hT0 := blkb hT0 hS
 replace hT1 := blkb hT1 hS
 clear hS hB2
 go_simp
 have hb : Below w3.heap.size w3 (w3.alloc (Obj.cells #[.int .i64 (cmpI s t), .int .i64 (cmpI a b)] 3)) := (Below.refl _ _).alloc (Nat.le_refl _) _
 have k1 : (w3.alloc (Obj.cells #[.int .i64 (cmpI s t), .int .i64 (cmpI a b)] 3)).heap[w3.heap.size]? = some (Obj.cells #[.int .i64 (cmpI s t), .int .i64 (cmpI a b)] 3) := heap_new rfl
 refine hK _ _ (hC.alloc hC.size _) ?_
 clear hK K
 replace hC := hC.call hb rfl
 have hB4 := hB3.call hb rfl
 replace hT0 := blkb hT0 hb
 replace hT1 := blkb hT1 hb
 clear hb hB3
 generalize hWn : w3.alloc (Obj.cells #[.int .i64 (cmpI s t), .int .i64 (cmpI a b)] 3) = w4 at k1 hC hB4 hT0 hT1 ⊢
 clear hWn
 generalize hWn : w3.heap.size = bk1 at k1 ⊢
 clear hWn
 try simp only [Act.put, List.setIfInBounds_toArray, List.set_cons_zero, List.set_cons_succ]
 refine wpPlanA_hard _ rfl (by rfl) (fun w5 hS K hK => ?_)
 have hB5 := hB4.call hS rfl
 replace hC := hC.call hS rfl
 replace hT0 := blkb hT0 hS
 replace hT1 := blkb hT1 hS
 replace k1 := blkb k1 hS
 clear hS hB4
 go_simp
 refine (c171 _ 2 2 [cmpI s t, cmpI a b] _ (by omega) (RdS.of_block (cs := encI [cmpI s t, cmpI a b]) k1 rfl)).mono ?_
 rintro e w' ⟨rfl, rfl⟩
 refine hK _ _ hC ?_
 clear hK K
 try simp only [Act.put, List.setIfInBounds_toArray, List.set_cons_zero, List.set_cons_succ]
 repeat (first | (refine wpPlanA_skip _ rfl (by rfl) ?_; simp only [Act.put, List.setIfInBounds_toArray, List.set_cons_zero, List.set_cons_succ]) | (refine wpPlanA_soft _ ?_ rfl (by rfl) ?_ ?_; rotate_left; (intro wq hq hcq; go_simp; first | exact rfl | exact ⟨rfl, rfl⟩); simp only [Act.put, List.setIfInBounds_toArray, List.set_cons_zero, List.set_cons_succ]))
 clear k1
 clear qhT0_0 qhT0_1 qhT1_0 qhT1_1
 refine wpPlanA_nil (fun w6 hS => ?_)
 clear hC zhT0 zhT1
 have hB6 := hB5.call hS rfl
 replace hT0 := blkb hT0 hS
 replace hT1 := blkb hT1 hS
 clear hS hB5
 have qhT0_0 : w6.cell? ⟨w.heap.size, 0, none⟩ = some (.int .i64 a) := cell_at hT0 rfl
 have qhT0_1 : w6.cell? ⟨w.heap.size, 1, none⟩ = some (.int .i64 s) := cell_at hT0 rfl
 have qhT1_0 : w6.cell? ⟨w.heap.size + 1, 0, none⟩ = some (.int .i64 b) := cell_at hT1 rfl
 have qhT1_1 : w6.cell? ⟨w.heap.size + 1, 1, none⟩ = some (.int .i64 t) := cell_at hT1 rfl
 go_wp2
 go_ret
 exact ⟨rfl, hB6⟩
def encE (x : Nat × Int) : List Value := [.int .i64 (x.1 : Nat), .int .i64 x.2]
theorem encE_len (x : Nat × Int) : (encE x).length = 2 := rfl
def RdE (w : World) (A : Option Addr) (n : Nat) (l : List (Nat × Int)) : Prop := RdS w 2 A n (l.flatMap encE)
theorem RdE.below {w w' : World} {A : Option Addr} {n : Nat} {l : List (Nat × Int)} (h : RdE w A n l) (hb : Below w.heap.size w w') : RdE w' A n l := RdS.below h hb
theorem RdE.len {w : World} {A : Option Addr} {n : Nat} {l : List (Nat × Int)} (h : RdE w A n l) : l.length = n := by
 have := h.1
 rw [flat_len encE_len] at this
 omega
theorem RdE.at {w : World} {A : Option Addr} {n : Nat} {l : List (Nat × Int)} (h : RdE w A n l) {k : Nat} (hk : k < n) :
  ∃ b off x, A = some ⟨b, off, none⟩ ∧ l[k]? = some x ∧ b < w.heap.size ∧ w.cell? ⟨b, off + k * 2, none⟩ = some (.int .i64 (x.1 : Nat)) ∧ w.cell? ⟨b, off + k * 2 + 1, none⟩ = some (.int .i64 x.2) := by
 have hn := h.len
 have h' : RdL w 2 encE A l := by unfold RdL; rw [hn]; exact h
 obtain ⟨b, off, x, hA, hx, hb, hc⟩ := h'.at encE_len (by rw [hn]; exact hk)
 exact ⟨b, off, x, hA, hx, hb, hc 0 (by omega), hc 1 (by omega)⟩
theorem place_at {y : Nat × Int} : ∀ (l : List (Nat × Int)) (i : Nat), i ≤ l.length → (∀ t x, t < i → l[t]? = some x → Im.lt2 x y = true) → (∀ t x, i ≤ t → l[t]? = some x → Im.lt2 x y = false) → Im.place l y = i
 | [], i, hi, _, _ => by simp at hi; subst hi; rfl
 | a :: r, 0, _, _, h2 => by
  unfold Im.place
  rw [List.countP_eq_zero]
  intro x hx
  obtain ⟨t, ht⟩ := List.mem_iff_getElem?.1 hx
  simp [h2 t x (Nat.zero_le _) ht]
 | a :: r, i + 1, hi, h1, h2 => by
  have ha := h1 0 a (by omega) rfl
  rw [Im.place_cons_lt ha, place_at r i (by simpa using hi) (fun t x ht hx => h1 (t + 1) x (by omega) (by simpa using hx)) (fun t x ht hx => h2 (t + 1) x (by omega) (by simpa using hx))]
theorem srt_lt {l : List (Nat × Int)} (hs : Im.Srt l) {y : Nat × Int} {s t : Nat} {a b : Nat × Int} (hst : s ≤ t) (ha : l[s]? = some a) (hb : l[t]? = some b) (h : Im.lt2 b y = true) : Im.lt2 a y = true := by
 rcases Nat.eq_or_lt_of_le hst with rfl | hlt
 ·rw [ha] at hb; cases hb; exact h
 ·obtain ⟨h1, rfl⟩ := List.getElem?_eq_some_iff.1 ha
  obtain ⟨h2, rfl⟩ := List.getElem?_eq_some_iff.1 hb
  exact Im.lt2_mono (List.pairwise_iff_getElem.1 hs s t h1 h2 hlt) h
end Go.Proofs.YtdimmlljjmmdbaaGreatDoor
namespace Go.Proofs.YtdimmlljjmmdbaaGreatDoor
open Go.RowKit
set_option maxHeartbeats 4000000
set_option maxRecDepth 20000
theorem c155 (A : Option Addr) (n cap : Nat) (l : List (Nat × Int)) (y : Nat × Int) (w : World) (hl : n ≤ 1000000) (H : RdE w A n l) (hs : Im.Srt l) :
  Calls Tryz.prog 155 #[.slice A n cap, .agg #[.int .i64 (y.1 : Nat), .int .i64 y.2], .func (.func 156) #[] #[]] w fun en w' => ∃ b, en = .returned (.tuple #[.int .i64 (Im.place l y : Nat), .bool b]) ∧ Below w.heap.size w w' := by
 obtain ⟨P, hP⟩ : ∃ P : Nat → Nat → Prop, P = fun lo hi => (∀ t x, t < lo → l[t]? = some x → Im.lt2 x y = true) ∧ (∀ t x, hi ≤ t → l[t]? = some x → Im.lt2 x y = false) := ⟨_, rfl⟩
 have hll := H.len
 have HP := Lib.hid hP
 have HL := Lib.hid hll
 have P0 : Hid (P 0 n) := Lib.hid (by rw [hP]; exact ⟨fun t x ht _ => absurd ht (Nat.not_lt_zero t), fun t x ht hx => by have := (List.getElem?_eq_some_iff.1 hx).1; omega⟩)
 have PU : Hid (∀ lo hi m x, P lo hi → l[m]? = some x → Im.lt2 x y = true → P (m + 1) hi) := Lib.hid (fun lo hi m x h hx hlt => by
  rw [hP] at h ⊢
  exact ⟨fun t z ht hz => srt_lt hs (show t ≤ m by omega) hz hx hlt, h.2⟩)
 have PD : Hid (∀ lo hi m x, P lo hi → l[m]? = some x → Im.lt2 x y = false → P lo m) := Lib.hid (fun lo hi m x h hx hlt => by
  rw [hP] at h ⊢
  refine ⟨h.1, fun t z ht hz => ?_⟩
  cases hq : Im.lt2 z y with
  | false => rfl
  | true => rw [srt_lt hs ht hx hz hq] at hlt; cases hlt)
 have PE : Hid (∀ lo, lo ≤ n → P lo lo → Im.place l y = lo) := Lib.hid (fun lo hlo h => by
  rw [hP] at h
  exact place_at l lo (by omega) h.1 h.2)
 generalize Im.place l y = PL at PE ⊢
 clear hP hll HP HL hs
 obtain ⟨w0, hW⟩ : ∃ W, W = w.alloc (Obj.cells #[.int .i64 (y.1 : Nat), .int .i64 y.2] 214) := ⟨_, rfl⟩
 have hT0 : w0.heap[w.heap.size]? = some (.cells #[.int .i64 (y.1 : Nat), .int .i64 y.2] 214 (0, 0)) := by rw [hW]; exact heap_new (by simp)
 have hB0 : Below w.heap.size w w0 := by rw [hW]; exact ((Below.refl _ _).alloc (by first | omega | (simp <;> omega)) _)
 replace H := H.below hB0
 go_enter Tryz.func155, Tryz.ntmps155
 go_wp2_with fail
 rw [← hW]
 clear hW
 have qhT0_0 : w0.cell? ⟨w.heap.size, 0, none⟩ = some (.int .i64 (y.1 : Nat)) := cell_at hT0 rfl
 have qhT0_1 : w0.cell? ⟨w.heap.size, 1, none⟩ = some (.int .i64 y.2) := cell_at hT0 rfl
 go_loopw [9, 10] (fun a b wr => ∃ lo hi : Nat, a = .int .i64 lo ∧ b = .int .i64 hi ∧ lo ≤ hi ∧ hi ≤ n ∧ Below w0.heap.size w0 wr ∧ Hid (P lo hi)) (fun a b _ => (intOf b).toNat - (intOf a).toNat)
 case atStart => exact ⟨0, n, rfl, rfl, Nat.zero_le _, Nat.le_refl _, Below.refl _ _, P0⟩
 case round =>
  obtain ⟨lo, hi, rfl, rfl, hlh, hhn, hR, hQ⟩ := hrel
  clear qhT0_0 qhT0_1
  obtain ⟨w1, hww⟩ : ∃ W, W = wr := ⟨_, rfl⟩
  subst hww
  have hB1 := hB0.call hR rfl
  replace hT0 := blkb hT0 hR
  replace H := H.below hR
  clear hB0
  have qhT0_0 : w1.cell? ⟨w.heap.size, 0, none⟩ = some (.int .i64 (y.1 : Nat)) := cell_at hT0 rfl
  have qhT0_1 : w1.cell? ⟨w.heap.size, 1, none⟩ = some (.int .i64 y.2) := cell_at hT0 rfl
  by_cases hlt : lo < hi
  ·
    obtain ⟨m, hm⟩ : ∃ m, m = (lo + hi) / 2 := ⟨_, rfl⟩
    have hmid : ((lo : Int) + (hi : Int)) / 2 = (m : Int) := by omega
    have hm1 : lo ≤ m := by omega
    have hm2 : m < hi := by omega
    have hmn : m < n := by omega
    obtain ⟨b, off, x, rfl, hx, hb, h0, h1⟩ := H.at (k := m) (by omega)
    have HX := Lib.hid hx
    have HM := Lib.hid hmid
    clear hx hm
    go_wp2_with fail
    try rw [HM.out]
    refine wp_region_plan [(0, true), (1, true), (2, true), (3, true), (4, true), (5, true), (6, false), (7, true)] w1.heap.size (by kernel_rfl) (by kernel_rfl) (Nat.le_refl _) (fun _ _ d _ _ h => by cases d <;> exact h) ?_
    have hC : Below w1.heap.size w1 w1 := Below.refl _ _
    have zhT0 : w.heap.size < w1.heap.size := (Array.getElem?_eq_some_iff.1 hT0).1
    repeat (first | (refine wpPlanA_skip _ rfl (by rfl) ?_; simp only [Act.put, List.setIfInBounds_toArray, List.set_cons_zero, List.set_cons_succ]) | (refine wpPlanA_soft _ ?_ rfl (by rfl) ?_ ?_; rotate_left; (intro wq hq hcq; go_simp; first | exact rfl | exact ⟨rfl, rfl⟩); simp only [Act.put, List.setIfInBounds_toArray, List.set_cons_zero, List.set_cons_succ]))
    refine wpPlanA_hard _ rfl (by rfl) (fun w2 hS K hK => ?_)
    have hB2 := hB1.call hS rfl
    replace hC := hC.call hS rfl
    replace hT0 := blkb hT0 hS
    replace H := H.below hS
    replace hR := hR.call hS rfl
    clear hS hB1
    go_simp
    refine (c156 x.1 y.1 x.2 y.2 _).mono ?_
    rintro e w3 ⟨rfl, hb⟩
    have hB3 := hB2.call hb rfl
    replace hC := hC.call hb rfl
    replace hT0 := blkb hT0 hb
    replace H := H.below hb
    replace hR := hR.call hb rfl
    clear hb hB2
    refine hK _ _ hC ?_
    clear hK K
    try simp only [Act.put, List.setIfInBounds_toArray, List.set_cons_zero, List.set_cons_succ]
    repeat (first | (refine wpPlanA_skip _ rfl (by rfl) ?_; simp only [Act.put, List.setIfInBounds_toArray, List.set_cons_zero, List.set_cons_succ]) | (refine wpPlanA_soft _ ?_ rfl (by rfl) ?_ ?_; rotate_left; (intro wq hq hcq; go_simp; first | exact rfl | exact ⟨rfl, rfl⟩); simp only [Act.put, List.setIfInBounds_toArray, List.set_cons_zero, List.set_cons_succ]))
    clear h0 h1 hb
    clear qhT0_0 qhT0_1
    refine wpPlanA_nil (fun w4 hS => ?_)
    clear hC zhT0
    have hB4 := hB3.call hS rfl
    replace hT0 := blkb hT0 hS
    replace H := H.below hS
    replace hR := hR.call hS rfl
    clear hS hB3
    have qhT0_0 : w4.cell? ⟨w.heap.size, 0, none⟩ = some (.int .i64 (y.1 : Nat)) := cell_at hT0 rfl
    have qhT0_1 : w4.cell? ⟨w.heap.size, 1, none⟩ = some (.int .i64 y.2) := cell_at hT0 rfl
    have he := cmpE_lt x y
    rw [he]
    clear he
    cases hq : Im.lt2 x y
    ·
      have hN := Lib.hid (PD.out lo hi m x hQ.out HX.out hq)
      clear hq hmid HM
      go_wp2
      go_roundw
      case rel => exact ⟨lo, m, rfl, rfl, hm1, by omega, hR, hN⟩
      case measure => simp [intOf]; omega
    ·
      have hN := Lib.hid (PU.out lo hi m x hQ.out HX.out hq)
      clear hq hmid HM
      go_wp2
      go_roundw
      case rel => exact ⟨m + 1, hi, by go_num, rfl, by omega, hhn, hR, hN⟩
      case measure => simp [intOf]; omega
  ·
    obtain rfl : hi = lo := by omega
    obtain rfl : PL = hi := PE.out _ hhn hQ.out
    clear PE PD PU hQ P0
    by_cases hn : PL < n
    ·
      obtain ⟨b, off, x, rfl, hx, hb, h0, h1⟩ := H.at (k := PL) hn
      have hd : decide ((PL : Int) < (n : Int)) = true := by simp; omega
      clear hx
      go_wp2_with fail
      refine wp_region_plan [(0, true), (1, true), (2, true), (3, true), (4, true), (5, true), (6, true), (7, true), (8, true), (9, true), (10, true), (11, false), (12, true), (13, true), (14, true), (15, true)] w1.heap.size (by kernel_rfl) (by kernel_rfl) (Nat.le_refl _) (fun _ _ d _ _ h => by cases d <;> exact h) ?_
      have hC : Below w1.heap.size w1 w1 := Below.refl _ _
      have zhT0 : w.heap.size < w1.heap.size := (Array.getElem?_eq_some_iff.1 hT0).1
      repeat (first | (refine wpPlanA_skip _ rfl (by rfl) ?_; simp only [Act.put, List.setIfInBounds_toArray, List.set_cons_zero, List.set_cons_succ]) | (refine wpPlanA_soft _ ?_ rfl (by rfl) ?_ ?_; rotate_left; (intro wq hq hcq; go_simp; first | exact rfl | exact ⟨rfl, rfl⟩); simp only [Act.put, List.setIfInBounds_toArray, List.set_cons_zero, List.set_cons_succ]))
      refine wpPlanA_hard _ rfl (by rfl) (fun w2 hS K hK => ?_)
      have hB2 := hB1.call hS rfl
      replace hC := hC.call hS rfl
      replace hT0 := blkb hT0 hS
      replace H := H.below hS
      replace hR := hR.call hS rfl
      clear hS hB1
      go_simp
      refine (c156 x.1 y.1 x.2 y.2 _).mono ?_
      rintro e w3 ⟨rfl, hb⟩
      have hB3 := hB2.call hb rfl
      replace hC := hC.call hb rfl
      replace hT0 := blkb hT0 hb
      replace H := H.below hb
      replace hR := hR.call hb rfl
      clear hb hB2
      refine hK _ _ hC ?_
      clear hK K
      try simp only [Act.put, List.setIfInBounds_toArray, List.set_cons_zero, List.set_cons_succ]
      repeat (first | (refine wpPlanA_skip _ rfl (by rfl) ?_; simp only [Act.put, List.setIfInBounds_toArray, List.set_cons_zero, List.set_cons_succ]) | (refine wpPlanA_soft _ ?_ rfl (by rfl) ?_ ?_; rotate_left; (intro wq hq hcq; go_simp; first | exact rfl | exact ⟨rfl, rfl⟩); simp only [Act.put, List.setIfInBounds_toArray, List.set_cons_zero, List.set_cons_succ]))
      clear h0 h1 hb
      clear qhT0_0 qhT0_1
      refine wpPlanA_nil (fun w4 hS => ?_)
      clear hC zhT0
      have hB4 := hB3.call hS rfl
      replace hT0 := blkb hT0 hS
      replace H := H.below hS
      replace hR := hR.call hS rfl
      clear hS hB3
      have qhT0_0 : w4.cell? ⟨w.heap.size, 0, none⟩ = some (.int .i64 (y.1 : Nat)) := cell_at hT0 rfl
      have qhT0_1 : w4.cell? ⟨w.heap.size, 1, none⟩ = some (.int .i64 y.2) := cell_at hT0 rfl
      go_wp2
      go_ret2
      exact ⟨_, rfl, hB4⟩
    ·
      have hd : decide ((PL : Int) < (n : Int)) = false := by simp; omega
      go_wp2_with fail
      refine wp_region_plan [(0, true), (1, true), (2, true), (3, true), (4, true), (5, true), (6, true), (7, true), (8, true), (9, true), (10, true), (11, false), (12, true), (13, true), (14, true), (15, true)] w1.heap.size (by kernel_rfl) (by kernel_rfl) (Nat.le_refl _) (fun _ _ d _ _ h => by cases d <;> exact h) ?_
      have hC : Below w1.heap.size w1 w1 := Below.refl _ _
      have zhT0 : w.heap.size < w1.heap.size := (Array.getElem?_eq_some_iff.1 hT0).1
      repeat (first | (refine wpPlanA_skip _ rfl (by rfl) ?_; simp only [Act.put, List.setIfInBounds_toArray, List.set_cons_zero, List.set_cons_succ]) | (refine wpPlanA_soft _ ?_ rfl (by rfl) ?_ ?_; rotate_left; (intro wq hq hcq; go_simp; first | exact rfl | exact ⟨rfl, rfl⟩); simp only [Act.put, List.setIfInBounds_toArray, List.set_cons_zero, List.set_cons_succ]))
      refine wpPlanA_hskip _ rfl (by rfl) ?_
      simp only [Act.put, List.setIfInBounds_toArray, List.set_cons_zero, List.set_cons_succ]
      repeat (first | (refine wpPlanA_skip _ rfl (by rfl) ?_; simp only [Act.put, List.setIfInBounds_toArray, List.set_cons_zero, List.set_cons_succ]) | (refine wpPlanA_soft _ ?_ rfl (by rfl) ?_ ?_; rotate_left; (intro wq hq hcq; go_simp; first | exact rfl | exact ⟨rfl, rfl⟩); simp only [Act.put, List.setIfInBounds_toArray, List.set_cons_zero, List.set_cons_succ]))
      clear qhT0_0 qhT0_1
      refine wpPlanA_nil (fun w2 hS => ?_)
      clear hC zhT0
      have hB2 := hB1.call hS rfl
      replace hT0 := blkb hT0 hS
      replace H := H.below hS
      replace hR := hR.call hS rfl
      clear hS hB1
      have qhT0_0 : w2.cell? ⟨w.heap.size, 0, none⟩ = some (.int .i64 (y.1 : Nat)) := cell_at hT0 rfl
      have qhT0_1 : w2.cell? ⟨w.heap.size, 1, none⟩ = some (.int .i64 y.2) := cell_at hT0 rfl
      go_wp2
      go_ret2
      exact ⟨_, rfl, hB2⟩
end Go.Proofs.YtdimmlljjmmdbaaGreatDoor
namespace Go.Proofs.YtdimmlljjmmdbaaGreatDoor
open Go.RowKit
set_option maxHeartbeats 4000000
set_option maxRecDepth 20000
theorem c185 (n : Nat) (w : World) (hn : n ≤ 1000000) : Calls Tryz.prog 185 #[.int .u64 1, .int .u64 n] w fun en w' => en = .returned (.tuple #[.int .u64 0, .int .u64 n]) ∧ w = w' := by
 have m1 : bits .and .u64 (1 : Int) 4294967295 = 1 := by
  have := Mul64.maskN 1 (by omega)
  simpa using this
 have m2 : bits .and .u64 (n : Int) 4294967295 = (n : Int) := by
  rw [Mul64.maskN n (by omega), Nat.mod_eq_of_lt (by omega)]
 have d1 : (n : Int) / 4294967296 = 0 := by omega
 have w1 : IntKind.u64.wrap (n : Int) = (n : Int) := Mul64.wrapN n (by omega)
 have w0 : IntKind.u64.wrap 0 = 0 := rfl
 have m3 : bits .and .u64 (0 : Int) 4294967295 = 0 := by
  have := Mul64.maskN 0 (by omega)
  simpa using this
 go_enter Tryz.func185, Tryz.ntmps185
 go_wp2
 go_ret2
 simp [m1, m2, d1, w1, w0, m3]
theorem c170 (n : Nat) (w : World) (hn : n ≤ 1000000) : Calls Tryz.prog 170 #[.int .u64 1, .int .u64 n] w fun en w' => en = .returned (.tuple #[.int .u64 0, .int .u64 n]) ∧ w = w' := by
 go_enter Tryz.func170, Tryz.ntmps170
 go_wp2_with (go_at_call 185; refine (c185 n _ hn).mono ?_; rintro e w' ⟨rfl, rfl⟩)
 go_ret2
 exact ⟨rfl, rfl⟩
theorem info3 : (Tryz.prog.info? 3).map (fun i => (i.zero, i.size, i.bytes)) = some (some (.int .i64 0), 1, 8) := by kernel_rfl
theorem fill_sets {g n : Nat} {z v : Value} {t : TypeId} {f : Nat × Nat} : ∀ (m k : Nat) (w : World), w.heap[g]? = some (.cells (fillA z (fun _ => v) n k) t f) → k + m ≤ n →
  (w.setCells g k (List.replicate m v)).heap[g]? = some (.cells (fillA z (fun _ => v) n (k + m)) t f)
 | 0, k, w, h, _ => h
 | m + 1, k, w, h, hk => by
  rw [List.replicate_succ]
  have h2 := set_blk (i := k) h v
  rw [fillA_set z (fun _ => v) n k (by omega)] at h2
  have := fill_sets m (k + 1) (w.setCell ⟨g, k, none⟩ v) h2 (by omega)
  rw [show k + (m + 1) = k + 1 + m by omega]
  exact this
theorem fill_cell {g n k j : Nat} {z v : Value} {t : TypeId} {f : Nat × Nat} {w : World} (h : w.heap[g]? = some (.cells (fillA z (fun _ => v) n k) t f)) (hj : j < n) : w.cell? ⟨g, j, none⟩ = some (if j < k then v else z) :=
 cell_at h (fillA_get z _ n k j hj)
theorem c154 (b o cap n : Nat) (w : World) (h1 : 1 ≤ n) (h2 : n ≤ 1000000) (H : RdI w (some ⟨b, o, none⟩) 1 [-1]) :
  Calls Tryz.prog 154 #[.slice (some ⟨b, o, none⟩) 1 cap, .int .i64 n] w fun en w' => ∃ g, en = .returned (.slice (some ⟨g, 0, none⟩) n n) ∧ w.heap.size ≤ g ∧ w'.heap[g]? = some (.cells (List.replicate n (Value.int .i64 (-1))).toArray 3 (0, 0)) ∧ Below w.heap.size w w' := by
 obtain ⟨i0, hi, hz0, hz1, hz2⟩ := info_parts info3
 have hmk := fun W => run_make_fill (P := Tryz.prog) 22 3 i0 (.int .i64 0) (fun _ => .int .i64 (-1)) Tryz.underlying22 hi hz0 hz1 rfl n (by omega) (by rw [hz2]; omega) W
 have hsz : (Tryz.prog.info? 3).map (·.size) = some 1 := by rw [hi]; simp [hz1]
 have hc0 : w.cell? ⟨b, o, none⟩ = some (.int .i64 (-1)) := H.get (k := 0) (by omega)
 have hb : b < w.heap.size := by obtain ⟨_, _, e, h⟩ := H.form (by omega); cases e; exact h
 obtain ⟨g, hg⟩ : ∃ g, g = w.heap.size := ⟨_, rfl⟩
 obtain ⟨W1, hW1⟩ : ∃ W, W = w.alloc (.cells (fillA (.int .i64 0) (fun _ => .int .i64 (-1)) n 0) 3) := ⟨_, rfl⟩
 have hk1 : W1.heap[g]? = some (.cells (fillA (.int .i64 0) (fun _ => .int .i64 (-1)) n 0) 3 (0, 0)) := by rw [hW1]; exact heap_new hg
 have hB1 : Below w.heap.size w W1 := by rw [hW1]; exact (Below.refl _ _).alloc (Nat.le_refl _) _
 have hcp1 : ∀ ty, (Builtin.copy_ #[22, 22] ty #[.slice (some ⟨g, 0, none⟩) n n, .slice (some ⟨b, o, none⟩) 1 cap]).run Tryz.prog W1 = .ok (.int .i64 1) (W1.setCells g 0 (List.replicate 1 (.int .i64 (-1)))) := fun ty =>
  Go.run_copy_cells W1 22 22 ty 3 g 0 n n ⟨b, o, none⟩ 1 cap [.int .i64 (-1)] Tryz.underlying22 hsz (by simp [Nat.min_def]; omega)
   (fun j v hj => by
    obtain ⟨hj1, rfl⟩ := List.getElem?_eq_some_iff.1 hj
    have : j = 0 := by simpa using hj1
    subst this
    exact ((bcell hB1).1 _ _ hb).trans hc0)
   (fun j hj => by rw [fill_cell hk1 (by simp at hj; omega)]; rfl) (fun j hj => free_at hk1) (by simp [Value.oneCell'])
 have hcp2 : ∀ (k : Nat) (W : World) ty dc sc, 1 ≤ k → k < n → W.heap[g]? = some (.cells (fillA (.int .i64 0) (fun _ => .int .i64 (-1)) n k) 3 (0, 0)) →
   (Builtin.copy_ #[22, 22] ty #[.slice (some ⟨g, k, none⟩) (n - k) dc, .slice (some ⟨g, 0, none⟩) k sc]).run Tryz.prog W = .ok (.int .i64 (min k (n - k) : Nat)) (W.setCells g k (List.replicate (min k (n - k)) (.int .i64 (-1)))) := fun k W ty dc sc h0 hk hW => by
  have := Go.run_copy_cells (P := Tryz.prog) W 22 22 ty 3 g k (n - k) dc ⟨g, 0, none⟩ k sc (List.replicate (min k (n - k)) (.int .i64 (-1))) Tryz.underlying22 hsz (by simp)
   (fun j v hj => by
    obtain ⟨hj1, rfl⟩ := List.getElem?_eq_some_iff.1 hj
    rw [List.length_replicate] at hj1
    have hadd : (⟨g, 0, none⟩ : Addr).add j = ⟨g, j, none⟩ := by unfold Addr.add; split <;> simp_all
    rw [hadd, fill_cell hW (by omega), if_pos (by omega), List.getElem_replicate])
   (fun j hj => by rw [List.length_replicate] at hj; rw [fill_cell hW (by omega)]; rfl) (fun j hj => free_at hW) (fun v hv => by rw [(List.mem_replicate.1 hv).2]; rfl)
  rw [List.length_replicate] at this
  exact this
 have hk2 := fill_sets 1 0 W1 hk1 (by omega)
 have hB2 : Below w.heap.size w (W1.setCells g 0 (List.replicate 1 (.int .i64 (-1)))) := below_setCells (by omega) _ _ _ hB1
 obtain ⟨W2, hW2⟩ : ∃ W, W = W1.setCells g 0 (List.replicate 1 (.int .i64 (-1))) := ⟨_, rfl⟩
 rw [← hW2] at hk2 hB2 hcp1
 have HCP2 := Lib.hid hcp2
 have hw1 : IntKind.u64.wrap (n : Int) = (n : Int) := Mul64.wrapN n (by omega)
 have hn0 : ¬ ((n : Int) < 0) := by omega
 have hn9 : decide (9223372036854775807 < (n : Int)) = false := by simp; omega
 have hcp3 := hcp1 3
 rw [hW1, hg] at hcp3
 clear hk1 hB1 hcp2 hcp1 H hc0 hW2
 go_enter Tryz.func154, Tryz.ntmps154
 go_wp2_with (go_at_call 170; refine (c170 n _ h2).mono ?_; rintro e w' ⟨rfl, rfl⟩)
 rw [← hg]
 clear hcp3 hmk
 have HG := Lib.hid hg
 have hgB : w.heap.size ≤ g := by omega
 clear hg hW1 W1
 go_loopw [8] (fun x wr => ∃ k : Nat, 1 ≤ k ∧ k ≤ n ∧ x = .int .i64 k ∧ Below w.heap.size w wr ∧ wr.heap[g]? = some (.cells (fillA (.int .i64 0) (fun _ => .int .i64 (-1)) n k) 3 (0, 0))) (fun x _ => n - (intOf x).toNat)
 case atStart => exact ⟨1, Nat.le_refl _, h1, rfl, hB2, hk2⟩
 case round =>
  clear hk2 hB2
  obtain ⟨k, hk0, hkn, rfl, hB, hk⟩ := hrel
  by_cases hlt : k < n
  ·have hnk : ¬ (n = k) := by omega
   have hkn2 : (k : Int) ≤ (n : Int) := by omega
   have hk02 : (0 : Int) ≤ (k : Int) := by omega
   go_wp2_with fail
   refine wp_region_plan [(0, true), (1, true), (2, true), (3, true), (4, true), (5, true), (6, true), (7, false), (8, true), (9, true)] w.heap.size (by kernel_rfl) (by kernel_rfl) hB.size (fun _ _ d _ _ h => by cases d <;> exact h) ?_
   repeat (first | (refine wpPlanA_skip _ rfl (by rfl) ?_; simp only [Act.put, List.setIfInBounds_toArray, List.set_cons_zero, List.set_cons_succ]) | (refine wpPlanA_soft _ ?_ rfl (by rfl) ?_ ?_; rotate_left; (intro wq hq hcq; go_simp; first | exact rfl | exact ⟨rfl, rfl⟩); simp only [Act.put, List.setIfInBounds_toArray, List.set_cons_zero, List.set_cons_succ]))
   refine wpPlanA_hard _ rfl (by rfl) (fun w3 hS K hK => ?_)
   have hk3 := blkb hk hS
   obtain ⟨m, hm⟩ : ∃ m, m = min k (n - k) := ⟨_, rfl⟩
   have hcp := fun ty dc sc => HCP2.out k w3 ty dc sc hk0 hlt hk3
   rw [← hm] at hcp
   have hkm := fill_sets m k w3 hk3 (by omega)
   have hm1 : 1 ≤ m ∧ k + m ≤ n := by omega
   clear hm
   have hB3 : Below w.heap.size wr w3 := hS.mono hB.size
   have hB4 : Below w.heap.size wr (w3.setCells g k (List.replicate m (Value.int .i64 (-1)))) := below_setCells hgB _ _ _ hB3
   obtain ⟨w4, hw4⟩ : ∃ W, W = w3.setCells g k (List.replicate m (Value.int .i64 (-1))) := ⟨_, rfl⟩
   rw [← hw4] at hcp hkm hB4
   clear hw4 hk3 hS hB3
   go_simp
   refine hK _ _ hB4 ?_
   clear hK K
   try simp only [Act.put, List.setIfInBounds_toArray, List.set_cons_zero, List.set_cons_succ]
   have hwk : IntKind.i64.wrap ((k : Int) + (m : Int)) = ((k + m : Nat) : Int) := by rw [wrapI (by omega)]; simp
   repeat (first | (refine wpPlanA_skip _ rfl (by rfl) ?_; simp only [Act.put, List.setIfInBounds_toArray, List.set_cons_zero, List.set_cons_succ]) | (refine wpPlanA_soft _ ?_ rfl (by rfl) ?_ ?_; rotate_left; (intro wq hq hcq; go_simp; first | exact rfl | exact ⟨rfl, rfl⟩); simp only [Act.put, List.setIfInBounds_toArray, List.set_cons_zero, List.set_cons_succ]))
   refine wpPlanA_nil (fun w5 hS => ?_)
   have hB5 : Below w.heap.size w w5 := (hB.trans hB4).trans (hS.mono (Nat.le_trans hB.size hB4.size))
   have hk5 := blkb hkm hS
   clear hS hB4 hcp hwk
   go_wp2
   go_roundw
   case rel => exact ⟨k + m, by omega, by omega, rfl, hB5, hk5⟩
   case measure => simp [intOf]; omega
  ·obtain rfl : k = n := by omega
   rw [fillA_full] at hk
   go_wp2
   go_ret
   refine ⟨g, rfl, hgB, ?_, hB⟩
   rw [hk]
   congr 3
   apply List.ext_getElem <;> simp
end Go.Proofs.YtdimmlljjmmdbaaGreatDoor
namespace Go.Proofs.YtdimmlljjmmdbaaGreatDoor
open Go.RowKit
set_option maxHeartbeats 4000000
set_option maxRecDepth 20000
/-- an array with a list laid from o on -/
def setsA (cs : Array Value) (o : Nat) : List Value → Array Value
 | [] => cs
 | v :: r => setsA (cs.setIfInBounds o v) (o + 1) r
theorem setsA_size : ∀ (vs : List Value) (cs : Array Value) (o : Nat), (setsA cs o vs).size = cs.size
 | [], _, _ => rfl
 | v :: r, cs, o => by rw [setsA, setsA_size r]; simp
theorem setsA_get : ∀ (vs : List Value) (cs : Array Value) (o j : Nat), o + vs.length ≤ cs.size → (setsA cs o vs)[j]? = if o ≤ j ∧ j < o + vs.length then vs[j - o]? else cs[j]?
 | [], cs, o, j, _ => by simp [setsA]; omega
 | v :: r, cs, o, j, h => by
  rw [setsA, setsA_get r _ _ _ (by simp at h ⊢; omega)]
  simp only [List.length_cons] at h ⊢
  by_cases hj : j = o
  ·subst hj
   rw [if_neg (by omega), if_pos (by omega), Array.getElem?_setIfInBounds_self_of_lt (by omega)]
   simp
  ·by_cases hin : o + 1 ≤ j ∧ j < o + 1 + r.length
   ·rw [if_pos hin, if_pos (by omega), show j - o = (j - (o + 1)) + 1 by omega]
    simp
   ·rw [if_neg hin, if_neg (by omega), Array.getElem?_setIfInBounds_ne (by omega)]
theorem heap_setsA : ∀ (vs : List Value) (o : Nat) (w : World) (b : Nat) (cs : Array Value) (t : TypeId) (f : Nat × Nat), w.heap[b]? = some (.cells cs t f) → (w.setCells b o vs).heap[b]? = some (.cells (setsA cs o vs) t f)
 | [], _, _, _, _, _, _, h => h
 | v :: r, o, w, b, cs, t, f, h => heap_setsA r (o + 1) _ b _ t f (set_blk h v)
theorem heap_setsO : ∀ (vs : List Value) (o : Nat) (w : World) (b g : Nat), g ≠ b → (w.setCells b o vs).heap[g]? = w.heap[g]?
 | [], _, _, _, _, _ => rfl
 | v :: r, o, w, b, g, h => (heap_setsO r (o + 1) _ b g h).trans (set_far v h)
theorem size_setsA : ∀ (vs : List Value) (o : Nat) (w : World) (b : Nat), (w.setCells b o vs).heap.size = w.heap.size
 | [], _, _, _ => rfl
 | v :: r, o, w, b => by rw [World.setCells, size_setsA r]; simp [World.setCell]
/-- 'copy' of whole elements of any size into the midst of a block -/
theorem run_copyN {P : Program} (w : World) (dT sT ty elem : TypeId) (b o dLen dCap : Nat) (a : Addr) (sLen sCap size m : Nat) (cs : List Value)
  (hu : P.underlying dT = some (.slice elem)) (hs : (P.info? elem).map (·.size) = some size) (hm : Nat.min sLen dLen = m) (hn : cs.length = m * size)
  (hsrc : ∀ j v, cs[j]? = some v → w.cell? (a.add j) = some v) (hc : ∀ j, j < cs.length → (w.cell? ⟨b, o + j, none⟩).isSome = true) (hf : ∀ j, j < cs.length → w.frozen? ⟨b, o + j, none⟩ = false) (h1 : ∀ v ∈ cs, v.oneCell' = true) :
  (Builtin.copy_ #[dT, sT] ty #[.slice (some ⟨b, o, none⟩) dLen dCap, .slice (some a) sLen sCap]).run P w = .ok (goInt m) (w.setCells b o cs) := by
 have hl := run_loadCells_list (P := P) w a cs hsrc
 have hst := run_storeCells_cells (P := P) b o cs 0 w (by simpa using hc) (by simpa using hf) h1
 cases hq : P.info? elem with
 | none => simp [hq] at hs
 | some i =>
  have hi : i.size = size := by simpa [hq] using hs
  simp [Builtin.copy_, run_underlying hu, Builtin.lenOf, Builtin.firstCells, sizeOf, typeInfo, hq, hi, hm, ← hn, hl, hst]
/-- the waiting list: own memory -/
structure WtE (w : World) (B b off n c : Nat) (l : List (Nat × Int)) : Prop where
 blk : ∃ cs : Array Value, w.heap[b]? = some (.cells cs 214 (0, 0)) ∧ off + c * 2 ≤ cs.size ∧ 0 < cs.size ∧ ∀ j, j < n * 2 → cs[off + j]? = (l.flatMap encE)[j]?
 len : l.length = n
 nc : n ≤ c
 cm : c ≤ 9223372036854775807
 lo : B ≤ b
theorem WtE.lt {w : World} {B b off n c : Nat} {l : List (Nat × Int)} (h : WtE w B b off n c l) : b < w.heap.size := by
 obtain ⟨cs, hk, _⟩ := h.blk
 exact (Array.getElem?_eq_some_iff.1 hk).1
theorem WtE.below {w w' : World} {B b off n c : Nat} {l : List (Nat × Int)} (h : WtE w B b off n c l) (hb : Below w.heap.size w w') : WtE w' B b off n c l := by
 obtain ⟨cs, hk, h2⟩ := h.blk
 exact ⟨⟨cs, blkb hk hb, h2⟩, h.len, h.nc, h.cm, h.lo⟩
theorem WtE.other {w : World} {B b off n c : Nat} {l : List (Nat × Int)} (h : WtE w B b off n c l) {p : Addr} (v : Value) (hp : b ≠ p.block) : WtE (w.setCell p v) B b off n c l := by
 obtain ⟨cs, hk, h2⟩ := h.blk
 exact ⟨⟨cs, (set_far v hp).trans hk, h2⟩, h.len, h.nc, h.cm, h.lo⟩
theorem WtE.cells {w : World} {B b off n c : Nat} {l : List (Nat × Int)} (h : WtE w B b off n c l) : ∀ j v, (l.flatMap encE)[j]? = some v → w.cell? ⟨b, off + j, none⟩ = some v := by
 obtain ⟨cs, hk, _, _, h2⟩ := h.blk
 intro j v hv
 have hj : j < (l.flatMap encE).length := (List.getElem?_eq_some_iff.1 hv).1
 rw [flat_len encE_len, h.len] at hj
 exact cell_at hk ((h2 j hj).trans hv)
theorem WtE.rd {w : World} {B b off n c : Nat} {l : List (Nat × Int)} (h : WtE w B b off n c l) : RdE w (some ⟨b, off, none⟩) n l := by
 refine ⟨by rw [flat_len encE_len, h.len], fun _ => ⟨b, off, rfl, h.lt, fun j hj => ?_⟩⟩
 rw [List.getElem?_eq_getElem hj]
 exact h.cells j _ (List.getElem?_eq_getElem hj)
theorem WtE.spare {w : World} {B b off n c : Nat} {l : List (Nat × Int)} (h : WtE w B b off n c l) {j : Nat} (hj : j < c * 2) : (w.cell? ⟨b, off + j, none⟩).isSome = true ∧ w.frozen? ⟨b, off + j, none⟩ = false := by
 obtain ⟨cs, hk, h1, _, _⟩ := h.blk
 refine ⟨?_, free_at hk⟩
 rw [cell_at hk (Array.getElem?_eq_getElem (by omega))]
 rfl
/-- the first one is taken off -/
theorem WtE.tail {w : World} {B b off n c : Nat} {x : Nat × Int} {l : List (Nat × Int)} (h : WtE w B b off (n + 1) (c + 1) (x :: l)) : WtE w B b (off + 2) n c l := by
 obtain ⟨cs, hk, h1, h0, h2⟩ := h.blk
 have hl := h.len
 refine ⟨⟨cs, hk, by omega, h0, fun j hj => ?_⟩, by simpa using hl, by have := h.nc; omega, by have := h.cm; omega, h.lo⟩
 have := h2 (j + 2) (by omega)
 rw [show off + 2 + j = off + (j + 2) by omega, this, List.flatMap_cons]
 rw [List.getElem?_append_right (by rw [encE_len]; omega), encE_len]
 simp
/-- where no room is left the address stays -/
theorem WtE.last {w : World} {B b off : Nat} {x : Nat × Int} (h : WtE w B b off 1 1 [x]) : WtE w B b off 0 0 [] := by
 obtain ⟨cs, hk, h1, h0, h2⟩ := h.blk
 exact ⟨⟨cs, hk, by omega, h0, fun j hj => by omega⟩, rfl, Nat.le_refl _, by omega, h.lo⟩
theorem flatE_take (l : List (Nat × Int)) (i : Nat) : (l.take i).flatMap encE = (l.flatMap encE).take (i * 2) := by
 induction l generalizing i with
 | nil => simp
 | cons a l ih =>
  cases i with
  | zero => simp
  | succ i =>
   rw [List.take_succ_cons, List.flatMap_cons, List.flatMap_cons, ih, List.take_append, encE_len]
   rw [List.take_of_length_le (l := encE a) (by rw [encE_len]; omega), show (i + 1) * 2 - 2 = i * 2 by omega]
theorem flatE_drop (l : List (Nat × Int)) (i : Nat) : (l.drop i).flatMap encE = (l.flatMap encE).drop (i * 2) := by
 induction l generalizing i with
 | nil => simp
 | cons a l ih =>
  cases i with
  | zero => simp
  | succ i =>
   rw [List.drop_succ_cons, List.flatMap_cons, ih, List.drop_append, encE_len]
   rw [List.drop_of_length_le (l := encE a) (by rw [encE_len]; omega), show (i + 1) * 2 - 2 = i * 2 by omega, List.nil_append]
theorem ins_get (l : List (Nat × Int)) (y : Nat × Int) (i j : Nat) (hi : i ≤ l.length) : ((l.take i ++ y :: l.drop i).flatMap encE)[j]? = if j < i * 2 then (l.flatMap encE)[j]? else if j < i * 2 + 2 then (encE y)[j - i * 2]? else (l.flatMap encE)[j - 2]? := by
 rw [List.flatMap_append, List.flatMap_cons, flatE_take, flatE_drop]
 have hlen : ((l.flatMap encE).take (i * 2)).length = i * 2 := by rw [List.length_take, flat_len encE_len]; omega
 by_cases h1 : j < i * 2
 ·rw [if_pos h1, List.getElem?_append_left (by omega), List.getElem?_take, if_pos h1]
 ·rw [if_neg h1, List.getElem?_append_right (by omega), hlen]
  by_cases h2 : j < i * 2 + 2
  ·rw [if_pos h2, List.getElem?_append_left (by rw [encE_len]; omega)]
  ·rw [if_neg h2, List.getElem?_append_right (by rw [encE_len]; omega), encE_len, List.getElem?_drop]
   congr 1
   omega
theorem encE_one {v : Value} {l : List (Nat × Int)} (h : v ∈ l.flatMap encE) : v.oneCell' = true := by
 obtain ⟨x, _, hx⟩ := List.mem_flatMap.1 h
 simp [encE] at hx
 rcases hx with rfl | rfl <;> rfl
theorem info214 : (Tryz.prog.info? 214).map (fun i => (i.zero, i.size, i.bytes)) = some (some (.agg #[.int .i64 0, .int .i64 0]), 2, 16) := by kernel_rfl
end Go.Proofs.YtdimmlljjmmdbaaGreatDoor
namespace Go.Proofs.YtdimmlljjmmdbaaGreatDoor
open Go.RowKit
set_option maxHeartbeats 4000000
set_option maxRecDepth 100000
/-- what Insert gives: the new list in own memory; other blocks as they were -/
def InsP (w : World) (B b : Nat) (l : List (Nat × Int)) (e : Ending) (w' : World) : Prop :=
 ∃ b' off' c', e = .returned (.slice (some ⟨b', off', none⟩) l.length c') ∧ WtE w' B b' off' l.length c' l ∧ Below B w w' ∧ (∀ k, k < w.heap.size → k ≠ b → w'.heap[k]? = w.heap[k]?) ∧ (b' = b ∨ w.heap.size ≤ b')
theorem ins_len (l : List (Nat × Int)) (y : Nat × Int) (i : Nat) (hi : i ≤ l.length) : (l.take i ++ y :: l.drop i).length = l.length + 1 := by
 simp; omega
theorem vs_cells {w : World} {vb : Nat} {y : Nat × Int} {t : TypeId} {f : Nat × Nat} (hv : w.heap[vb]? = some (.cells #[.int .i64 (y.1 : Nat), .int .i64 y.2] t f)) : ∀ j u, (encE y)[j]? = some u → w.cell? ((⟨vb, 0, none⟩ : Addr).add j) = some u := by
 intro j u hj
 have hadd : (⟨vb, 0, none⟩ : Addr).add j = ⟨vb, j, none⟩ := by unfold Addr.add; split <;> simp_all
 rw [hadd]
 exact cell_at hv (by simpa [encE] using hj)
theorem add_lit (b off j : Nat) : (⟨b, off, none⟩ : Addr).add j = ⟨b, off + j, none⟩ := by
 unfold Addr.add; split <;> simp_all
theorem c157_room (B b off n c vb : Nat) (l : List (Nat × Int)) (y : Nat × Int) (w : World) (H : WtE w B b off n c l) (hn : n ≤ 1000000) (hr : n + 1 ≤ c) (hv : w.heap[vb]? = some (.cells #[.int .i64 (y.1 : Nat), .int .i64 y.2] 214 (0, 0))) :
  Calls Tryz.prog 157 #[.slice (some ⟨b, off, none⟩) n c, .int .i64 n, .slice (some ⟨vb, 0, none⟩) 1 1] w (InsP w B b (l.take n ++ y :: l.drop n)) := by
 obtain ⟨i0, hi, hz0, hz1, hz2⟩ := info_parts info214
 have hsrc : Src Tryz.prog i0.size 215 (.slice (some ⟨vb, 0, none⟩) 1 1) 1 (encE y) w := by
  rw [hz1]
  exact Src.ofSlice w Tryz.underlying215 ⟨vb, 0, none⟩ 1 1 (encE y) (by simp [encE]) (vs_cells hv) (fun u hu => encE_one (l := [y]) (by simpa using hu))
 have hsp : ∀ j, j < (encE y).length → (w.cell? ⟨b, off + n * i0.size + j, none⟩).isSome = true ∧ w.frozen? ⟨b, off + n * i0.size + j, none⟩ = false := fun j hj => by
  rw [hz1, Nat.add_assoc]
  exact H.spare (by simp [encE] at hj; omega)
 obtain ⟨cs, hk, h1, h0, h2⟩ := H.blk
 have hlen := H.len
 have hfin : InsP w B b (l.take n ++ y :: l.drop n) (.returned (.slice (some ⟨b, off, none⟩) (n + 1) c)) (w.setCells b (off + n * 2) (encE y)) := by
  have hil := ins_len l y n (by omega)
  refine ⟨b, off, c, by rw [hil, hlen], ⟨⟨setsA cs (off + n * 2) (encE y), heap_setsA _ _ _ _ _ _ _ hk, by rw [setsA_size]; exact h1, by rw [setsA_size]; exact h0, fun j hj => ?_⟩, rfl, by omega, H.cm, H.lo⟩, below_setCells H.lo _ _ _ (Below.refl _ _), fun k _ hne => heap_setsO _ _ _ _ _ hne, .inl rfl⟩
  rw [setsA_get _ _ _ _ (by rw [encE_len]; omega), encE_len, ins_get l y n j (by omega)]
  rw [hil, hlen] at hj
  by_cases hj1 : j < n * 2
  ·rw [if_neg (by omega), if_pos hj1, h2 j hj1]
  ·rw [if_pos (by omega), if_neg hj1, if_pos (by omega)]
   congr 1
   omega
 have HF := Lib.hid hfin
 clear hfin hk h1 h0 h2
 go_enter Tryz.func157, Tryz.ntmps157
 go_wp2_with (at_builtin; refine wpList_append_room_src _ rfl _ _ 215 215 rfl 214 i0 Tryz.underlying215 hi b off n c rfl _ rfl 1 (encE y) hsrc hr (fun j hj => (hsp j hj).1) (fun j hj => (hsp j hj).2) ?_)
 go_ret
 exact HF.out
theorem c157_end (B b off n vb : Nat) (l : List (Nat × Int)) (y : Nat × Int) (w : World) (H : WtE w B b off n n l) (hn : n ≤ 1000000) (hB : B ≤ w.heap.size) (hv : w.heap[vb]? = some (.cells #[.int .i64 (y.1 : Nat), .int .i64 y.2] 214 (0, 0))) :
  Calls Tryz.prog 157 #[.slice (some ⟨b, off, none⟩) n n, .int .i64 n, .slice (some ⟨vb, 0, none⟩) 1 1] w (InsP w B b (l.take n ++ y :: l.drop n)) := by
 obtain ⟨i0, hi, hz0, hz1, hz2⟩ := info_parts info214
 have hsrc : Src Tryz.prog i0.size 215 (.slice (some ⟨vb, 0, none⟩) 1 1) 1 (encE y) w := by
  rw [hz1]
  exact Src.ofSlice w Tryz.underlying215 ⟨vb, 0, none⟩ 1 1 (encE y) (by simp [encE]) (vs_cells hv) (fun u hu => encE_one (l := [y]) (by simpa using hu))
 have hlen := H.len
 have hold : (Builtin.firstCells i0.size n (.slice (some ⟨b, off, none⟩) n n)).run Tryz.prog w.drew = .ok (l.flatMap encE).toArray w.drew := by
  rw [hz1]
  exact run_firstCells_some w.drew 2 n ⟨b, off, none⟩ n n _ (by rw [flat_len encE_len, hlen]) (fun j v hj => by rw [add_lit]; exact H.cells j v hj)
 have hrun := run_append_grow_src w 215 215 215 214 i0 _ Tryz.underlying215 hi hz0 (some ⟨b, off, none⟩) n n _ hold _ 1 (encE y) hsrc (by omega) (by omega) (by rw [hz2]; exact growslice_fits (by omega) (by omega))
 obtain ⟨G, hG⟩ : ∃ G, G = grownCap w (n + 1) n 214 := ⟨_, rfl⟩
 have hG1 : n + 1 ≤ G := by rw [hG]; exact grownCap_ge w _ _ _
 have hG2 : G ≤ 9223372036854775807 := by
  have := grownCap_le_maxLen w (n + 1) n 214 (by unfold maxLen; omega)
  rw [← hG] at this
  unfold maxLen at this
  omega
 rw [← hG] at hrun
 obtain ⟨W', hW'⟩ : ∃ W, W = w.drew.alloc (.cells ((l.flatMap encE ++ encE y).toArray ++ Builtin.zeroCells (Value.agg #[.int .i64 0, .int .i64 0]).cells (G - (n + 1))) 214) := ⟨_, rfl⟩
 rw [← hW'] at hrun
 have hfin : InsP w B b (l.take n ++ y :: l.drop n) (.returned (.slice (some ⟨w.heap.size, 0, none⟩) (n + 1) G)) W' := by
  have hil := ins_len l y n (by omega)
  have hbl : Below w.heap.size w W' := by rw [hW']; exact ((Below.refl w.heap.size w).drew).alloc (Nat.le_refl _) _
  have hzc : (Builtin.zeroCells (Value.agg #[.int .i64 0, .int .i64 0]).cells (G - (n + 1))).size = (G - (n + 1)) * 2 := by simp [Builtin.zeroCells, Value.cells]
  refine ⟨w.heap.size, 0, G, by rw [hil, hlen], ⟨⟨_, by rw [hW']; exact heap_new (by simp), ?_, ?_, fun j hj => ?_⟩, rfl, by omega, hG2, hB⟩, hbl.mono hB, fun k hk _ => hbl.block k hk, .inr (Nat.le_refl _)⟩
  ·rw [Array.size_append, hzc]; simp [flat_len encE_len, hlen, encE_len]; omega
  ·rw [Array.size_append]; simp [encE_len]; omega
  ·rw [hil, hlen] at hj
   rw [Nat.zero_add, Array.getElem?_append_left (by simp [flat_len encE_len, hlen, encE_len]; omega), ins_get l y n j (by omega), List.getElem?_toArray]
   by_cases hj1 : j < n * 2
   ·rw [if_pos hj1, List.getElem?_append_left (by rw [flat_len encE_len, hlen]; exact hj1)]
   ·rw [if_neg hj1, if_pos (by omega), List.getElem?_append_right (by rw [flat_len encE_len, hlen]; omega), flat_len encE_len, hlen]
 have HF := Lib.hid hfin
 clear hfin hW' hG H
 go_enter Tryz.func157, Tryz.ntmps157
 go_wp2_with (at_builtin; refine Lib.wpList_append_run _ rfl _ _ _ _ rfl _ _ rfl rfl _ _ hrun ?_)
 go_ret
 exact HF.out
end Go.Proofs.YtdimmlljjmmdbaaGreatDoor
namespace Go.Proofs.YtdimmlljjmmdbaaGreatDoor
open Go.RowKit
set_option maxHeartbeats 4000000
set_option maxRecDepth 100000
theorem c157_grow (B b off n i vb : Nat) (l : List (Nat × Int)) (y : Nat × Int) (w : World) (H : WtE w B b off n n l) (hn : n ≤ 1000000) (hi : i < n) (hB : B ≤ w.heap.size) (hvb : vb < w.heap.size) (hv : w.heap[vb]? = some (.cells #[.int .i64 (y.1 : Nat), .int .i64 y.2] 214 (0, 0))) :
  Calls Tryz.prog 157 #[.slice (some ⟨b, off, none⟩) n n, .int .i64 i, .slice (some ⟨vb, 0, none⟩) 1 1] w (InsP w B b (l.take i ++ y :: l.drop i)) := by
 obtain ⟨i0, hi0, hz0, hz1, hz2⟩ := info_parts info214
 have hsz : (Tryz.prog.info? 214).map (·.size) = some 2 := by rw [hi0]; simp [hz1]
 have hlen := H.len
 obtain ⟨g, hg⟩ : ∃ g, g = w.heap.size := ⟨_, rfl⟩
 have hold : (Builtin.firstCells i0.size i (.slice (some ⟨b, off, none⟩) i n)).run Tryz.prog w.drew = .ok ((l.take i).flatMap encE).toArray w.drew := by
  rw [hz1]
  refine run_firstCells_some w.drew 2 i ⟨b, off, none⟩ i n _ (by rw [flat_len encE_len, List.length_take]; omega) (fun j v hj => ?_)
  rw [add_lit]
  rw [flatE_take, List.getElem?_take] at hj
  split at hj
  ·exact H.cells j v hj
  ·cases hj
 have hrz := Lib.run_append_grow_zeros w 215 3 215 214 i0 _ .i64 .i64 Tryz.underlying215 Tryz.underlying3 hi0 hz0 (some ⟨b, off, none⟩) i n _ hold (n + 1 - i) (by omega) (by omega) (by omega) (by omega) (by rw [hz2]; omega) (by rw [hz2, show i + (n + 1 - i) = n + 1 by omega]; exact growslice_fits (by omega) (by omega))
 rw [show i + (n + 1 - i) = n + 1 by omega] at hrz
 rw [show ((n + 1 - i : Nat) : Int) = (n : Int) + 1 - (i : Int) by omega] at hrz
 obtain ⟨G, hG⟩ : ∃ G, G = grownCap w (n + 1) n 214 := ⟨_, rfl⟩
 have hG1 : n + 1 ≤ G := by rw [hG]; exact grownCap_ge w _ _ _
 have hG2 : G ≤ 9223372036854775807 := by
  have := grownCap_le_maxLen w (n + 1) n 214 (by unfold maxLen; omega)
  rw [← hG] at this
  unfold maxLen at this
  omega
 rw [← hG] at hrz
 obtain ⟨ROW, hROW⟩ : ∃ ROW : Array Value, ROW = ((l.take i).flatMap encE).toArray ++ Builtin.zeroCells (Value.agg #[.int .i64 0, .int .i64 0]).cells (n + 1 - i) ++ Builtin.zeroCells (Value.agg #[.int .i64 0, .int .i64 0]).cells (G - (n + 1)) := ⟨_, rfl⟩
 rw [← hROW, ← hg] at hrz
 have hRs : ROW.size = G * 2 := by
  rw [hROW]
  have hzc : ∀ k, (Builtin.zeroCells (Value.agg #[.int .i64 0, .int .i64 0]).cells k).size = k * 2 := fun k => by simp [Builtin.zeroCells, Value.cells]
  rw [Array.size_append, Array.size_append, hzc, hzc, List.size_toArray, flat_len encE_len, List.length_take]
  omega
 have hRc : ∀ j, j < i * 2 → ROW[j]? = (l.flatMap encE)[j]? := fun j hj => by
  have hl1 : ((l.take i).flatMap encE).length = i * 2 := by rw [flat_len encE_len, List.length_take]; omega
  rw [hROW, Array.append_assoc, Array.getElem?_append_left (by rw [List.size_toArray, hl1]; exact hj), List.getElem?_toArray, flatE_take, List.getElem?_take, if_pos hj]
 obtain ⟨W1, hW1⟩ : ∃ W1, W1 = w.drew.alloc (.cells ROW 214) := ⟨_, rfl⟩
 rw [← hW1] at hrz
 have hk1 : W1.heap[g]? = some (.cells ROW 214 (0, 0)) := by rw [hW1]; exact heap_new (by rw [hg]; simp)
 have hB1 : Below g w W1 := by rw [hW1, hg]; exact ((Below.refl w.heap.size w).drew).alloc (Nat.le_refl _) _
 have hcpA : ∀ ty dc, (Builtin.copy_ #[215, 215] ty #[.slice (some ⟨g, i * 2, none⟩) (n + 1 - i) dc, .slice (some ⟨vb, 0, none⟩) 1 1]).run Tryz.prog W1 = .ok (.int .i64 1) (W1.setCells g (i * 2) (encE y)) := fun ty dc =>
  run_copyN W1 215 215 ty 214 g (i * 2) (n + 1 - i) dc ⟨vb, 0, none⟩ 1 1 2 1 (encE y) Tryz.underlying215 hsz (by simp [Nat.min_def]; omega) rfl
   (vs_cells ((hB1.block vb (by omega)).trans hv))
   (fun j hj => by rw [encE_len] at hj; rw [cell_at hk1 (Array.getElem?_eq_getElem (by omega))]; rfl) (fun j _ => free_at hk1) (fun v hv => encE_one (l := [y]) (by simpa using hv))
 have hk2 := heap_setsA (encE y) (i * 2) W1 g ROW 214 (0, 0) hk1
 have hB2 : Below g w (W1.setCells g (i * 2) (encE y)) := below_setCells (Nat.le_refl _) _ _ _ hB1
 obtain ⟨W2, hW2⟩ : ∃ W2, W2 = W1.setCells g (i * 2) (encE y) := ⟨_, rfl⟩
 rw [← hW2] at hk2 hB2 hcpA
 have hdl : ((l.drop i).flatMap encE).length = (n - i) * 2 := by rw [flat_len encE_len, List.length_drop, hlen]
 have hcpB : Hid (∀ W, Below W2.heap.size W2 W → ∀ ty dc sc, (Builtin.copy_ #[215, 215] ty #[.slice (some ⟨g, (i + 1) * 2, none⟩) (n - i) dc, .slice (some ⟨b, off + i * 2, none⟩) (n - i) sc]).run Tryz.prog W = .ok (.int .i64 (n - i : Nat)) (W.setCells g ((i + 1) * 2) ((l.drop i).flatMap encE))) := Lib.hid (fun W hW ty dc sc => by
  have hkW := blkb hk2 hW
  have hBW : Below w.heap.size w W := by rw [← hg]; exact hB2.trans (hW.mono (by have := (Array.getElem?_eq_some_iff.1 hk2).1; omega))
  have HW := H.below hBW
  exact run_copyN W 215 215 ty 214 g ((i + 1) * 2) (n - i) dc ⟨b, off + i * 2, none⟩ (n - i) sc 2 (n - i) _ Tryz.underlying215 hsz (by simp) hdl
   (fun j v hj => by
    rw [add_lit, Nat.add_assoc]
    rw [flatE_drop, List.getElem?_drop] at hj
    exact HW.cells _ v hj)
   (fun j hj => by rw [hdl] at hj; rw [cell_at hkW (Array.getElem?_eq_getElem (by rw [setsA_size]; omega))]; rfl) (fun j _ => free_at hkW) (fun v hv => encE_one hv))
 have hfin : Hid (∀ W W3, Below W2.heap.size W2 W → W3 = W.setCells g ((i + 1) * 2) ((l.drop i).flatMap encE) → ∀ W4, Below W3.heap.size W3 W4 → InsP w B b (l.take i ++ y :: l.drop i) (.returned (.slice (some ⟨g, 0, none⟩) (n + 1) G)) W4) := Lib.hid (fun W W3 hW hW3 W4 hW4 => by
  have hkW := blkb hk2 hW
  have hgW2 := (Array.getElem?_eq_some_iff.1 hk2).1
  have hBW : Below g w W := hB2.trans (hW.mono (by omega))
  have hk3 := heap_setsA ((l.drop i).flatMap encE) ((i + 1) * 2) W g _ 214 (0, 0) hkW
  rw [← hW3] at hk3
  have hB3 : Below g w W3 := by rw [hW3]; exact below_setCells (Nat.le_refl _) _ _ _ hBW
  have hk4 := blkb hk3 hW4
  have hB4 : Below g w W4 := hB3.trans (hW4.mono (by have := (Array.getElem?_eq_some_iff.1 hk3).1; omega))
  have hil := ins_len l y i (by omega)
  refine ⟨g, 0, G, by rw [hil, hlen], ⟨⟨_, hk4, by rw [setsA_size, setsA_size]; omega, by rw [setsA_size, setsA_size]; omega, fun j hj => ?_⟩, rfl, by omega, hG2, by omega⟩, hB4.mono (by omega), fun k hk _ => hB4.block k (by omega), .inr (by omega)⟩
  rw [hil, hlen] at hj
  rw [Nat.zero_add, setsA_get _ _ _ _ (by rw [setsA_size, hdl]; omega), hdl, setsA_get _ _ _ _ (by rw [encE_len]; omega), encE_len, ins_get l y i j (by omega)]
  by_cases hj1 : j < i * 2
  ·rw [if_neg (by omega), if_neg (by omega), if_pos hj1]
   exact hRc j hj1
  ·by_cases hj2 : j < i * 2 + 2
   ·rw [if_neg (by omega), if_pos (by omega), if_neg hj1, if_pos hj2]
   ·rw [if_pos (by omega), if_neg hj1, if_neg hj2, flatE_drop, List.getElem?_drop]
    congr 1
    omega)
 have hgl : g ≤ W2.heap.size := Nat.le_of_lt (Array.getElem?_eq_some_iff.1 hk2).1
 have hgW : Hid (Below W2.heap.size W2 W2) := Lib.hid (Below.refl _ _)
 have t1 : ((i : Int) == (n : Int)) = false := by simp; omega
 have t2 : decide ((n : Int) < (n : Int) + 1) = true := by simp; omega
 have t3 : (i : Int) ≤ (n : Int) := by omega
 have t4 : (i : Int) ≤ (n : Int) + 1 := by omega
 have t5 : ¬ (G = i) := by omega
 have t6 : ¬ (n = i) := by omega
 have t7 : ¬ (G = i + 1) := by omega
 have t8 : (0 : Int) ≤ (n : Int) + 1 - (i : Int) := by omega
 have t9 : IntKind.i64.wrap ((i : Int) + 1) = ((i + 1 : Nat) : Int) := wrapN (x := i + 1) (by omega)
 have t12 : (0 : Int) ≤ (i : Int) + 1 := by omega
 have t10 : IntKind.i64.wrap ((n : Int) + 1) = (n : Int) + 1 := wrapI (by omega)
 have t11 : IntKind.i64.wrap ((n : Int) + 1 - (i : Int)) = (n : Int) + 1 - (i : Int) := wrapI (by omega)
 clear hW1 hW2 hROW hG H hold hRs hRc hk1 hB1 hk2 hB2 hdl hg
 go_enter Tryz.func157, Tryz.ntmps157
 go_wp2_with (first
  | (at_builtin; refine Lib.wpList_append_run _ rfl _ _ _ _ rfl _ _ rfl rfl _ _ hrz ?_)
  | (at_builtin; refine wpList_copy_runI _ rfl _ _ 215 215 rfl _ _ rfl rfl (hcpA _ _) ?_))
 refine wp_region_plan [(0, true), (1, true), (2, true), (3, true), (4, true), (5, true), (6, true), (7, true), (8, false)] g (by kernel_rfl) (by kernel_rfl) hgl (fun _ _ d _ _ h => by cases d <;> exact h) ?_
 repeat (first | (refine wpPlanA_skip _ rfl (by rfl) ?_; simp only [Act.put, List.setIfInBounds_toArray, List.set_cons_zero, List.set_cons_succ]) | (refine wpPlanA_soft _ ?_ rfl (by rfl) ?_ ?_; rotate_left; (intro wq hq hcq; go_simp; first | exact rfl | exact ⟨rfl, rfl⟩); simp only [Act.put, List.setIfInBounds_toArray, List.set_cons_zero, List.set_cons_succ]))
 refine wpPlanA_hard _ rfl (by rfl) (fun w3 hS K hK => ?_)
 have hcp := hcpB.out w3 hS
 obtain ⟨w4, hw4⟩ : ∃ W, W = w3.setCells g ((i + 1) * 2) ((l.drop i).flatMap encE) := ⟨_, rfl⟩
 have hF := Lib.hid (hfin.out w3 w4 hS hw4)
 have hB4 : Below g W2 w4 := by rw [hw4]; exact below_setCells (Nat.le_refl _) _ _ _ (hS.mono hgl)
 rw [← hw4] at hcp
 clear hw4
 go_simp
 refine hK _ _ hB4 ?_
 clear hK K
 try simp only [Act.put, List.setIfInBounds_toArray, List.set_cons_zero, List.set_cons_succ]
 refine wpPlanA_nil (fun w5 hS5 => ?_)
 have HF := Lib.hid (hF.out w5 hS5)
 clear hcp hS hF hB4 hS5 hcpB hfin
 go_wp2
 go_ret
 exact HF.out
theorem c157_shift (B b off n c i vb : Nat) (l : List (Nat × Int)) (y : Nat × Int) (w : World) (H : WtE w B b off n c l) (hn : n ≤ 1000000) (hi : i < n) (hr : n + 1 ≤ c) (hB : B ≤ w.heap.size) (hvb : vb ≠ b) (hv : w.heap[vb]? = some (.cells #[.int .i64 (y.1 : Nat), .int .i64 y.2] 214 (0, 0))) :
  Calls Tryz.prog 157 #[.slice (some ⟨b, off, none⟩) n c, .int .i64 i, .slice (some ⟨vb, 0, none⟩) 1 1] w (InsP w B b (l.take i ++ y :: l.drop i)) := by
 obtain ⟨i0, hi0, hz0, hz1, hz2⟩ := info_parts info214
 have hsz : (Tryz.prog.info? 214).map (·.size) = some 2 := by rw [hi0]; simp [hz1]
 have hsz2 : ∀ w, (Go.sizeOf 214).run Tryz.prog w = .ok 2 w := fun w => by simp [Go.sizeOf, typeInfo, hi0, hz1]
 have hlen := H.len
 have hcm := H.cm
 have hlo := H.lo
 have hblt := H.lt
 obtain ⟨cs, hk, h1, h0, h2⟩ := H.blk
 have hov : ∀ lb cb, (callFunc 173 #[.slice (some ⟨vb, 0, none⟩) 1 1, .slice (some ⟨b, off + (i + 1) * 2, none⟩) lb cb]).run Tryz.prog w = .ok (.value (.bool false)) w := fun lb cb => by
  rw [run_callFunc_extern Tryz.func173 (by kernel_rfl) (by kernel_rfl) (by kernel_rfl) (e := Extern.SlicesOverlaps.overlaps #[215, 215] #[4]) (by kernel_rfl),
   Lib.run_overlaps_apart w 215 4 214 Tryz.underlying215 2 hsz2 ⟨vb, 0, none⟩ ⟨b, off + (i + 1) * 2, none⟩ 1 1 lb cb hvb 214 214 2 cs.size (by simp [World.shape?, hv]) (by simp [World.shape?, hk]) (by omega) (free_at hv) (free_at hv)]
  rfl
 have hdl : ((l.drop i).flatMap encE).length = (n - i) * 2 := by rw [flat_len encE_len, List.length_drop, hlen]
 have hcpB : Hid (∀ W, Below w.heap.size w W → ∀ ty dc sc, (Builtin.copy_ #[215, 215] ty #[.slice (some ⟨b, off + (i + 1) * 2, none⟩) (n - i) dc, .slice (some ⟨b, off + i * 2, none⟩) (n + 1 - i) sc]).run Tryz.prog W = .ok (.int .i64 (n - i : Nat)) (W.setCells b (off + (i + 1) * 2) ((l.drop i).flatMap encE))) := Lib.hid (fun W hW ty dc sc => by
  have hkW := blkb hk hW
  have HW := H.below hW
  exact run_copyN W 215 215 ty 214 b (off + (i + 1) * 2) (n - i) dc ⟨b, off + i * 2, none⟩ (n + 1 - i) sc 2 (n - i) _ Tryz.underlying215 hsz (by simp [Nat.min_def]; omega) hdl
   (fun j v hj => by
    rw [add_lit, Nat.add_assoc]
    rw [flatE_drop, List.getElem?_drop] at hj
    exact HW.cells _ v hj)
   (fun j hj => by rw [hdl] at hj; rw [cell_at hkW (Array.getElem?_eq_getElem (by omega))]; rfl) (fun j _ => free_at hkW) (fun v hv => encE_one hv))
 have hcpA : Hid (∀ W W3, Below w.heap.size w W → W3 = W.setCells b (off + (i + 1) * 2) ((l.drop i).flatMap encE) → ∀ W4, Below W3.heap.size W3 W4 →
   (∀ ty dc, (Builtin.copy_ #[215, 215] ty #[.slice (some ⟨b, off + i * 2, none⟩) (n + 1 - i) dc, .slice (some ⟨vb, 0, none⟩) 1 1]).run Tryz.prog W4 = .ok (.int .i64 1) (W4.setCells b (off + i * 2) (encE y))) ∧
   InsP w B b (l.take i ++ y :: l.drop i) (.returned (.slice (some ⟨b, off, none⟩) (n + 1) c)) (W4.setCells b (off + i * 2) (encE y))) := Lib.hid (fun W W3 hW hW3 W4 hW4 => by
  have hkW := blkb hk hW
  have hk3 := heap_setsA ((l.drop i).flatMap encE) (off + (i + 1) * 2) W b _ 214 (0, 0) hkW
  have hvW := blkb hv hW
  have hv3 : W3.heap[vb]? = some (.cells #[.int .i64 (y.1 : Nat), .int .i64 y.2] 214 (0, 0)) := by rw [hW3]; exact (heap_setsO _ _ _ _ _ hvb).trans hvW
  rw [← hW3] at hk3
  have hk4 := blkb hk3 hW4
  have hv4 := blkb hv3 hW4
  have hs3 : W3.heap.size = W.heap.size := by rw [hW3, size_setsA]
  have hB3 : Below B w W3 := by rw [hW3]; exact below_setCells hlo _ _ _ (hW.mono hB)
  have hB4 : Below B w W4 := hB3.trans (hW4.mono (by rw [hs3]; have := hW.size; omega))
  refine ⟨fun ty dc => run_copyN W4 215 215 ty 214 b (off + i * 2) (n + 1 - i) dc ⟨vb, 0, none⟩ 1 1 2 1 (encE y) Tryz.underlying215 hsz (by simp [Nat.min_def]; omega) rfl (vs_cells hv4)
   (fun j hj => by rw [encE_len] at hj; rw [cell_at hk4 (Array.getElem?_eq_getElem (by rw [setsA_size]; omega))]; rfl) (fun j _ => free_at hk4) (fun v hv => encE_one (l := [y]) (by simpa using hv)), ?_⟩
  have hil := ins_len l y i (by omega)
  have hk5 := heap_setsA (encE y) (off + i * 2) W4 b _ 214 (0, 0) hk4
  refine ⟨b, off, c, by rw [hil, hlen], ⟨⟨_, hk5, by rw [setsA_size, setsA_size]; omega, by rw [setsA_size, setsA_size]; omega, fun j hj => ?_⟩, rfl, by omega, hcm, hlo⟩, below_setCells hlo _ _ _ hB4, fun k hk6 hne => ?_, .inl rfl⟩
  ·rw [hil, hlen] at hj
   rw [setsA_get _ _ _ _ (by rw [setsA_size, encE_len]; omega), encE_len, setsA_get _ _ _ _ (by rw [hdl]; omega), hdl, ins_get l y i j (by omega)]
   by_cases hj1 : j < i * 2
   ·rw [if_neg (by omega), if_neg (by omega), if_pos hj1]
    exact h2 j (by omega)
   ·by_cases hj2 : j < i * 2 + 2
    ·rw [if_pos (by omega), if_neg hj1, if_pos hj2]
     congr 1
     omega
    ·rw [if_neg (by omega), if_pos (by omega), if_neg hj1, if_neg hj2, flatE_drop, List.getElem?_drop]
     congr 1
     omega
  ·rw [heap_setsO _ _ _ _ _ hne, hW4.block k (by rw [hs3]; have := hW.size; omega), hW3, heap_setsO _ _ _ _ _ hne, hW.block k hk6])
 have t1 : ((i : Int) == (n : Int)) = false := by simp; omega
 have t2 : decide ((c : Int) < (n : Int) + 1) = false := by simp; omega
 have t3 : (i : Int) ≤ (n : Int) := by omega
 have t4 : (i : Int) ≤ (n : Int) + 1 := by omega
 have t5 : ¬ (c = i) := by omega
 have t7 : ¬ (c = i + 1) := by omega
 have t12 : (0 : Int) ≤ (i : Int) + 1 := by omega
 have t13 : (n : Int) + 1 ≤ (c : Int) := by omega
 have t14 : (0 : Int) ≤ (n : Int) + 1 := by omega
 have t9 : IntKind.i64.wrap ((i : Int) + 1) = ((i + 1 : Nat) : Int) := wrapN (x := i + 1) (by omega)
 have t10 : IntKind.i64.wrap ((n : Int) + 1) = (n : Int) + 1 := wrapI (by omega)
 clear H hdl hk h1 h0 h2
 go_enter Tryz.func157, Tryz.ntmps157
 go_wp2_with (simp only [hov])
 refine wp_region_plan [(0, true), (1, true), (2, true), (3, true), (4, true), (5, true), (6, true), (7, true), (8, false)] B (by kernel_rfl) (by kernel_rfl) hB (fun _ _ d _ _ h => by cases d <;> exact h) ?_
 repeat (first | (refine wpPlanA_skip _ rfl (by rfl) ?_; simp only [Act.put, List.setIfInBounds_toArray, List.set_cons_zero, List.set_cons_succ]) | (refine wpPlanA_soft _ ?_ rfl (by rfl) ?_ ?_; rotate_left; (intro wq hq hcq; go_simp; first | exact rfl | exact ⟨rfl, rfl⟩); simp only [Act.put, List.setIfInBounds_toArray, List.set_cons_zero, List.set_cons_succ]))
 refine wpPlanA_hard _ rfl (by rfl) (fun w3 hS K hK => ?_)
 have hcp := hcpB.out w3 hS
 obtain ⟨w4, hw4⟩ : ∃ W, W = w3.setCells b (off + (i + 1) * 2) ((l.drop i).flatMap encE) := ⟨_, rfl⟩
 have hF := Lib.hid (hcpA.out w3 w4 hS hw4)
 have hB4 : Below B w w4 := by rw [hw4]; exact below_setCells hlo _ _ _ (hS.mono hB)
 rw [← hw4] at hcp
 clear hw4
 go_simp
 refine hK _ _ hB4 ?_
 clear hK K
 try simp only [Act.put, List.setIfInBounds_toArray, List.set_cons_zero, List.set_cons_succ]
 refine wpPlanA_nil (fun w5 hS5 => ?_)
 obtain ⟨hcp5, hf5⟩ := hF.out w5 hS5
 have HF := Lib.hid hf5
 clear hcp hS hF hB4 hS5 hcpB hcpA hf5 hov
 go_wp2_with (at_builtin; refine wpList_copy_runI _ rfl _ _ 215 215 rfl _ _ rfl rfl (hcp5 _ _) ?_)
 go_ret
 exact HF.out
theorem c157 (B b off n c i vb : Nat) (l : List (Nat × Int)) (y : Nat × Int) (w : World) (H : WtE w B b off n c l) (hn : n ≤ 1000000) (hi : i ≤ n) (hB : B ≤ w.heap.size) (hvb : vb ≠ b) (hv : w.heap[vb]? = some (.cells #[.int .i64 (y.1 : Nat), .int .i64 y.2] 214 (0, 0))) :
  Calls Tryz.prog 157 #[.slice (some ⟨b, off, none⟩) n c, .int .i64 i, .slice (some ⟨vb, 0, none⟩) 1 1] w (InsP w B b (l.take i ++ y :: l.drop i)) := by
 have hvw := (Array.getElem?_eq_some_iff.1 hv).1
 have hnc := H.nc
 rcases Nat.lt_or_ge i n with h | h
 ·rcases Nat.lt_or_ge n c with h2 | h2
  ·exact c157_shift B b off n c i vb l y w H hn h (by omega) hB hvb hv
  ·obtain rfl : c = n := by omega
   exact c157_grow B b off c i vb l y w H hn h hB hvw hv
 ·obtain rfl : i = n := by omega
  rcases Nat.lt_or_ge i c with h2 | h2
  ·exact c157_room B b off i c vb l y w H hn (by omega) hv
  ·obtain rfl : c = i := by omega
   exact c157_end B b off c vb l y w H hn hB hv
end Go.Proofs.YtdimmlljjmmdbaaGreatDoor
namespace Go.Proofs.YtdimmlljjmmdbaaGreatDoor
open Go.RowKit Go.Shelf
set_option maxHeartbeats 4000000
set_option maxRecDepth 100000
/-- the loop's record, ready or done, and the block of what is deferred -/
structure LineRec (w W : World) (r : Loop) : Prop where
 lp : W.heap[w.heap.size + 1]? = some (.loop r)
 defd : W.heap[w.heap.size]? = some (.deferred (some []))
theorem LineRec.grow {w W W' : World} {r : Loop} (h : LineRec w W r) (hb : Below W.heap.size W W') : LineRec w W' r := ⟨blkb h.lp hb, blkb h.defd hb⟩
theorem LineRec.put {w W : World} {r : Loop} (h : LineRec w W r) (r' : Loop) : LineRec w (W.putObj (w.heap.size + 1) (.loop r')) r' :=
 ⟨World.putObj_heap_same (Array.getElem?_eq_some_iff.1 h.lp).1, (World.putObj_heap_other (by omega)).trans h.defd⟩
theorem LineRec.kept {w W W' : World} {r : Loop} (h : LineRec w W r) (hk : KeepsFrom w.heap.size W W') : LineRec w W' r := ⟨hk.same _ _ (by omega) h.lp rfl, hk.same _ _ (Nat.le_refl _) h.defd rfl⟩
theorem own_put {w W : World} {I : World → Prop} {r r' : Loop} (hI : OwnFrom w.heap.size (fun (_ : Unit) => I)) (h : I W) (hr : LineRec w W r) : I (W.putObj (w.heap.size + 1) (.loop r')) :=
 hI.putObj (s := ()) (.loop r') h (by omega) hr.lp rfl
theorem own_grow {B : Nat} {W W' : World} {I : World → Prop} (hI : OwnFrom B (fun (_ : Unit) => I)) (h : I W) (hb : Below W.heap.size W W') : I W' :=
 hI () W W' none h (grownBy_of_below hb none) (fun r e => by cases e)
theorem below2 (w : World) (o o2 : Obj) : Below w.heap.size w ((w.alloc o).alloc o2) := ((Below.refl _ w).alloc (Nat.le_refl _) _).alloc (by simp) _
/-- how a round may be left: off its end, or by the one jump 'jmp' -/
def NbPost (B : Nat) (I Ix : World → Prop) (jmp : Code) (W : World) : Exit → Act → World → Prop
 | .normal, _, W' => KeepsFrom B W W' ∧ I W'
 | .ret, _, W' => jmp = .ret ∧ KeepsFrom B W W' ∧ Ix W'
 | .exit id, _, W' => jmp = .exit id ∧ KeepsFrom B W W' ∧ Ix W'
 | .goto _, _, _ => False
 | .panic _, _, _ => False
 | .outgrown, _, _ => False
/-- 'for k, n := range g.neighbours(i)': an invariant of the neighbours that are done, and one walk of the body -/
theorem wpIn_nbs {ps : Array Tmp} {assign body : Code} {Q : Exit → Act → World → Prop} {a : Act} {w : World} {n : Nat} (hn : 2 ≤ n) {f : Operand} {pi pg : Nat} {c r : Nat} {l : List Int} (g : Im.Gr c r l) (hc : c ≤ 16) (hr : r ≤ 16) {A : Option Addr} {N cap : Nat} {i : Nat} (hi : i < l.length)
  (hf : a.eval f = .func (.func 158) #[] #[.pointer (some ⟨pi, 0, none⟩), .pointer (some ⟨pg, 0, none⟩)]) (hps : ps.size = 2)
  (jmp : Code) (I : List (Nat × Int) → World → Prop) (Ix : World → Prop)
  (hI : ∀ pre, OwnFrom w.heap.size (fun (_ : Unit) => I pre)) (hIx : OwnFrom w.heap.size (fun (_ : Unit) => Ix))
  (hK : ∀ pre W, I pre W → NbW W pi pg c r A N cap l i) (h0 : I [] w) (a₁ : Nat × Int → Act)
  (hassign : ∀ (lr : Nat) (x : Nat × Int) (W : World) (K : Act → World → Prop), K (a₁ x) W →
   assign.wpIn (Fence.wide.inRound lr) (n - 1 - 1) Tryz.prog (Exit.then K (fun _ _ _ => False)) { tmps := (ps.zip #[.int .i64 (x.1 : Nat), .int .i64 x.2]).foldl (fun t (p, v) => t.setIfInBounds p v) a.tmps, defers := [] } W)
  (hbody : ∀ (lr : Nat) (pre : List (Nat × Int)) (x : Nat × Int) (suf : List (Nat × Int)) (W : World), Im.nbs c r l i = pre ++ x :: suf → w.heap.size ≤ W.heap.size → I pre W → body.wpIn (Fence.wide.inRound lr) (n - 1 - 1) Tryz.prog (NbPost w.heap.size (I (pre ++ [x])) Ix jmp W) (a₁ x) W)
  (hdone : ∀ (D : Nat) (W : World), w.heap.size ≤ D → I (Im.nbs c r l i) W → W.heap[D]? = some (.deferred (some [])) → Q .normal { a with defers := { target := .collected D, args := #[] } :: a.defers } W)
  (hstop : ∀ (D : Nat) (W : World), w.heap.size ≤ D → Ix W → W.heap[D]? = some (.deferred (some [])) → jmp.wpIn Fence.wide n Tryz.prog Q { a with defers := { target := .collected D, args := #[] } :: a.defers } W) :
  (Code.rangeFunc f ps assign body).wpIn Fence.wide n Tryz.prog Q a w := by
 refine wpIn_rangeFunc fun fn hfn => ?_
 obtain ⟨rc, hrc⟩ : ∃ rc : LoopState → Option Code → Loop, rc = fun st pe => { state := st, pending := pe, fn, tmps := a.tmps, params := ps, assign, body, defers := w.heap.size } := ⟨_, rfl⟩
 obtain ⟨W1, hW1⟩ : ∃ W1, W1 = (w.alloc (.deferred (some []))).alloc (.loop (rc .ready none)) := ⟨_, rfl⟩
 have hb1 : Below w.heap.size w W1 := by rw [hW1]; exact below2 _ _ _
 have hrec : LineRec w W1 (rc .ready none) := by
  rw [hW1]
  exact ⟨heap_new (by simp), heap_old (by simp) (heap_new rfl)⟩
 have hgo := nbs_in (n - 1) (by omega) (w.heap.size + 1) pi pg g hc hr (A := A) (N := N) (cap := cap) hi (fun pre W => I pre W ∧ LineRec w W (rc .ready none)) (fun W => Ix W ∧ LineRec w W (rc .done (some jmp)))
  (fun pre W h => hK pre W h.1)
  (fun pre W W2 h hb => ⟨own_grow (hI pre) h.1 hb, h.2.grow hb⟩)
  ?hY W1 ⟨own_grow (hI []) h0 hb1, hrec⟩
 case hY =>
  rintro pre x suf W he ⟨hi1, hr1⟩
  have hy := run_yield (P := Tryz.prog) (args := #[.int .i64 (x.1 : Nat), .int .i64 x.2]) hr1.lp (by rw [hrc]; simpa using hps.symm)
  rw [hrc] at hy
  refine ⟨fn, _, assign, body, hy, roundIn_of_wpIn hfn (hassign _ x W _ ⟨_, run_beginRound hr1.lp (by rw [hrc]), ?_⟩)⟩
  have hr2 := hr1.put { rc .ready none with state := .busy }
  have hsz : w.heap.size ≤ (W.putObj (w.heap.size + 1) (.loop { rc .ready none with state := .busy })).heap.size := by
   have := (Array.getElem?_eq_some_iff.1 hr2.lp).1
   omega
  refine wpIn_mono (hbody (w.heap.size + 1) pre x suf _ he hsz (own_put (hI pre) hi1 hr1)) ?_
  rintro e a3 W3 hp
  have fin : ∀ (jump : Option Code), KeepsFrom w.heap.size (W.putObj (w.heap.size + 1) (.loop { rc .ready none with state := .busy })) W3 →
    (Instr.endRound (w.heap.size + 1) jump).run Tryz.prog W3 = .ok (.bool jump.isNone) (W3.putObj (w.heap.size + 1) (.loop (rc (if jump.isNone then .ready else .done) jump))) := fun jump hk => by
   have hl3 := (hr2.kept hk).lp
   rw [hrc] at hl3
   have := run_endRound (P := Tryz.prog) jump hl3
   rw [hrc]
   exact this
  cases e with
  | normal =>
   obtain ⟨hk, hi3⟩ := hp
   exact ⟨_, _, fin none hk, .inl ⟨rfl, own_put (hI _) hi3 (hr2.kept hk), (hr2.kept hk).put _⟩⟩
  | ret =>
   obtain ⟨rfl, hk, hi3⟩ := hp
   exact ⟨_, _, fin (some .ret) hk, .inr ⟨rfl, own_put hIx hi3 (hr2.kept hk), (hr2.kept hk).put _⟩⟩
  | exit id =>
   obtain ⟨rfl, hk, hi3⟩ := hp
   exact ⟨_, _, fin (some (.exit id)) hk, .inr ⟨rfl, own_put hIx hi3 (hr2.kept hk), (hr2.kept hk).put _⟩⟩
  | goto t => exact hp.elim
  | panic ch => exact hp.elim
  | outgrown => exact hp.elim
 have hen : (Instr.enterLoop fn a.tmps ps assign body Fence.wide.round).run Tryz.prog w = .ok (w.heap.size + 1, [{ target := .collected w.heap.size, args := #[] }]) W1 := by
  rw [hW1, hrc]; exact run_enterLoop_outer _ _ _ _ _
 refine ⟨w.heap.size + 1, [{ target := .collected w.heap.size, args := #[] }], W1, { target := .fn (.func 158) #[.pointer (some ⟨pi, 0, none⟩), .pointer (some ⟨pg, 0, none⟩)], args := #[.func (.yield (w.heap.size + 1)) #[] #[]] }, W1, 158,
  #[.func (.yield (w.heap.size + 1)) #[] #[]] ++ #[.pointer (some ⟨pi, 0, none⟩), .pointer (some ⟨pg, 0, none⟩)], W1, hen, ?_, fun _ _ => trivial, ?_, fun _ => by omega, ?_⟩
 ·simp only [resolve, hf]
  simp [go_sem]
 ·simp [invoke, go_sem, enters_of Tryz.func158 (by kernel_rfl) rfl]
 refine hgo.mono ?_
 rintro e W2 ⟨⟨v, rfl⟩, (⟨hi2, hr2⟩ | ⟨hx, hr2⟩)⟩
 ·exact ⟨none, _, by have := run_endLoop (P := Tryz.prog) hr2.lp (by rw [hrc]; simp); rw [hrc] at this; exact this, hdone _ _ (Nat.le_refl _) (own_put (hI _) hi2 hr2) (hr2.put _).defd⟩
 ·exact ⟨some jmp, _, by have := run_endLoop (P := Tryz.prog) hr2.lp (by rw [hrc]; simp); rw [hrc] at this; exact this, hstop _ _ (Nat.le_refl _) (own_put hIx hx hr2) (hr2.put _).defd⟩
end Go.Proofs.YtdimmlljjmmdbaaGreatDoor
namespace Go.Proofs.YtdimmlljjmmdbaaGreatDoor
open Go.RowKit
set_option maxHeartbeats 4000000
set_option maxRecDepth 100000
/-- the marks that loops over functions leave among the deferred calls -/
def MarkL (Ds : List Nat) : List Deferred := Ds.map fun D => { target := .collected D, args := #[] }
def Marks (B : Nat) (Ds : List Nat) (w : World) : Prop := Ds.Nodup ∧ ∀ D ∈ Ds, B ≤ D ∧ w.heap[D]? = some (.deferred (some []))
theorem Marks.nil (B : Nat) (w : World) : Marks B [] w := ⟨List.nodup_nil, fun _ h => by cases h⟩
theorem Marks.lt {B : Nat} {Ds : List Nat} {w : World} (h : Marks B Ds w) : ∀ D ∈ Ds, D < w.heap.size := fun D hD => (Array.getElem?_eq_some_iff.1 (h.2 D hD).2).1
theorem Marks.push {B : Nat} {Ds : List Nat} {w W : World} (h0 : Marks B Ds w) (h : Marks B Ds W) {D : Nat} (hB : B ≤ w.heap.size) (hD : w.heap.size ≤ D) (hk : W.heap[D]? = some (.deferred (some []))) : Marks B (D :: Ds) W := by
 refine ⟨List.nodup_cons.2 ⟨fun hm => by have := h0.lt D hm; omega, h.1⟩, fun E hE => ?_⟩
 rcases List.mem_cons.1 hE with rfl | hE
 ·exact ⟨by omega, hk⟩
 ·exact h.2 E hE
theorem Marks.below {B : Nat} {Ds : List Nat} {w W : World} (h : Marks B Ds w) (hb : Below w.heap.size w W) : Marks B Ds W := ⟨h.1, fun D hD => ⟨(h.2 D hD).1, blkb (h.2 D hD).2 hb⟩⟩
theorem Marks.keep {B : Nat} {Ds : List Nat} {w W : World} (h : Marks B Ds w) (hb : ∀ (k : Nat) (o : Obj), w.heap[k]? = some o → o.isCells = false → W.heap[k]? = some o) : Marks B Ds W := ⟨h.1, fun D hD => ⟨(h.2 D hD).1, hb _ _ (h.2 D hD).2 rfl⟩⟩
/-- what is turned at a function's end: no cells, nothing below B -/
def Aft (B : Nat) (w w' : World) : Prop := (∀ (k : Nat) (o : Obj), w.heap[k]? = some o → o.isCells = true → w'.heap[k]? = some o) ∧ ∀ w0, B ≤ w.heap.size → Below B w0 w → Below B w0 w'
theorem Aft.refl (B : Nat) (w : World) : Aft B w w := ⟨fun _ _ h _ => h, fun _ _ h => h⟩
theorem leaves_marks {P : Program} {F : Fence} {n : Nat} {fn : Func} {tmps : Array Value} {R : Ending → World → Prop} {B : Nat} : ∀ (Ds : List Nat) (w w0 : World), Marks B Ds w → Aft B w0 w → w0.heap.size = w.heap.size →
  (∀ w', Aft B w0 w' → LeavesIn F n P fn tmps R [] .returning w') → LeavesInM F n P fn tmps R (MarkL Ds) .returning w
 | [], w, w0, _, ha, _, h => h w ha
 | D :: Ds, w, w0, hm, ha, hs, h => by
  have hk := (hm.2 D (by simp)).2
  have hB := (hm.2 D (by simp)).1
  have hlt := hm.lt D (by simp)
  refine ⟨by simp, .inl ⟨_, _, rfl, run_takeDeferred hk, ?_⟩⟩
  refine leaves_marks Ds _ w0 ⟨(List.nodup_cons.1 hm.1).2, fun E hE => ⟨(hm.2 E (by simp [hE])).1, ?_⟩⟩ ⟨fun k o hk1 hc => ?_, fun w1 hBs hb => ?_⟩ (by simp [hs]) h
  ·exact (World.putObj_heap_other (fun e => (List.nodup_cons.1 hm.1).1 (by rw [← e]; exact hE))).trans (hm.2 E (by simp [hE])).2
  ·have h1 := ha.1 k o hk1 hc
   refine (World.putObj_heap_other (fun e => ?_)).trans h1
   subst e
   rw [h1] at hk
   cases hk
   cases hc
  ·exact (ha.2 w1 hBs hb).grown (grownBy_putObj' w D _) (by omega) (fun j hj => by cases hj; exact hB)
theorem c128 (c r : Int) (A : Option Addr) (N cap : Nat) (i : Int) (w : World) :
  Calls Tryz.prog 128 #[.agg #[.int .i64 c, .int .i64 r, .slice A N cap], .int .i64 i] w fun en w' => en = .returned (.func (.func 158) #[] #[.pointer (some ⟨w.heap.size + 1, 0, none⟩), .pointer (some ⟨w.heap.size, 0, none⟩)]) ∧ w' = (w.alloc (Obj.cells #[.int .i64 c, .int .i64 r, .slice A N cap] 35)).alloc (Obj.cells #[.int .i64 i] 3) := by
 go_enter Tryz.func128, Tryz.ntmps128
 go_wp2
 go_ret
 exact ⟨rfl, rfl⟩
/-- own memory of 'times' -/
structure TW (w W : World) (gb b5 b6 og : Nat) (c r : Nat) (A : Option Addr) (n cap : Nat) (out : List Int) (b off cw : Nat) (wl : List (Nat × Int)) : Prop where
 bel : Below w.heap.size w W
 gg : W.heap[gb]? = some (.cells #[.int .i64 c, .int .i64 r, .slice A n cap] 35 (0, 0))
 k5 : W.heap[b5]? = some (.cells #[.slice (some ⟨og, 0, none⟩) n n] 22 (0, 0))
 ko : W.heap[og]? = some (.cells (encI out).toArray 3 (0, 0))
 k6 : W.heap[b6]? = some (.cells #[.slice (some ⟨b, off, none⟩) wl.length cw] 215 (0, 0))
 wt : WtE W w.heap.size b off wl.length cw wl
 d1 : b ≠ gb ∧ b ≠ b5 ∧ b ≠ b6 ∧ b ≠ og
section
variable {w W W' : World} {gb b5 b6 og : Nat} {c r : Nat} {A : Option Addr} {n cap : Nat} {out : List Int} {b off cw : Nat} {wl : List (Nat × Int)}
theorem TW.below (h : TW w W gb b5 b6 og c r A n cap out b off cw wl) (hb : Below W.heap.size W W') : TW w W' gb b5 b6 og c r A n cap out b off cw wl :=
 ⟨h.bel.trans (hb.mono h.bel.size), blkb h.gg hb, blkb h.k5 hb, blkb h.ko hb, blkb h.k6 hb, h.wt.below hb, h.d1⟩
/-- the list of those that wait is stored anew, in whatever world that kept the rest -/
theorem TW.next {b' off' cw' : Nat} {wl' : List (Nat × Int)} (h : TW w W gb b5 b6 og c r A n cap out b off cw wl) (hbel : Below w.heap.size w W')
  (hk : ∀ k, k < W.heap.size → k ≠ b → W'.heap[k]? = W.heap[k]?) (hw : WtE W' w.heap.size b' off' wl'.length cw' wl') (hd : b' = b ∨ W.heap.size ≤ b') (h6 : w.heap.size ≤ b6) (hne : b6 ≠ gb ∧ b6 ≠ b5 ∧ b6 ≠ og) :
  TW w (W'.setCell ⟨b6, 0, none⟩ (.slice (some ⟨b', off', none⟩) wl'.length cw')) gb b5 b6 og c r A n cap out b' off' cw' wl' := by
 obtain ⟨d1, d2, d3, d4⟩ := h.d1
 obtain ⟨e1, e2, e3⟩ := hne
 have lt := fun {k : Nat} {o : Obj} (hk : W.heap[k]? = some o) => (Array.getElem?_eq_some_iff.1 hk).1
 have nb : ∀ k, k < W.heap.size → b ≠ k → b' ≠ k := fun k hk hn => by rcases hd with rfl | hd; exact hn; omega
 refine ⟨hbel.setCell (p := ⟨b6, 0, none⟩) h6 _, (set_far _ (Ne.symm e1)).trans ((hk _ (lt h.gg) (Ne.symm d1)).trans h.gg), (set_far _ (Ne.symm e2)).trans ((hk _ (lt h.k5) (Ne.symm d2)).trans h.k5), (set_far _ (Ne.symm e3)).trans ((hk _ (lt h.ko) (Ne.symm d4)).trans h.ko), ?_, hw.other _ (nb _ (lt h.k6) d3), ?_⟩
 ·have := set_blk (i := 0) ((hk _ (lt h.k6) (Ne.symm d3)).trans h.k6) (.slice (some ⟨b', off', none⟩) wl'.length cw')
  simpa using this
 ·exact ⟨nb _ (lt h.gg) d1, nb _ (lt h.k5) d2, nb _ (lt h.k6) d3, nb _ (lt h.ko) d4⟩
theorem encI_set (l : List Int) (i : Nat) (x : Int) : (encI l).toArray.setIfInBounds i (.int .i64 x) = (encI (l.set i x)).toArray := by
 simp [encI, List.map_set]
theorem TW.done {i : Nat} {x : Int} (h : TW w W gb b5 b6 og c r A n cap out b off cw wl) (ho : w.heap.size ≤ og) (hne : og ≠ gb ∧ og ≠ b5 ∧ og ≠ b6) :
  TW w (W.setCell ⟨og, i, none⟩ (.int .i64 x)) gb b5 b6 og c r A n cap (out.set i x) b off cw wl := by
 obtain ⟨d1, d2, d3, d4⟩ := h.d1
 obtain ⟨e1, e2, e3⟩ := hne
 refine ⟨h.bel.setCell (p := ⟨og, i, none⟩) ho _, (set_far _ (Ne.symm e1)).trans h.gg, (set_far _ (Ne.symm e2)).trans h.k5, ?_, (set_far _ (Ne.symm e3)).trans h.k6, h.wt.other _ d4, h.d1⟩
 have := set_blk (i := i) h.ko (.int .i64 x)
 rw [encI_set] at this
 exact this
theorem TW.own {B : Nat} (hB : w.heap.size ≤ B) {row : Option Nat} (h : TW w W gb b5 b6 og c r A n cap out b off cw wl) (hg : W.grownBy W' row) (hr : ∀ k, row = some k → B ≤ k ∧ ∃ o : Obj, W.heap[k]? = some o ∧ o.isCells = false) :
  TW w W' gb b5 b6 og c r A n cap out b off cw wl := by
 have key : ∀ {k : Nat} {cs : Array Value} {t : TypeId} {f : Nat × Nat}, W.heap[k]? = some (.cells cs t f) → W'.heap[k]? = some (.cells cs t f) := fun {k cs t f} hk => by
  refine (hg.block k (Array.getElem?_eq_some_iff.1 hk).1 (fun e => ?_)).trans hk
  obtain ⟨_, o, ho, hc⟩ := hr k e.symm
  rw [hk] at ho
  cases ho
  cases hc
 obtain ⟨cs, hk, h2⟩ := h.wt.blk
 exact ⟨h.bel.grown hg h.bel.size (fun j hj => by have := (hr j hj).1; omega), key h.gg, key h.k5, key h.ko, key h.k6, ⟨⟨cs, key hk, h2⟩, h.wt.len, h.wt.nc, h.wt.cm, h.wt.lo⟩, h.d1⟩
end
end Go.Proofs.YtdimmlljjmmdbaaGreatDoor
