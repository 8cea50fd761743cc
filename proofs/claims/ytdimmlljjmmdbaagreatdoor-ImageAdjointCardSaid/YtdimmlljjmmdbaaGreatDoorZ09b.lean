/- A part of the proofs about chapter 7 (image): contracts of functions and plain laws (V3, PTimes, PDij, PPath, POps, V4, V4c, Bridge, Bridge2, V5, O1). -/
import Derived.RangeFuncNested
import Derived.RangeFuncBound
import Derived.RangeFuncCalls
import Derived.RangeFuncLeaves
import Derived.Shelf.Abstract
import Derived.Shelf.RegionOpen
import Derived.OwnWalkIn
import Derived.TacticsInMore
import Derived.LoopNIn
import Derived.LoopIn
import Derived.LaidLaws
import Derived.LaidMore
import Derived.LaidHandle
import Derived.Stop.Joined
import Derived.SevenTiedAt
import Derived.MakeChecks
import Derived.Stop.LaidErr
import Derived.Lib.LaidTab
import Derived.Lay
import Derived.Test.YtdimmlljjmmdbaaGreatDoorRows
import Derived.Test.YtdimmlljjmmdbaaGreatDoorZ09a
set_option linter.all false
namespace Go.Proofs.YtdimmlljjmmdbaaGreatDoor
open Go.RowKit
set_option maxHeartbeats 4000000
set_option maxRecDepth 20000
namespace Mo
def allw (l : List Int) (lo hi : Int) : Int := first (l.map fun x => range x lo hi)
def sides (c r : Int) : Int := first [range c 1 16, range r 1 16]
def ground (c r : Int) (l : List Int) : Int := first [sides c r, when ((l.length : Int) != c * r) 2, allw l 1 100]
def cell (n i : Int) : Int := when (decide (i < 0) || decide (n ≤ i)) 10
theorem first_cons (a : Int) (l : List Int) : first (a :: l) = if (a != 0) = true then a else first l := by
 simp [first]
theorem first_z {a : Int} (h : a = 0) (l : List Int) : first (a :: l) = first l := by rw [first_cons, if_neg (by simp [h])]
theorem first_nz {a : Int} (h : a ≠ 0) (l : List Int) : first (a :: l) = a := by rw [first_cons, if_pos (by simpa using h)]
theorem sides_ok {c r : Int} (h : sides c r = 0) : 1 ≤ c ∧ c ≤ 16 ∧ 1 ≤ r ∧ r ≤ 16 := by
 unfold sides at h
 simp only [first_cons, range] at h
 split at h <;> (try split at h) <;> simp_all <;> omega
theorem side_mul {c r : Int} (h : sides c r = 0) : 0 ≤ c * r ∧ c * r ≤ 256 := by
 obtain ⟨h1, h2, h3, h4⟩ := sides_ok h
 refine ⟨Int.mul_nonneg (by omega) (by omega), ?_⟩
 have := Int.mul_le_mul h2 h4 (by omega) (by omega : (0:Int) ≤ 16)
 omega
end Mo
theorem wrapI {x : Int} (h : -9223372036854775808 ≤ x ∧ x ≤ 9223372036854775807) : IntKind.i64.wrap x = x := by rw [IntKind.wrap_i64]; omega
theorem c92 (A : Option Addr) (n cap : Nat) (l : List Int) (lo hi : Int) (w : World) (hl : n ≤ 1000000) (H : RdI w A n l) :
  Calls Tryz.prog 92 #[.slice A n cap, .int .i64 lo, .int .i64 hi] w fun en w' => en = .returned (.int .i64 (Mo.allw l lo hi)) ∧ w = w' := by
 have Hn := Lib.hid H.len
 go_enter Tryz.func92, Tryz.ntmps92
 go_wp2
 go_loop [7] (fun i => ∃ k : Nat, k ≤ n ∧ i = .int .i64 k ∧ Mo.allw l lo hi = Mo.first ((l.map fun x => Mo.range x lo hi).drop k)) (fun i => n - (intOf i).toNat)
 case atStart => exact ⟨0, Nat.zero_le _, rfl, rfl⟩
 case round =>
  obtain ⟨k, hk, rfl, he⟩ := hrel
  have HE := Lib.hid he
  clear he
  by_cases hlt : k < n
  ·obtain ⟨b, off, x, rfl, hx, hb, h0⟩ := H.at hlt
   have hs := Mo.first_drop (l.map fun x => Mo.range x lo hi) k (by rw [List.length_map, Hn.out]; exact hlt)
   rw [List.getElem_map, show l[k]'(by rw [Hn.out]; exact hlt) = x from (List.getElem?_eq_some_iff.1 hx).2] at hs
   have HS := Lib.hid hs
   clear hs hx H hb
   go_wp2_with fail
   refine (c42 _ _ _ _).mono ?_
   rintro e w' ⟨rfl, rfl⟩
   go_wp2
   ·go_ret
    exact ⟨ret_int (by rw [HE.out, HS.out, if_pos (by simpa using ‹(Mo.range x lo hi != 0) = true›)]), rfl⟩
   ·go_round
    case rel => exact ⟨k+1, by omega, by go_num, by rw [HE.out, HS.out, if_neg (by simpa using ‹(Mo.range x lo hi != 0) = false›)]⟩
    case measure => simp [intOf]; omega
  ·go_wp2
   go_ret
   exact ⟨by rw [HE.out, List.drop_of_length_le (by rw [List.length_map, Hn.out]; omega)]; rfl, rfl⟩
theorem c113 (A : Option Addr) (n cap : Nat) (l : List Int) (lo hi : Int) (w : World) (hl : n ≤ 1000000) (H : RdI w A n l) :
  Calls Tryz.prog 113 #[.slice A n cap, .int .i64 lo, .int .i64 hi] w fun en w' => en = .returned (.int .i64 (Mo.allw l lo hi)) ∧ Below w.heap.size w w' := by
 obtain ⟨w0, hW⟩ : ∃ W, W = (w.alloc (Obj.cells #[.int .i64 lo] 3)).alloc (Obj.cells #[.int .i64 hi] 3) := ⟨_, rfl⟩
 have hT0 : w0.heap[w.heap.size]? = some (.cells #[.int .i64 lo] 3 (0, 0)) := by rw [hW]; exact heap_old (by simp <;> omega) (heap_new (by simp))
 have hT1 : w0.heap[w.heap.size + 1]? = some (.cells #[.int .i64 hi] 3 (0, 0)) := by rw [hW]; exact heap_new (by simp)
 have hB0 : Below w.heap.size w w0 := by rw [hW]; exact (((Below.refl _ _).alloc (by first | omega | (simp <;> omega)) _).alloc (by first | omega | (simp <;> omega)) _)
 replace H := H.below hB0
 go_enter Tryz.func113, Tryz.ntmps113
 go_wp2_with fail
 rw [← hW]
 clear hW
 have qhT0_0 : w0.cell? ⟨w.heap.size, 0, none⟩ = some (.int .i64 lo) := cell_at hT0 rfl
 have qhT1_0 : w0.cell? ⟨w.heap.size + 1, 0, none⟩ = some (.int .i64 hi) := cell_at hT1 rfl
 refine (c149 A n cap l _ _ (fun x => Mo.range x lo hi) _ hl H (fun W x _ hW => quietB (c150 x lo hi _ _ W (cell_at (blkb hT0 hW) rfl) (cell_at (blkb hT1 hW) rfl)))).mono ?_
 rintro e w1 ⟨A1, cap1, rfl, hr, hb⟩
 clear qhT0_0 qhT1_0
 have hS := hb
 have hB1 := hB0.call hS rfl
 replace hT0 := blkb hT0 hS
 replace hT1 := blkb hT1 hS
 replace H := H.below hS
 clear hS hB0
 have qhT0_0 : w1.cell? ⟨w.heap.size, 0, none⟩ = some (.int .i64 lo) := cell_at hT0 rfl
 have qhT1_0 : w1.cell? ⟨w.heap.size + 1, 0, none⟩ = some (.int .i64 hi) := cell_at hT1 rfl
 clear hb
 go_wp2_with fail
 refine (c89 A1 n cap1 _ _ hr.len hl hr).mono ?_
 rintro e w' ⟨rfl, rfl⟩
 go_wp2
 go_ret
 exact ⟨rfl, hB1⟩
theorem c97 (c r : Int) (A : Option Addr) (n cap : Nat) (i : Int) (w : World) : Calls Tryz.prog 97 #[.agg #[.int .i64 c, .int .i64 r, .slice A n cap], .int .i64 i] w fun en w' => en = .returned (.int .i64 (Mo.cell n i)) ∧ Below w.heap.size w w' := by
 have hB : Below w.heap.size w (w.alloc (Obj.cells #[.int .i64 c, .int .i64 r, .slice A n cap] 35)) := ((Below.refl _ _).alloc (by first | omega | (simp <;> omega)) _)
 go_enter Tryz.func97, Tryz.ntmps97
 go_wp2_with (go_at_call 94; refine (c94 _ _ _).mono ?_; rintro e w' ⟨rfl, rfl⟩)
 all_goals go_ret
 all_goals (refine ⟨ret_int ?_, hB⟩; simp [Mo.cell, *])
theorem c47 (c r : Int) (A : Option Addr) (n cap : Nat) (i : Int) (w : World) : Calls Tryz.prog 47 #[.agg #[.int .i64 c, .int .i64 r, .slice A n cap], .int .i64 i] w fun en w' => en = .returned (.int .i64 (Mo.cell n i)) ∧ Below w.heap.size w w' := by
 have hB : Below w.heap.size w (w.alloc (Obj.cells #[.int .i64 c, .int .i64 r, .slice A n cap] 24)) := ((Below.refl _ _).alloc (by first | omega | (simp <;> omega)) _)
 go_enter Tryz.func47, Tryz.ntmps47
 go_wp2
 all_goals go_ret
 all_goals (refine ⟨ret_int ?_, hB⟩; simp [Mo.cell, Mo.when, *])
theorem c64 (c r : Int) (A : Option Addr) (n cap : Nat) (l : List Int) (w : World) (hl : n ≤ 1000000) (H : RdI w A n l) :
  Calls Tryz.prog 64 #[.agg #[.int .i64 c, .int .i64 r, .slice A n cap]] w fun en w' => en = .returned (.int .i64 (Mo.ground c r l)) ∧ Below w.heap.size w w' := by
 obtain ⟨w0, hW⟩ : ∃ W, W = w.alloc (Obj.cells #[.int .i64 c, .int .i64 r, .slice A n cap] 35) := ⟨_, rfl⟩
 have hT0 : w0.heap[w.heap.size]? = some (.cells #[.int .i64 c, .int .i64 r, .slice A n cap] 35 (0, 0)) := by rw [hW]; exact heap_new (by simp)
 have hB0 : Below w.heap.size w w0 := by rw [hW]; exact ((Below.refl _ _).alloc (by first | omega | (simp <;> omega)) _)
 replace H := H.below hB0
 go_enter Tryz.func64, Tryz.ntmps64
 go_wp2_with fail
 rw [← hW]
 clear hW
 have qhT0_0 : w0.cell? ⟨w.heap.size, 0, none⟩ = some (.int .i64 c) := cell_at hT0 rfl
 have qhT0_1 : w0.cell? ⟨w.heap.size, 1, none⟩ = some (.int .i64 r) := cell_at hT0 rfl
 have qhT0_2 : w0.cell? ⟨w.heap.size, 2, none⟩ = some (.slice A n cap) := cell_at hT0 rfl
 refine wp_region_plan [(0, true), (1, true), (3, true), (4, true), (2, false), (5, false), (6, false), (7, false), (8, true)] w0.heap.size (by kernel_rfl) (by kernel_rfl) (Nat.le_refl _) (fun _ _ d _ _ h => by cases d <;> exact h) ?_
 have hC : Below w0.heap.size w0 w0 := Below.refl _ _
 have zhT0 : w.heap.size < w0.heap.size := (Array.getElem?_eq_some_iff.1 hT0).1
 repeat (first | (refine wpPlanA_skip _ rfl (by rfl) ?_; simp only [Act.put, List.setIfInBounds_toArray, List.set_cons_zero, List.set_cons_succ]) | (refine wpPlanA_soft _ ?_ rfl (by rfl) ?_ ?_; rotate_left; (intro wq hq hcq; go_simp; first | exact rfl | exact ⟨rfl, rfl⟩); simp only [Act.put, List.setIfInBounds_toArray, List.set_cons_zero, List.set_cons_succ]))
 refine wpPlanA_hard _ rfl (by rfl) (fun w1 hS K hK => ?_)
 have hB1 := hB0.call hS rfl
 replace hC := hC.call hS rfl
 replace hT0 := blkb hT0 hS
 replace H := H.below hS
 clear hS hB0
 go_simp
 refine (c93 _ _ _ _).mono ?_
 rintro e w' ⟨rfl, rfl⟩
 refine hK _ _ hC ?_
 clear hK K
 try simp only [Act.put, List.setIfInBounds_toArray, List.set_cons_zero, List.set_cons_succ]
 refine wpPlanA_hard _ rfl (by rfl) (fun w2 hS K hK => ?_)
 have hB2 := hB1.call hS rfl
 replace hC := hC.call hS rfl
 replace hT0 := blkb hT0 hS
 replace H := H.below hS
 clear hS hB1
 go_simp
 refine (c93 _ _ _ _).mono ?_
 rintro e w' ⟨rfl, rfl⟩
 refine hK _ _ hC ?_
 clear hK K
 try simp only [Act.put, List.setIfInBounds_toArray, List.set_cons_zero, List.set_cons_succ]
 refine wpPlanA_hard _ rfl (by rfl) (fun w3 hS K hK => ?_)
 have hB3 := hB2.call hS rfl
 replace hC := hC.call hS rfl
 replace hT0 := blkb hT0 hS
 replace H := H.below hS
 clear hS hB2
 go_simp
 have hb : Below w3.heap.size w3 (w3.alloc (Obj.cells #[.int .i64 (Mo.range c 1 16), .int .i64 (Mo.range r 1 16)] 32)) := (Below.refl _ _).alloc (Nat.le_refl _) _
 have k1 : (w3.alloc (Obj.cells #[.int .i64 (Mo.range c 1 16), .int .i64 (Mo.range r 1 16)] 32)).heap[w3.heap.size]? = some (Obj.cells #[.int .i64 (Mo.range c 1 16), .int .i64 (Mo.range r 1 16)] 32) := heap_new rfl
 refine hK _ _ (hC.alloc hC.size _) ?_
 clear hK K
 replace hC := hC.call hb rfl
 have hB4 := hB3.call hb rfl
 replace hT0 := blkb hT0 hb
 replace H := H.below hb
 clear hb hB3
 generalize hWn : w3.alloc (Obj.cells #[.int .i64 (Mo.range c 1 16), .int .i64 (Mo.range r 1 16)] 32) = w4 at k1 hC hB4 hT0 H ⊢
 clear hWn
 generalize hWn : w3.heap.size = bk1 at k1 ⊢
 clear hWn
 try simp only [Act.put, List.setIfInBounds_toArray, List.set_cons_zero, List.set_cons_succ]
 refine wpPlanA_hard _ rfl (by rfl) (fun w5 hS K hK => ?_)
 have hB5 := hB4.call hS rfl
 replace hC := hC.call hS rfl
 replace hT0 := blkb hT0 hS
 replace H := H.below hS
 replace k1 := blkb k1 hS
 clear hS hB4
 go_simp
 refine (c89 _ 2 2 [Mo.range c 1 16, Mo.range r 1 16] _ rfl (by omega) (RdS.of_block (cs := encI [Mo.range c 1 16, Mo.range r 1 16]) k1 rfl)).mono ?_
 rintro e w' ⟨rfl, rfl⟩
 refine hK _ _ hC ?_
 clear hK K
 try simp only [Act.put, List.setIfInBounds_toArray, List.set_cons_zero, List.set_cons_succ]
 repeat (first | (refine wpPlanA_skip _ rfl (by rfl) ?_; simp only [Act.put, List.setIfInBounds_toArray, List.set_cons_zero, List.set_cons_succ]) | (refine wpPlanA_soft _ ?_ rfl (by rfl) ?_ ?_; rotate_left; (intro wq hq hcq; go_simp; first | exact rfl | exact ⟨rfl, rfl⟩); simp only [Act.put, List.setIfInBounds_toArray, List.set_cons_zero, List.set_cons_succ]))
 clear k1
 clear qhT0_0 qhT0_1 qhT0_2
 refine wpPlanA_nil (fun w6 hS => ?_)
 clear hC zhT0
 have hB6 := hB5.call hS rfl
 replace hT0 := blkb hT0 hS
 replace H := H.below hS
 clear hS hB5
 have qhT0_0 : w6.cell? ⟨w.heap.size, 0, none⟩ = some (.int .i64 c) := cell_at hT0 rfl
 have qhT0_1 : w6.cell? ⟨w.heap.size, 1, none⟩ = some (.int .i64 r) := cell_at hT0 rfl
 have qhT0_2 : w6.cell? ⟨w.heap.size, 2, none⟩ = some (.slice A n cap) := cell_at hT0 rfl
 have hs0 : Mo.first [Mo.range c 1 16, Mo.range r 1 16] = Mo.sides c r := rfl
 rw [hs0]
 clear hs0
 by_cases hS : Mo.sides c r = 0
 rotate_left
 ·
   have hf : (Mo.sides c r != 0) = true := by simpa using hS
   go_wp2
   go_ret
   exact ⟨ret_int (by unfold Mo.ground; rw [Mo.first_nz hS]), hB6⟩
 have hm := Mo.side_mul hS
 have hsd := Mo.sides_ok hS
 have hw : IntKind.i64.wrap (c * r) = c * r := wrapI (by omega)
 have hf : (Mo.sides c r != 0) = false := by simpa using hS
 have hn := H.len
 have HR := Lib.hid (show Mo.ground c r l = Mo.first [Mo.when ((n : Int) != c * r) 2, Mo.allw l 1 100] by unfold Mo.ground; rw [Mo.first_z hS, hn])
 clear hn
 generalize Mo.sides c r = E at hS hf ⊢
 go_wp2_with fail
 refine wp_region_plan [(0, true), (1, true), (2, true), (3, true), (4, true), (5, true), (6, true), (7, true), (8, true), (10, true), (11, true), (9, false), (12, false), (13, false), (14, false), (15, true)] w6.heap.size (by kernel_rfl) (by kernel_rfl) (Nat.le_refl _) (fun _ _ d _ _ h => by cases d <;> exact h) ?_
 have hC : Below w6.heap.size w6 w6 := Below.refl _ _
 have zhT0 : w.heap.size < w6.heap.size := (Array.getElem?_eq_some_iff.1 hT0).1
 repeat (first | (refine wpPlanA_skip _ rfl (by rfl) ?_; simp only [Act.put, List.setIfInBounds_toArray, List.set_cons_zero, List.set_cons_succ]) | (refine wpPlanA_soft _ ?_ rfl (by rfl) ?_ ?_; rotate_left; (intro wq hq hcq; go_simp; first | exact rfl | exact ⟨rfl, rfl⟩); simp only [Act.put, List.setIfInBounds_toArray, List.set_cons_zero, List.set_cons_succ]))
 refine wpPlanA_hard _ rfl (by rfl) (fun w7 hS K hK => ?_)
 have hB7 := hB6.call hS rfl
 replace hC := hC.call hS rfl
 replace hT0 := blkb hT0 hS
 replace H := H.below hS
 clear hS hB6
 go_simp
 refine (c94 _ _ _).mono ?_
 rintro e w' ⟨rfl, rfl⟩
 refine hK _ _ hC ?_
 clear hK K
 try simp only [Act.put, List.setIfInBounds_toArray, List.set_cons_zero, List.set_cons_succ]
 refine wpPlanA_hard _ rfl (by rfl) (fun w8 hS K hK => ?_)
 have hB8 := hB7.call hS rfl
 replace hC := hC.call hS rfl
 replace hT0 := blkb hT0 hS
 replace H := H.below hS
 clear hS hB7
 go_simp
 refine (c113 A n cap l _ _ _ hl H).mono ?_
 rintro e w9 ⟨rfl, hb⟩
 have hB9 := hB8.call hb rfl
 replace hC := hC.call hb rfl
 replace hT0 := blkb hT0 hb
 replace H := H.below hb
 clear hb hB8
 refine hK _ _ hC ?_
 clear hK K
 try simp only [Act.put, List.setIfInBounds_toArray, List.set_cons_zero, List.set_cons_succ]
 refine wpPlanA_hard _ rfl (by rfl) (fun w10 hS K hK => ?_)
 have hB10 := hB9.call hS rfl
 replace hC := hC.call hS rfl
 replace hT0 := blkb hT0 hS
 replace H := H.below hS
 clear hS hB9
 go_simp
 have hb : Below w10.heap.size w10 (w10.alloc (Obj.cells #[.int .i64 (Mo.when ((n : Int) != c * r) 2), .int .i64 (Mo.allw l 1 100)] 32)) := (Below.refl _ _).alloc (Nat.le_refl _) _
 have k1 : (w10.alloc (Obj.cells #[.int .i64 (Mo.when ((n : Int) != c * r) 2), .int .i64 (Mo.allw l 1 100)] 32)).heap[w10.heap.size]? = some (Obj.cells #[.int .i64 (Mo.when ((n : Int) != c * r) 2), .int .i64 (Mo.allw l 1 100)] 32) := heap_new rfl
 refine hK _ _ (hC.alloc hC.size _) ?_
 clear hK K
 replace hC := hC.call hb rfl
 have hB11 := hB10.call hb rfl
 replace hT0 := blkb hT0 hb
 replace H := H.below hb
 clear hb hB10
 generalize hWn : w10.alloc (Obj.cells #[.int .i64 (Mo.when ((n : Int) != c * r) 2), .int .i64 (Mo.allw l 1 100)] 32) = w11 at k1 hC hB11 hT0 H ⊢
 clear hWn
 generalize hWn : w10.heap.size = bk1 at k1 ⊢
 clear hWn
 try simp only [Act.put, List.setIfInBounds_toArray, List.set_cons_zero, List.set_cons_succ]
 refine wpPlanA_hard _ rfl (by rfl) (fun w12 hS K hK => ?_)
 have hB12 := hB11.call hS rfl
 replace hC := hC.call hS rfl
 replace hT0 := blkb hT0 hS
 replace H := H.below hS
 replace k1 := blkb k1 hS
 clear hS hB11
 go_simp
 refine (c89 _ 2 2 [Mo.when ((n : Int) != c * r) 2, Mo.allw l 1 100] _ rfl (by omega) (RdS.of_block (cs := encI [Mo.when ((n : Int) != c * r) 2, Mo.allw l 1 100]) k1 rfl)).mono ?_
 rintro e w' ⟨rfl, rfl⟩
 refine hK _ _ hC ?_
 clear hK K
 try simp only [Act.put, List.setIfInBounds_toArray, List.set_cons_zero, List.set_cons_succ]
 repeat (first | (refine wpPlanA_skip _ rfl (by rfl) ?_; simp only [Act.put, List.setIfInBounds_toArray, List.set_cons_zero, List.set_cons_succ]) | (refine wpPlanA_soft _ ?_ rfl (by rfl) ?_ ?_; rotate_left; (intro wq hq hcq; go_simp; first | exact rfl | exact ⟨rfl, rfl⟩); simp only [Act.put, List.setIfInBounds_toArray, List.set_cons_zero, List.set_cons_succ]))
 clear k1
 clear qhT0_0 qhT0_1 qhT0_2
 refine wpPlanA_nil (fun w13 hS => ?_)
 clear hC zhT0
 have hB13 := hB12.call hS rfl
 replace hT0 := blkb hT0 hS
 replace H := H.below hS
 clear hS hB12
 have qhT0_0 : w13.cell? ⟨w.heap.size, 0, none⟩ = some (.int .i64 c) := cell_at hT0 rfl
 have qhT0_1 : w13.cell? ⟨w.heap.size, 1, none⟩ = some (.int .i64 r) := cell_at hT0 rfl
 have qhT0_2 : w13.cell? ⟨w.heap.size, 2, none⟩ = some (.slice A n cap) := cell_at hT0 rfl
 go_wp2
 go_ret
 exact ⟨ret_int HR.out.symm, hB13⟩
theorem c65 (c r : Int) (A : Option Addr) (n cap : Nat) (l : List Int) (w : World) (hl : n ≤ 1000000) (H : RdI w A n l) :
  Calls Tryz.prog 65 #[.agg #[.int .i64 c, .int .i64 r, .slice A n cap]] w fun en w' => en = .returned (.int .i64 (Mo.ground c r l)) ∧ Below w.heap.size w w' := by
 obtain ⟨w0, hW⟩ : ∃ W, W = w.alloc (Obj.cells #[.int .i64 c, .int .i64 r, .slice A n cap] 24) := ⟨_, rfl⟩
 have hT0 : w0.heap[w.heap.size]? = some (.cells #[.int .i64 c, .int .i64 r, .slice A n cap] 24 (0, 0)) := by rw [hW]; exact heap_new (by simp)
 have hB0 : Below w.heap.size w w0 := by rw [hW]; exact ((Below.refl _ _).alloc (by first | omega | (simp <;> omega)) _)
 replace H := H.below hB0
 go_enter Tryz.func65, Tryz.ntmps65
 go_wp2_with fail
 rw [← hW]
 clear hW
 have qhT0_0 : w0.cell? ⟨w.heap.size, 0, none⟩ = some (.int .i64 c) := cell_at hT0 rfl
 have qhT0_1 : w0.cell? ⟨w.heap.size, 1, none⟩ = some (.int .i64 r) := cell_at hT0 rfl
 have qhT0_2 : w0.cell? ⟨w.heap.size, 2, none⟩ = some (.slice A n cap) := cell_at hT0 rfl
 refine wp_region_plan [(0, true), (1, true), (3, true), (4, true), (2, false), (5, false), (6, false), (7, false), (8, true)] w0.heap.size (by kernel_rfl) (by kernel_rfl) (Nat.le_refl _) (fun _ _ d _ _ h => by cases d <;> exact h) ?_
 have hC : Below w0.heap.size w0 w0 := Below.refl _ _
 have zhT0 : w.heap.size < w0.heap.size := (Array.getElem?_eq_some_iff.1 hT0).1
 repeat (first | (refine wpPlanA_skip _ rfl (by rfl) ?_; simp only [Act.put, List.setIfInBounds_toArray, List.set_cons_zero, List.set_cons_succ]) | (refine wpPlanA_soft _ ?_ rfl (by rfl) ?_ ?_; rotate_left; (intro wq hq hcq; go_simp; first | exact rfl | exact ⟨rfl, rfl⟩); simp only [Act.put, List.setIfInBounds_toArray, List.set_cons_zero, List.set_cons_succ]))
 refine wpPlanA_hard _ rfl (by rfl) (fun w1 hS K hK => ?_)
 have hB1 := hB0.call hS rfl
 replace hC := hC.call hS rfl
 replace hT0 := blkb hT0 hS
 replace H := H.below hS
 clear hS hB0
 go_simp
 refine (c42 _ _ _ _).mono ?_
 rintro e w' ⟨rfl, rfl⟩
 refine hK _ _ hC ?_
 clear hK K
 try simp only [Act.put, List.setIfInBounds_toArray, List.set_cons_zero, List.set_cons_succ]
 refine wpPlanA_hard _ rfl (by rfl) (fun w2 hS K hK => ?_)
 have hB2 := hB1.call hS rfl
 replace hC := hC.call hS rfl
 replace hT0 := blkb hT0 hS
 replace H := H.below hS
 clear hS hB1
 go_simp
 refine (c42 _ _ _ _).mono ?_
 rintro e w' ⟨rfl, rfl⟩
 refine hK _ _ hC ?_
 clear hK K
 try simp only [Act.put, List.setIfInBounds_toArray, List.set_cons_zero, List.set_cons_succ]
 refine wpPlanA_hard _ rfl (by rfl) (fun w3 hS K hK => ?_)
 have hB3 := hB2.call hS rfl
 replace hC := hC.call hS rfl
 replace hT0 := blkb hT0 hS
 replace H := H.below hS
 clear hS hB2
 go_simp
 have hb : Below w3.heap.size w3 (w3.alloc (Obj.cells #[.int .i64 (Mo.range c 1 16), .int .i64 (Mo.range r 1 16)] 3)) := (Below.refl _ _).alloc (Nat.le_refl _) _
 have k1 : (w3.alloc (Obj.cells #[.int .i64 (Mo.range c 1 16), .int .i64 (Mo.range r 1 16)] 3)).heap[w3.heap.size]? = some (Obj.cells #[.int .i64 (Mo.range c 1 16), .int .i64 (Mo.range r 1 16)] 3) := heap_new rfl
 refine hK _ _ (hC.alloc hC.size _) ?_
 clear hK K
 replace hC := hC.call hb rfl
 have hB4 := hB3.call hb rfl
 replace hT0 := blkb hT0 hb
 replace H := H.below hb
 clear hb hB3
 generalize hWn : w3.alloc (Obj.cells #[.int .i64 (Mo.range c 1 16), .int .i64 (Mo.range r 1 16)] 3) = w4 at k1 hC hB4 hT0 H ⊢
 clear hWn
 generalize hWn : w3.heap.size = bk1 at k1 ⊢
 clear hWn
 try simp only [Act.put, List.setIfInBounds_toArray, List.set_cons_zero, List.set_cons_succ]
 refine wpPlanA_hard _ rfl (by rfl) (fun w5 hS K hK => ?_)
 have hB5 := hB4.call hS rfl
 replace hC := hC.call hS rfl
 replace hT0 := blkb hT0 hS
 replace H := H.below hS
 replace k1 := blkb k1 hS
 clear hS hB4
 go_simp
 refine (c98 _ 2 2 [Mo.range c 1 16, Mo.range r 1 16] _ rfl (by omega) (RdS.of_block (cs := encI [Mo.range c 1 16, Mo.range r 1 16]) k1 rfl)).mono ?_
 rintro e w' ⟨rfl, rfl⟩
 refine hK _ _ hC ?_
 clear hK K
 try simp only [Act.put, List.setIfInBounds_toArray, List.set_cons_zero, List.set_cons_succ]
 repeat (first | (refine wpPlanA_skip _ rfl (by rfl) ?_; simp only [Act.put, List.setIfInBounds_toArray, List.set_cons_zero, List.set_cons_succ]) | (refine wpPlanA_soft _ ?_ rfl (by rfl) ?_ ?_; rotate_left; (intro wq hq hcq; go_simp; first | exact rfl | exact ⟨rfl, rfl⟩); simp only [Act.put, List.setIfInBounds_toArray, List.set_cons_zero, List.set_cons_succ]))
 clear k1
 clear qhT0_0 qhT0_1 qhT0_2
 refine wpPlanA_nil (fun w6 hS => ?_)
 clear hC zhT0
 have hB6 := hB5.call hS rfl
 replace hT0 := blkb hT0 hS
 replace H := H.below hS
 clear hS hB5
 have qhT0_0 : w6.cell? ⟨w.heap.size, 0, none⟩ = some (.int .i64 c) := cell_at hT0 rfl
 have qhT0_1 : w6.cell? ⟨w.heap.size, 1, none⟩ = some (.int .i64 r) := cell_at hT0 rfl
 have qhT0_2 : w6.cell? ⟨w.heap.size, 2, none⟩ = some (.slice A n cap) := cell_at hT0 rfl
 have hs0 : Mo.first [Mo.range c 1 16, Mo.range r 1 16] = Mo.sides c r := rfl
 rw [hs0]
 clear hs0
 by_cases hS : Mo.sides c r = 0
 rotate_left
 ·
   have hf : (Mo.sides c r != 0) = true := by simpa using hS
   go_wp2
   go_ret
   exact ⟨ret_int (by unfold Mo.ground; rw [Mo.first_nz hS]), hB6⟩
 have hm := Mo.side_mul hS
 have hsd := Mo.sides_ok hS
 have hw : IntKind.i64.wrap (c * r) = c * r := wrapI (by omega)
 have hf : (Mo.sides c r != 0) = false := by simpa using hS
 have hn := H.len
 have HR := Lib.hid (show Mo.ground c r l = Mo.first [Mo.when ((n : Int) != c * r) 2, Mo.allw l 1 100] by unfold Mo.ground; rw [Mo.first_z hS, hn])
 clear hn
 generalize Mo.sides c r = E at hS hf ⊢
 by_cases hL : (n : Int) = c * r
 rotate_left
 ·
   have hf2 : ((n : Int) != c * r) = true := by simpa using hL
   clear hL
   go_wp2
   go_ret
   exact ⟨ret_int (by rw [HR.out, hf2]; rfl), hB6⟩
 have hf2 : ((n : Int) != c * r) = false := by simpa using hL
 rw [hf2, show Mo.when false 2 = 0 from rfl, Mo.first_z rfl] at HR
 clear hL
 go_wp2_with fail
 refine (c92 A n cap l _ _ _ hl H).mono ?_
 rintro e w' ⟨rfl, rfl⟩
 go_wp2
 go_ret
 exact ⟨ret_int (by rw [HR.out, Mo.first_cons]; split <;> simp_all [Mo.first]), hB6⟩
end Go.Proofs.YtdimmlljjmmdbaaGreatDoor
/- Plain laws of chapter 07: costs, times. No program in sight. -/
namespace Im
/-- the element at i, 0 beyond -/
def at0 (l : List Int) (i : Nat) : Int := l.getD i 0
def ap (a b : Nat) : Nat := max (a - b) (b - a)
/-- the cost of two cells, 0 if they are no neighbours -/
def cost (c : Nat) (l : List Int) (a b : Nat) : Int :=
 if a = b ∨ 1 < ap (a % c) (b % c) ∨ 1 < ap (a / c) (b / c) then 0
 else if ap (a % c) (b % c) = 1 ∧ ap (a / c) (b / c) = 1 then 3 * (at0 l a + at0 l b) else 2 * (at0 l a + at0 l b)
structure Gr (c r : Nat) (l : List Int) : Prop where
 c1 : 1 ≤ c
 r1 : 1 ≤ r
 len : l.length = c * r
 lo : ∀ i, i < l.length → 1 ≤ at0 l i
 hi : ∀ i, i < l.length → at0 l i ≤ 100
theorem ap_comm (a b : Nat) : ap a b = ap b a := by unfold ap; omega
theorem cost_comm (c : Nat) (l : List Int) (a b : Nat) : cost c l a b = cost c l b a := by
 unfold cost
 rw [ap_comm (a % c), ap_comm (a / c), Int.add_comm (at0 l a)]
 by_cases h : a = b
 ·simp [h]
 ·have h' : ¬ b = a := fun e => h e.symm
  simp only [h, h', false_or]
theorem cost_le {c r : Nat} {l : List Int} (g : Gr c r l) {a b : Nat} (ha : a < l.length) (hb : b < l.length) : cost c l a b ≤ 600 := by
 have := g.hi a ha; have := g.hi b hb
 unfold cost; split
 ·omega
 ·split <;> omega
theorem cost_pos {c r : Nat} {l : List Int} (g : Gr c r l) {a b : Nat} (ha : a < l.length) (hb : b < l.length) :
  0 < cost c l a b ↔ a ≠ b ∧ ap (a % c) (b % c) ≤ 1 ∧ ap (a / c) (b / c) ≤ 1 := by
 have := g.lo a ha; have := g.lo b hb
 unfold cost; split
 ·omega
 ·split <;> omega
/-- potentials that prove themselves -/
def Feas (c : Nat) (l : List Int) (u : List Int) : Prop := ∀ a b, a < l.length → b < l.length → 0 < cost c l a b → at0 u b ≤ at0 u a + cost c l a b
structure IsT (c : Nat) (l : List Int) (s : Nat) (t : List Int) : Prop where
 len : t.length = l.length
 src : at0 t s = 0
 nn : ∀ b, b < l.length → 0 ≤ at0 t b
 feas : Feas c l t
 tight : ∀ b, b < l.length → b ≠ s → ∃ a, a < l.length ∧ 0 < cost c l a b ∧ at0 t b = at0 t a + cost c l a b
/-- what potentials prove is no more than the time -/
theorem IsT.pot {c : Nat} {l : List Int} {s : Nat} {t u : List Int} (h : IsT c l s t) (hu : Feas c l u) : ∀ b, b < l.length → at0 u b ≤ at0 u s + at0 t b := by
 have key : ∀ k : Nat, ∀ b, b < l.length → (at0 t b).toNat = k → at0 u b ≤ at0 u s + at0 t b := by
  intro k
  induction k using Nat.strongRecOn with
  | _ k ih =>
   intro b hb hk
   by_cases hs : b = s
   ·subst hs; rw [h.src]; omega
   ·obtain ⟨a, ha, hc, ht⟩ := h.tight b hb hs
    have hn := h.nn a ha
    have h1 := ih (at0 t a).toNat (by omega) a ha rfl
    have h2 := hu a b ha hb hc
    omega
 exact fun b hb => key _ b hb rfl
theorem ext_at0 {t u : List Int} (hl : t.length = u.length) (h : ∀ i, i < t.length → at0 t i = at0 u i) : t = u := by
 apply List.ext_getElem hl
 intro i h1 h2
 have := h i h1
 simp only [at0, List.getD_eq_getElem?_getD, List.getElem?_eq_getElem h1, List.getElem?_eq_getElem h2, Option.getD_some] at this
 exact this
theorem IsT.unique {c : Nat} {l : List Int} {s : Nat} {t u : List Int} (h : IsT c l s t) (h' : IsT c l s u) : t = u := by
 refine ext_at0 (by rw [h.len, h'.len]) fun i hi => ?_
 have hi' : i < l.length := by rw [← h.len]; exact hi
 have h1 := h.pot h'.feas i hi'
 have h2 := h'.pot h.feas i hi'
 rw [h'.src] at h1; rw [h.src] at h2
 omega
/-- the least times are below the number of steps times the greatest cost: what is feasible, is bounded -/
def gap (c : Nat) (a b : Nat) : Nat := max (ap (a % c) (b % c)) (ap (a / c) (b / c))
theorem cell_mk {c r x y : Nat} (hx : x < c) (hy : y < r) : y * c + x < c * r ∧ (y * c + x) % c = x ∧ (y * c + x) / c = y := by
 refine ⟨?_, ?_, ?_⟩
 ·have : y * c + c ≤ r * c := by rw [← Nat.succ_mul]; exact Nat.mul_le_mul_right c hy
  rw [Nat.mul_comm c r]; omega
 ·rw [Nat.mul_comm, Nat.mul_add_mod, Nat.mod_eq_of_lt hx]
 ·rw [Nat.mul_comm, Nat.mul_add_div (by omega), Nat.div_eq_of_lt hx, Nat.add_zero]
theorem cell_eq {c a b : Nat} (h1 : a % c = b % c) (h2 : a / c = b / c) : a = b := by
 rw [← Nat.div_add_mod a c, ← Nat.div_add_mod b c, h1, h2]
/-- a step towards s -/
def toward (x s : Nat) : Nat := if x < s then x + 1 else if s < x then x - 1 else x
theorem toward_ap (x s : Nat) : ap x (toward x s) ≤ 1 ∧ ap (toward x s) s = ap x s - 1 ∧ (x ≠ s → toward x s ≠ x) ∧ (toward x s ≤ max x s) := by
 unfold toward ap; split
 ·omega
 ·split <;> omega
theorem gap_step {x s x' : Nat} {y t y' k : Nat} (h1 : ap x' s = ap x s - 1) (h2 : ap y' t = ap y t - 1) (h : max (ap x s) (ap y t) = k + 1) : max (ap x' s) (ap y' t) = k := by omega
theorem feas_bound {c r : Nat} {l u : List Int} (g : Gr c r l) (hu : Feas c l u) {s : Nat} (hs : s < l.length) : ∀ (k b : Nat), b < l.length → gap c b s = k → at0 u b ≤ at0 u s + 600 * k := by
 intro k
 induction k with
 | zero =>
  intro b hb hk
  have : b = s := by
   unfold gap ap at hk
   exact cell_eq (c := c) (by omega) (by omega)
  subst this; omega
 | succ k ih =>
  intro b hb hk
  have hc := g.c1
  have hcr := g.len
  have bx := Nat.mod_lt b hc
  have sx := Nat.mod_lt s hc
  have by' : b / c < r := by rw [Nat.div_lt_iff_lt_mul hc, Nat.mul_comm, ← hcr]; exact hb
  have sy : s / c < r := by rw [Nat.div_lt_iff_lt_mul hc, Nat.mul_comm, ← hcr]; exact hs
  obtain ⟨x1, x2, x3, x4⟩ := toward_ap (b % c) (s % c)
  obtain ⟨y1, y2, y3, y4⟩ := toward_ap (b / c) (s / c)
  have hx : toward (b % c) (s % c) < c := by omega
  have hy : toward (b / c) (s / c) < r := by omega
  obtain ⟨e1, e2, e3⟩ := cell_mk hx hy
  generalize toward (b / c) (s / c) * c + toward (b % c) (s % c) = m at e1 e2 e3
  have hm : m < l.length := by omega
  have hg : gap c m s = k := by unfold gap at hk ⊢; rw [e2, e3]; exact gap_step x2 y2 hk
  have hne : m ≠ b := by
   intro e; subst e
   unfold gap ap at hk
   by_cases hxx : m % c = s % c
   ·exact y3 (by omega) e3.symm
   ·exact x3 hxx e2.symm
  have hp : 0 < cost c l m b := (cost_pos g hm hb).2 ⟨hne, by rw [e2, ap_comm]; exact x1, by rw [e3, ap_comm]; exact y1⟩
  have h1 := hu m b hm hb hp
  have h2 := ih m hm hg
  have h3 := cost_le g hm hb
  omega
theorem gap_lt {c r : Nat} {l : List Int} (g : Gr c r l) {a b : Nat} (ha : a < l.length) (hb : b < l.length) : gap c a b < c + r := by
 have hc := g.c1
 have ax := Nat.mod_lt a hc
 have bx := Nat.mod_lt b hc
 have ay : a / c < r := by rw [Nat.div_lt_iff_lt_mul hc, Nat.mul_comm, ← g.len]; exact ha
 have by' : b / c < r := by rw [Nat.div_lt_iff_lt_mul hc, Nat.mul_comm, ← g.len]; exact hb
 have key : ∀ x y z v : Nat, x < c → y < c → z < r → v < r → max (max (x - y) (y - x)) (max (z - v) (v - z)) < c + r := by omega
 exact key _ _ _ _ ax bx ay by'
/-- the times -/
noncomputable def times (c : Nat) (l : List Int) (s : Nat) : List Int := by
 classical exact if h : ∃ t, IsT c l s t then h.choose else []
theorem times_eq {c : Nat} {l : List Int} {s : Nat} {t : List Int} (h : IsT c l s t) : times c l s = t := by
 unfold times
 have hx : ∃ t, IsT c l s t := ⟨t, h⟩
 rw [dif_pos hx]
 exact hx.choose_spec.unique h
theorem at0_set (l : List Int) (i j : Nat) (x : Int) (hi : i < l.length) : at0 (l.set i x) j = if j = i then x else at0 l j := by
 simp only [at0, List.getD_eq_getElem?_getD, List.getElem?_set]
 by_cases h : i = j
 ·subst h; simp [hi]
 ·have h' : ¬ j = i := fun e => h e.symm
  simp [h, h']
end Im
/- Plain laws of chapter 07: neighbours, and the program's way to the times. -/
namespace Im
def stps : List (Int × Int) := [(-1,-1), (0,-1), (1,-1), (-1,0), (1,0), (-1,1), (0,1), (1,1)]
def fac (d : Int × Int) : Int := if d.1 = 0 ∨ d.2 = 0 then 2 else 3
/-- the neighbour behind a step, with its cost -/
def nb1 (c r : Nat) (l : List Int) (i : Nat) (d : Int × Int) : Option (Nat × Int) :=
 if (i % c : Nat) + d.1 < 0 ∨ (c : Int) ≤ (i % c : Nat) + d.1 ∨ (i / c : Nat) + d.2 < 0 ∨ (r : Int) ≤ (i / c : Nat) + d.2 then none
 else some ((((i / c : Nat) + d.2) * c + ((i % c : Nat) + d.1)).toNat, fac d * (at0 l i + at0 l (((i / c : Nat) + d.2) * c + ((i % c : Nat) + d.1)).toNat))
def nbs (c r : Nat) (l : List Int) (i : Nat) : List (Nat × Int) := stps.filterMap (nb1 c r l i)
theorem nbs_len (c r : Nat) (l : List Int) (i : Nat) : (nbs c r l i).length ≤ 8 := List.length_filterMap_le _ _
/-- a step that stays inside leads to a cell -/
theorem nb1_some {c r : Nat} {l : List Int} (g : Gr c r l) {i : Nat} {d : Int × Int} {k : Nat} {n : Int} (hd : d ∈ stps) (hi : i < l.length) (h : nb1 c r l i d = some (k, n)) :
  k < l.length ∧ ((k % c : Nat) : Int) = (i % c : Nat) + d.1 ∧ ((k / c : Nat) : Int) = (i / c : Nat) + d.2 ∧ n = cost c l i k ∧ 0 < cost c l i k := by
 unfold nb1 at h
 split at h
 ·cases h
 rename_i hn
 simp only [Option.some.injEq, Prod.mk.injEq] at h
 obtain ⟨h1, h2⟩ := h
 have hc := g.c1
 obtain ⟨x, hx⟩ : ∃ x : Nat, (x : Int) = (i % c : Nat) + d.1 := ⟨((i % c : Nat) + d.1).toNat, by omega⟩
 obtain ⟨y, hy⟩ : ∃ y : Nat, (y : Int) = (i / c : Nat) + d.2 := ⟨((i / c : Nat) + d.2).toNat, by omega⟩
 rw [← hx, ← hy] at h1 h2 hn
 have hk : k = y * c + x := by
  rw [← h1]
  have : (y : Int) * c + x = ((y * c + x : Nat) : Int) := by simp
  rw [this]; rfl
 obtain ⟨e1, e2, e3⟩ := cell_mk (c := c) (r := r) (x := x) (y := y) (by omega) (by omega)
 rw [← hk] at e1 e2 e3
 rw [h1] at h2
 have hkl : k < l.length := by rw [g.len]; exact e1
 have hb : ap (i % c) (k % c) ≤ 1 ∧ ap (i / c) (k / c) ≤ 1 ∧ i ≠ k ∧ n = cost c l i k := by
  have key : ∀ (dx dy : Int), d = (dx, dy) → -1 ≤ dx → dx ≤ 1 → -1 ≤ dy → dy ≤ 1 → (dx ≠ 0 ∨ dy ≠ 0) → ap (i % c) (k % c) ≤ 1 ∧ ap (i / c) (k / c) ≤ 1 ∧ i ≠ k ∧ n = cost c l i k := by
   intro dx dy hdd a1 a2 a3 a4 a5
   subst hdd
   simp only at hx hy
   have hne : i ≠ k := by
    intro e
    have qa : i % c = x := by rw [e]; exact e2
    have qb : i / c = y := by rw [e]; exact e3
    omega
   have q1 : ap (i % c) (k % c) ≤ 1 := by unfold ap; omega
   have q2 : ap (i / c) (k / c) ≤ 1 := by unfold ap; omega
   refine ⟨q1, q2, hne, ?_⟩
   rw [← h2]
   symm
   unfold cost
   rw [if_neg (by omega)]
   unfold ap at q1 q2 ⊢
   by_cases hz : dx = 0 ∨ dy = 0
   ·have hf : fac (dx, dy) = 2 := if_pos hz
    rw [if_neg (by omega), hf]
   ·have hf : fac (dx, dy) = 3 := if_neg hz
    rw [if_pos (by omega), hf]
  simp only [stps, List.mem_cons, List.mem_nil_iff, or_false] at hd
  rcases hd with rfl | rfl | rfl | rfl | rfl | rfl | rfl | rfl <;> exact key _ _ rfl (by decide) (by decide) (by decide) (by decide) (by decide)
 refine ⟨hkl, by rw [e2]; exact hx, by rw [e3]; exact hy, hb.2.2.2, (cost_pos g hi hkl).2 ⟨hb.2.2.1, hb.1, hb.2.1⟩⟩
theorem nbs_mem {c r : Nat} {l : List Int} (g : Gr c r l) {i : Nat} (hi : i < l.length) {k : Nat} {n : Int} :
  (k, n) ∈ nbs c r l i ↔ k < l.length ∧ n = cost c l i k ∧ 0 < cost c l i k := by
 constructor
 ·intro h
  obtain ⟨d, hd, h1⟩ := List.mem_filterMap.1 h
  obtain ⟨a, _, _, b, e⟩ := nb1_some g hd hi h1
  exact ⟨a, b, e⟩
 ·rintro ⟨hk, hn, hp⟩
  obtain ⟨hne, h1, h2⟩ := (cost_pos g hi hk).1 hp
  have hc := g.c1
  have kx := Nat.mod_lt k hc
  have ky : k / c < r := by rw [Nat.div_lt_iff_lt_mul hc, Nat.mul_comm, ← g.len]; exact hk
  have hd : ((((k % c : Nat) : Int) - (i % c : Nat)), (((k / c : Nat) : Int) - (i / c : Nat))) ∈ stps := by
   have hne2 : ¬ (i % c = k % c ∧ i / c = k / c) := fun e => hne (cell_eq e.1 e.2)
   generalize i % c = ix at *
   generalize i / c = iy at *
   generalize k % c = kxx at *
   generalize k / c = kyy at *
   unfold ap at h1 h2
   have a1 : (kxx : Int) - ix = -1 ∨ (kxx : Int) - ix = 0 ∨ (kxx : Int) - ix = 1 := by omega
   have a2 : (kyy : Int) - iy = -1 ∨ (kyy : Int) - iy = 0 ∨ (kyy : Int) - iy = 1 := by omega
   rcases a1 with e | e | e <;> rcases a2 with f | f | f <;> rw [e, f] <;> first | decide | (exfalso; omega)
  refine List.mem_filterMap.2 ⟨_, hd, ?_⟩
  have hs : ∃ q, nb1 c r l i ((((k % c : Nat) : Int) - (i % c : Nat)), (((k / c : Nat) : Int) - (i / c : Nat))) = some q := by
   unfold nb1
   have key : ∀ a b x y : Nat, x < c → y < r → ¬ ((a : Int) + ((x : Int) - a) < 0 ∨ (c : Int) ≤ (a : Int) + ((x : Int) - a) ∨ (b : Int) + ((y : Int) - b) < 0 ∨ (r : Int) ≤ (b : Int) + ((y : Int) - b)) := by omega
   rw [if_neg (key _ _ _ _ kx ky)]
   exact ⟨_, rfl⟩
  obtain ⟨⟨k', n'⟩, hq⟩ := hs
  obtain ⟨b1, b2, b3, b4, b5⟩ := nb1_some g hd hi hq
  have : k' = k := cell_eq (c := c) (by omega) (by omega)
  subst this
  rw [hq, hn, b4]
theorem nbs_asc {c r : Nat} {l : List Int} (g : Gr c r l) {i : Nat} (hi : i < l.length) : (nbs c r l i).Pairwise (fun a b => a.1 < b.1) := by
 unfold nbs
 have hp : stps.Pairwise (fun a b : Int × Int => a ∈ stps ∧ b ∈ stps ∧ (a.2 < b.2 ∨ a.2 = b.2 ∧ a.1 < b.1)) := by decide
 refine List.Pairwise.filterMap _ ?_ hp
 rintro a b ⟨ha, hb, hab⟩ ⟨k, n⟩ hk ⟨k', n'⟩ hk'
 obtain ⟨a1, a2, a3, _, _⟩ := nb1_some g ha hi hk
 obtain ⟨b1, b2, b3, _, _⟩ := nb1_some g hb hi hk'
 have hc := g.c1
 show k < k'
 have e1 := Nat.div_add_mod k c
 have e2 := Nat.div_add_mod k' c
 have m1 := Nat.mod_lt k hc
 rcases hab with h | ⟨h1, h2⟩
 ·have : k / c + 1 ≤ k' / c := by omega
  have := Nat.mul_le_mul_left c this
  rw [Nat.mul_add] at this
  omega
 ·have : k / c = k' / c := by omega
  rw [this] at e1
  omega
/-- the order of waiting cells -/
def lt2 (x y : Nat × Int) : Bool := decide (x.2 < y.2 ∨ x.2 = y.2 ∧ x.1 < y.1)
def place (w : List (Nat × Int)) (y : Nat × Int) : Nat := w.countP (fun x => lt2 x y)
def put (w : List (Nat × Int)) (y : Nat × Int) : List (Nat × Int) := w.take (place w y) ++ y :: w.drop (place w y)
def Srt (w : List (Nat × Int)) : Prop := w.Pairwise (fun x y => lt2 y x = false)
theorem lt2_mono {x y z : Nat × Int} (h : lt2 y x = false) (h2 : lt2 y z = true) : lt2 x z = true := by
 simp only [lt2, decide_eq_false_iff_not, decide_eq_true_eq] at *; omega
theorem place_le (w : List (Nat × Int)) (y : Nat × Int) : place w y ≤ w.length := List.countP_le_length
theorem place_cons_lt {a y : Nat × Int} {w : List (Nat × Int)} (h : lt2 a y = true) : place (a :: w) y = place w y + 1 := by simp [place, h]
theorem place_cons_ge {a y : Nat × Int} {w : List (Nat × Int)} (hs : Srt (a :: w)) (h : lt2 a y = false) : place (a :: w) y = 0 := by
 simp only [place, List.countP_eq_zero]
 intro x hx
 rcases List.mem_cons.1 hx with rfl | hx
 ·simp [h]
 ·cases h2 : lt2 x y
  ·simp
  ·have := lt2_mono (List.rel_of_pairwise_cons hs hx) h2
   rw [h] at this; cases this
theorem put_mem {w : List (Nat × Int)} {y x : Nat × Int} : x ∈ put w y ↔ x = y ∨ x ∈ w := by
 unfold put
 rw [List.mem_append, List.mem_cons]
 have := List.take_append_drop (place w y) w
 constructor
 ·rintro (h | h | h)
  ·exact .inr (List.mem_of_mem_take h)
  ·exact .inl h
  ·exact .inr (List.mem_of_mem_drop h)
 ·rintro (h | h)
  ·exact .inr (.inl h)
  ·rw [← this] at h
   rcases List.mem_append.1 h with h | h
   ·exact .inl h
   ·exact .inr (.inr h)
theorem put_len (w : List (Nat × Int)) (y : Nat × Int) : (put w y).length = w.length + 1 := by
 have := place_le w y
 simp [put]; omega
theorem put_srt {y : Nat × Int} : ∀ {w : List (Nat × Int)}, Srt w → Srt (put w y)
 | [], _ => by simp [put, Srt, place]
 | a :: w, h => by
  cases h2 : lt2 a y
  ·unfold put
   rw [place_cons_ge h h2]
   simp only [List.take_zero, List.drop_zero, List.nil_append]
   refine List.pairwise_cons.2 ⟨?_, h⟩
   intro x hx
   rcases List.mem_cons.1 hx with rfl | hx
   ·exact h2
   ·cases h3 : lt2 x y
    ·rfl
    ·have := lt2_mono (List.rel_of_pairwise_cons h hx) h3
     rw [h2] at this; cases this
  ·have ih := put_srt (y := y) (List.Pairwise.of_cons h)
   unfold put at ih ⊢
   rw [place_cons_lt h2]
   simp only [List.take_succ_cons, List.drop_succ_cons, List.cons_append]
   refine List.pairwise_cons.2 ⟨?_, ih⟩
   intro x hx
   have hx' : x ∈ put w y := hx
   rcases put_mem.1 hx' with rfl | hx'
   ·simp only [lt2, decide_eq_false_iff_not, decide_eq_true_eq] at *; omega
   ·exact List.rel_of_pairwise_cons h hx'
/-- what holds in the program's rounds; E a b: the edge from a to b is dealt with -/
structure Dij (c : Nat) (l : List Int) (s : Nat) (out : List Int) (w : List (Nat × Int)) (E : Nat → Nat → Prop) : Prop where
 len : out.length = l.length
 val : ∀ b, b < l.length → -1 ≤ at0 out b
 ent : ∀ e, e ∈ w → e.1 < l.length ∧ 0 ≤ e.2 ∧ (e.1 = s ∨ ∃ a, a < l.length ∧ 0 ≤ at0 out a ∧ 0 < cost c l a e.1 ∧ e.2 = at0 out a + cost c l a e.1)
 mono : ∀ b e, b < l.length → e ∈ w → at0 out b ≤ e.2
 src : 0 ≤ at0 out s → at0 out s = 0
 tight : ∀ b, b < l.length → b ≠ s → 0 ≤ at0 out b → ∃ a, a < l.length ∧ 0 ≤ at0 out a ∧ 0 < cost c l a b ∧ at0 out b = at0 out a + cost c l a b
 edge : ∀ a b, a < l.length → b < l.length → 0 ≤ at0 out a → 0 < cost c l a b → E a b → (0 ≤ at0 out b ∧ at0 out b ≤ at0 out a + cost c l a b) ∨ ∃ e, e ∈ w ∧ e.1 = b ∧ e.2 ≤ at0 out a + cost c l a b
 beg : 0 ≤ at0 out s ∨ (s, 0) ∈ w
 srt : Srt w
theorem Dij.start {c : Nat} {l : List Int} {s : Nat} (hs : s < l.length) : Dij c l s (List.replicate l.length (-1)) [(s, 0)] (fun _ _ => True) := by
 have e : ∀ b, b < l.length → at0 (List.replicate l.length (-1 : Int)) b = -1 := fun b hb => by
  simp [at0, List.getD_eq_getElem?_getD, List.getElem?_replicate, hb]
 refine ⟨by simp, fun b hb => by rw [e b hb]; omega, ?_, ?_, ?_, ?_, ?_, .inr (by simp), by simp [Srt]⟩
 ·intro x hx; simp at hx; subst hx; exact ⟨hs, Int.le_refl _, .inl rfl⟩
 ·intro b x hb hx; simp at hx; subst hx; rw [e b hb]; simp
 ·intro h; rw [e s hs] at h; omega
 ·intro b hb _ h; rw [e b hb] at h; omega
 ·intro a b ha _ h; rw [e a ha] at h; omega
/-- a cell that is done already is struck -/
theorem Dij.skip {c : Nat} {l : List Int} {s : Nat} {out : List Int} {x : Nat × Int} {w : List (Nat × Int)} {E : Nat → Nat → Prop} (h : Dij c l s out (x :: w) E) (hd : 0 ≤ at0 out x.1) : Dij c l s out w E := by
 obtain ⟨h1, h2, h3, h4, h5, h6, h7, h8, h9⟩ := h
 refine ⟨h1, h2, fun e he => h3 e (List.mem_cons_of_mem _ he), fun b e hb he => h4 b e hb (List.mem_cons_of_mem _ he), h5, h6, ?_, ?_, List.Pairwise.of_cons h9⟩
 ·intro a b ha hb hda hc hE
  rcases h7 a b ha hb hda hc hE with h | ⟨e, he, e1, e2⟩
  ·exact .inl h
  ·rcases List.mem_cons.1 he with rfl | he
   ·subst e1
    exact .inl ⟨hd, Int.le_trans (h4 _ e hb List.mem_cons_self) e2⟩
   ·exact .inr ⟨e, he, e1, e2⟩
 ·rcases h8 with h | h
  ·exact .inl h
  ·rcases List.mem_cons.1 h with e | h
   ·rw [← e] at hd; exact .inl hd
   ·exact .inr h
/-- a cell is done -/
theorem Dij.take {c r : Nat} {l : List Int} {s : Nat} {out : List Int} {x : Nat × Int} {w : List (Nat × Int)} (g : Gr c r l) (hs : s < l.length) (h : Dij c l s out (x :: w) (fun _ _ => True)) (hd : at0 out x.1 < 0) :
  Dij c l s (out.set x.1 x.2) w (fun a _ => a ≠ x.1) ∧ (∀ b, b < l.length → at0 (out.set x.1 x.2) b ≤ x.2) ∧ at0 (out.set x.1 x.2) x.1 = x.2 ∧ x.1 < l.length ∧ 0 ≤ x.2 := by
 obtain ⟨h1, h2, h3, h4, h5, h6, h7, h8, h9⟩ := h
 obtain ⟨x1, x2, x3⟩ := h3 x List.mem_cons_self
 have hxo : x.1 < out.length := by rw [h1]; exact x1
 have S : ∀ j, at0 (out.set x.1 x.2) j = if j = x.1 then x.2 else at0 out j := fun j => at0_set _ _ _ _ hxo
 have head : ∀ e, e ∈ w → x.2 ≤ e.2 := fun e he => by
  have := List.rel_of_pairwise_cons h9 he
  simp only [lt2, decide_eq_false_iff_not] at this; omega
 have up : ∀ a, 0 ≤ at0 out a → a ≠ x.1 := fun a ha e => by subst e; omega
 have hx0 : x.1 = s → x.2 = 0 := by
  intro e
  rcases h8 with h | h
  ·rw [← e] at h; omega
  ·rcases List.mem_cons.1 h with e' | h
   ·rw [← e']
   ·have := head _ h
    simp only at this; omega
 refine ⟨⟨by rw [List.length_set, h1], ?_, ?_, ?_, ?_, ?_, ?_, ?_, List.Pairwise.of_cons h9⟩, ?_, by rw [S, if_pos rfl], x1, x2⟩
 ·intro b hb; rw [S]; split
  ·omega
  ·exact h2 b hb
 ·intro e he
  obtain ⟨e1, e2, e3⟩ := h3 e (List.mem_cons_of_mem _ he)
  refine ⟨e1, e2, ?_⟩
  rcases e3 with e3 | ⟨a, a1, a2, a3, a4⟩
  ·exact .inl e3
  ·exact .inr ⟨a, a1, by rw [S, if_neg (up a a2)]; exact a2, a3, by rw [S, if_neg (up a a2)]; exact a4⟩
 ·intro b e hb he
  rw [S]; split
  ·exact head e he
  ·exact h4 b e hb (List.mem_cons_of_mem _ he)
 ·intro _
  rw [S]; split
  ·rename_i e; exact hx0 e.symm
  ·rename_i e
   rename_i hh
   rw [S, if_neg e] at hh
   exact h5 hh
 ·intro b hb hbs hdb
  rw [S] at hdb ⊢
  by_cases e : b = x.1
  ·rw [if_pos e]
   subst e
   rcases x3 with e3 | ⟨a, a1, a2, a3, a4⟩
   ·exact absurd e3 hbs
   ·exact ⟨a, a1, by rw [S, if_neg (up a a2)]; exact a2, a3, by rw [S, if_neg (up a a2)]; exact a4⟩
  ·rw [if_neg e] at hdb ⊢
   obtain ⟨a, a1, a2, a3, a4⟩ := h6 b hb hbs hdb
   exact ⟨a, a1, by rw [S, if_neg (up a a2)]; exact a2, a3, by rw [S, if_neg (up a a2)]; exact a4⟩
 ·intro a b ha hb hda hc hE
  rw [S a, if_neg hE] at hda ⊢
  rw [S b]
  rcases h7 a b ha hb hda hc trivial with ⟨q1, q2⟩ | ⟨e, he, e1, e2⟩
  ·rw [if_neg (up b q1)]
   exact .inl ⟨q1, q2⟩
  ·rcases List.mem_cons.1 he with rfl | he
   ·subst e1
    rw [if_pos rfl]
    exact .inl ⟨x2, e2⟩
   ·exact .inr ⟨e, he, e1, e2⟩
 ·rw [S]
  by_cases e : s = x.1
  ·rw [if_pos e]; exact .inl x2
  ·rw [if_neg e]
   rcases h8 with h | h
   ·exact .inl h
   ·rcases List.mem_cons.1 h with e' | h
    ·exact absurd (by rw [← e']) e
    ·exact .inr h
 ·intro b hb
  rw [S]; split
  ·exact Int.le_refl _
  ·exact h4 b x hb List.mem_cons_self
/-- a neighbour that is done already -/
theorem Dij.pass {c r : Nat} {l : List Int} {s : Nat} {out : List Int} {w : List (Nat × Int)} {x b : Nat} {E : Nat → Nat → Prop} (g : Gr c r l) (hx : x < l.length) (hb : b < l.length)
  (h : Dij c l s out w E) (top : at0 out b ≤ at0 out x) (hd : 0 ≤ at0 out b) : Dij c l s out w (fun a k => E a k ∨ (a = x ∧ k = b)) := by
 obtain ⟨h1, h2, h3, h4, h5, h6, h7, h8, h9⟩ := h
 refine ⟨h1, h2, h3, h4, h5, h6, ?_, h8, h9⟩
 rintro a k ha hk hda hc (hE | ⟨rfl, rfl⟩)
 ·exact h7 a k ha hk hda hc hE
 ·exact .inl ⟨hd, by omega⟩
/-- a neighbour that is to be waited for -/
theorem Dij.push {c r : Nat} {l : List Int} {s : Nat} {out : List Int} {w : List (Nat × Int)} {x b : Nat} {E : Nat → Nat → Prop} (g : Gr c r l) (hx : x < l.length) (hb : b < l.length)
  (h : Dij c l s out w E) (top : ∀ b, b < l.length → at0 out b ≤ at0 out x) (hdx : 0 ≤ at0 out x) (hc0 : 0 < cost c l x b) :
  Dij c l s out (put w (b, at0 out x + cost c l x b)) (fun a k => E a k ∨ (a = x ∧ k = b)) := by
 obtain ⟨h1, h2, h3, h4, h5, h6, h7, h8, h9⟩ := h
 refine ⟨h1, h2, ?_, ?_, h5, h6, ?_, ?_, put_srt h9⟩
 ·intro e he
  rcases put_mem.1 he with rfl | he
  ·exact ⟨hb, by simp only; omega, .inr ⟨x, hx, hdx, hc0, rfl⟩⟩
  ·exact h3 e he
 ·intro k e hk he
  rcases put_mem.1 he with rfl | he
  ·have := top k hk; simp only; omega
  ·exact h4 k e hk he
 ·rintro a k ha hk hda hc (hE | ⟨rfl, rfl⟩)
  ·rcases h7 a k ha hk hda hc hE with q | ⟨e, he, e1, e2⟩
   ·exact .inl q
   ·exact .inr ⟨e, put_mem.2 (.inr he), e1, e2⟩
  ·exact .inr ⟨_, put_mem.2 (.inl rfl), rfl, Int.le_refl _⟩
 ·rcases h8 with h | h
  ·exact .inl h
  ·exact .inr (put_mem.2 (.inr h))
theorem Dij.weak {c : Nat} {l : List Int} {s : Nat} {out : List Int} {w : List (Nat × Int)} {E F : Nat → Nat → Prop} (h : Dij c l s out w E) (hEF : ∀ a b, a < l.length → b < l.length → 0 < cost c l a b → F a b → E a b) : Dij c l s out w F := by
 obtain ⟨h1, h2, h3, h4, h5, h6, h7, h8, h9⟩ := h
 exact ⟨h1, h2, h3, h4, h5, h6, fun a b ha hb hd hc hF => h7 a b ha hb hd hc (hEF a b ha hb hc hF), h8, h9⟩
/-- nothing waits: these are the times -/
theorem Dij.done {c r : Nat} {l : List Int} {s : Nat} {out : List Int} (g : Gr c r l) (hs : s < l.length) (h : Dij c l s out [] (fun _ _ => True)) : IsT c l s out := by
 obtain ⟨h1, h2, h3, h4, h5, h6, h7, h8, h9⟩ := h
 have hs0 : 0 ≤ at0 out s := by rcases h8 with h | h; exact h; cases h
 have nb : ∀ a b, a < l.length → b < l.length → 0 ≤ at0 out a → 0 < cost c l a b → 0 ≤ at0 out b ∧ at0 out b ≤ at0 out a + cost c l a b := by
  intro a b ha hb hda hc
  rcases h7 a b ha hb hda hc trivial with q | ⟨e, he, _⟩
  ·exact q
  ·cases he
 have all : ∀ k b, b < l.length → gap c b s = k → 0 ≤ at0 out b := by
  intro k
  induction k with
  | zero =>
   intro b hb hk
   have : b = s := by unfold gap ap at hk; exact cell_eq (c := c) (by omega) (by omega)
   subst this; exact hs0
  | succ k ih =>
   intro b hb hk
   have hc := g.c1
   have hcr := g.len
   have bx := Nat.mod_lt b hc
   have sx := Nat.mod_lt s hc
   have by' : b / c < r := by rw [Nat.div_lt_iff_lt_mul hc, Nat.mul_comm, ← hcr]; exact hb
   have sy : s / c < r := by rw [Nat.div_lt_iff_lt_mul hc, Nat.mul_comm, ← hcr]; exact hs
   obtain ⟨x1, x2, x3, x4⟩ := toward_ap (b % c) (s % c)
   obtain ⟨y1, y2, y3, y4⟩ := toward_ap (b / c) (s / c)
   have hx : toward (b % c) (s % c) < c := by omega
   have hy : toward (b / c) (s / c) < r := by omega
   obtain ⟨e1, e2, e3⟩ := cell_mk hx hy
   generalize toward (b / c) (s / c) * c + toward (b % c) (s % c) = m at e1 e2 e3
   have hm : m < l.length := by omega
   have hg : gap c m s = k := by unfold gap at hk ⊢; rw [e2, e3]; exact gap_step x2 y2 hk
   have hne : m ≠ b := by
    intro e; subst e
    unfold gap ap at hk
    by_cases hxx : m % c = s % c
    ·exact y3 (by omega) e3.symm
    ·exact x3 hxx e2.symm
   have hp : 0 < cost c l m b := (cost_pos g hm hb).2 ⟨hne, by rw [e2, ap_comm]; exact x1, by rw [e3, ap_comm]; exact y1⟩
   exact (nb m b hm hb (ih m hm hg) hp).1
 have dn : ∀ b, b < l.length → 0 ≤ at0 out b := fun b hb => all _ b hb rfl
 exact ⟨h1, h5 hs0, dn, fun a b ha hb hc => (nb a b ha hb (dn a ha) hc).2, fun b hb hbs => by
  obtain ⟨a, a1, _, a3, a4⟩ := h6 b hb hbs (dn b hb)
  exact ⟨a, a1, a3, a4⟩⟩
/-- the measure: undone cells -/
def undone (out : List Int) : Nat := out.countP (fun x => decide (x < 0))
theorem undone_set {out : List Int} {i : Nat} {x : Int} (hi : i < out.length) (h : at0 out i < 0) (hx : 0 ≤ x) : undone (out.set i x) + 1 = undone out := by
 unfold undone
 induction out generalizing i with
 | nil => simp at hi
 | cons a out ih =>
  cases i with
  | zero =>
   simp only [at0, List.getD_cons_zero] at h
   have hx' : ¬ x < 0 := by omega
   simp [h, hx']
  | succ i =>
   have := ih (i := i) (by simpa using hi) (by simpa [at0] using h)
   simp only [List.set_cons_succ, List.countP_cons]
   omega
end Im
/- Plain laws of chapter 07: ways. -/
namespace Im
/-- the next cell of the best way: the first one from which the rest is as short as it can be -/
def nxt (c : Nat) (l left : List Int) (a : Nat) : Option Nat := (List.range l.length).find? (fun b => decide (0 < cost c l a b ∧ at0 left a = cost c l a b + at0 left b))
theorem nxt_some {c : Nat} {l left : List Int} {a b : Nat} (h : nxt c l left a = some b) : b < l.length ∧ 0 < cost c l a b ∧ at0 left a = cost c l a b + at0 left b ∧
  ∀ k, k < b → ¬ (0 < cost c l a k ∧ at0 left a = cost c l a k + at0 left k) := by
 unfold nxt at h
 rw [List.find?_range_eq_some] at h
 obtain ⟨h1, h2, h3⟩ := h
 simp only [decide_eq_true_eq, Bool.not_eq_true', decide_eq_false_iff_not] at h1 h3
 exact ⟨by simpa using h2, h1.1, h1.2, h3⟩
theorem nxt_of {c : Nat} {l left : List Int} {a b : Nat} (hb : b < l.length) (h1 : 0 < cost c l a b) (h2 : at0 left a = cost c l a b + at0 left b)
  (h3 : ∀ k, k < b → ¬ (0 < cost c l a k ∧ at0 left a = cost c l a k + at0 left k)) : nxt c l left a = some b := by
 unfold nxt
 rw [List.find?_range_eq_some]
 exact ⟨by simp [h1, h2], by simpa using hb, fun j hj => by rw [Bool.not_eq_true', decide_eq_false_iff_not]; exact h3 j hj⟩
/-- there is one -/
theorem nxt_ex {c : Nat} {l left : List Int} {d a : Nat} (h : IsT c l d left) (ha : a < l.length) (hd : a ≠ d) : ∃ b, nxt c l left a = some b := by
 obtain ⟨b, hb, hc, ht⟩ := h.tight a ha hd
 cases hn : nxt c l left a with
 | some k => exact ⟨k, rfl⟩
 | none =>
  unfold nxt at hn
  rw [List.find?_eq_none] at hn
  have := hn b (List.mem_range.2 hb)
  rw [cost_comm] at hc ht
  simp only [decide_eq_true_eq] at this
  exact absurd ⟨hc, by omega⟩ this
/-- the best way from a on, with so many steps at most -/
def wayN (c : Nat) (l left : List Int) (d : Nat) : Nat → Nat → List Nat
 | 0, a => [a]
 | k + 1, a => if a = d then [a] else match nxt c l left a with
  | some b => a :: wayN c l left d k b
  | none => [a]
theorem wayN_enough {c : Nat} {l left : List Int} {d : Nat} (h : IsT c l d left) : ∀ (k m a : Nat), a < l.length → (at0 left a).toNat ≤ k → (at0 left a).toNat ≤ m → wayN c l left d k a = wayN c l left d m a := by
 have zero : ∀ a, a < l.length → (at0 left a).toNat = 0 → a = d := by
  intro a ha hz
  by_cases e : a = d
  ·exact e
  ·obtain ⟨b, hb, hc, ht⟩ := h.tight a ha e
   have := h.nn b hb
   omega
 intro k
 induction k with
 | zero =>
  intro m a ha hk hm
  have e := zero a ha (by omega)
  cases m with
  | zero => rfl
  | succ m => simp [wayN, e]
 | succ k ih =>
  intro m a ha hk hm
  by_cases e : a = d
  ·cases m <;> simp [wayN, e]
  ·cases m with
   | zero => exact absurd (zero a ha (by omega)) e
   | succ m =>
    obtain ⟨b, hb⟩ := nxt_ex h ha e
    obtain ⟨b1, b2, b3, _⟩ := nxt_some hb
    have nb := h.nn b b1
    simp only [wayN, if_neg e, hb]
    rw [ih m b b1 (by omega) (by omega)]
/-- the best way -/
def way (c : Nat) (l left : List Int) (d a : Nat) : List Nat := wayN c l left d (at0 left a).toNat a
theorem way_end (c : Nat) (l left : List Int) (d : Nat) : way c l left d d = [d] := by
 unfold way
 cases (at0 left d).toNat <;> simp [wayN]
theorem way_step {c : Nat} {l left : List Int} {d a b : Nat} (h : IsT c l d left) (ha : a < l.length) (hd : a ≠ d) (hb : nxt c l left a = some b) : way c l left d a = a :: way c l left d b := by
 obtain ⟨b1, b2, b3, _⟩ := nxt_some hb
 have nb := h.nn b b1
 unfold way
 cases hk : (at0 left a).toNat with
 | zero => omega
 | succ k =>
  simp only [wayN, if_neg hd, hb]
  rw [wayN_enough h k (at0 left b).toNat b b1 (by omega) (by omega)]
/-- what the program finds among the neighbours is the next cell -/
theorem nbs_first {c r : Nat} {l left : List Int} (g : Gr c r l) {a : Nat} (ha : a < l.length) {p : List (Nat × Int)} {b : Nat} {n : Int} {q : List (Nat × Int)} (h : nbs c r l a = p ++ (b, n) :: q)
  (hp : ∀ e, e ∈ p → at0 left a ≠ e.2 + at0 left e.1) (hb : at0 left a = n + at0 left b) : nxt c l left a = some b := by
 have hm : (b, n) ∈ nbs c r l a := by rw [h]; simp
 obtain ⟨b1, b2, b3⟩ := (nbs_mem g ha).1 hm
 refine nxt_of b1 b3 (by rw [← b2]; exact hb) fun k hk ⟨k1, k2⟩ => ?_
 by_cases hkl : k < l.length
 ·have hkm : (k, cost c l a k) ∈ nbs c r l a := (nbs_mem g ha).2 ⟨hkl, rfl, k1⟩
  have asc := nbs_asc g ha
  rw [h] at hkm asc
  rcases List.mem_append.1 hkm with hx | hx
  ·exact hp _ hx k2
  ·rcases List.mem_cons.1 hx with hx | hx
   ·simp only [Prod.mk.injEq] at hx; omega
   ·have := List.rel_of_pairwise_cons (List.pairwise_append.1 asc).2.1 hx
    simp only at this; omega
 ·omega
theorem nbs_never {c r : Nat} {l left : List Int} (g : Gr c r l) {a d : Nat} (ha : a < l.length) (h : IsT c l d left) (hd : a ≠ d) (hp : ∀ e, e ∈ nbs c r l a → at0 left a ≠ e.2 + at0 left e.1) : False := by
 obtain ⟨b, hb⟩ := nxt_ex h ha hd
 obtain ⟨b1, b2, b3, _⟩ := nxt_some hb
 exact hp (b, cost c l a b) ((nbs_mem g ha).2 ⟨b1, rfl, b2⟩) b3
/-- the sum of costs along a way that starts at a -/
def costs (c : Nat) (l : List Int) : Nat → List Nat → Int
 | _, [] => 0
 | a, b :: w => cost c l a b + costs c l b w
/-- each step leads to a neighbour -/
def Walk (c : Nat) (l : List Int) : Nat → List Nat → Prop
 | _, [] => True
 | a, b :: w => b < l.length ∧ 0 < cost c l a b ∧ Walk c l b w
theorem way_facts {c : Nat} {l left : List Int} {d : Nat} (h : IsT c l d left) : ∀ (k a : Nat), a < l.length → (at0 left a).toNat ≤ k →
  ∃ w, way c l left d a = a :: w ∧ Walk c l a w ∧ costs c l a w = at0 left a ∧ (a :: w).getLast? = some d ∧ (a :: w).Pairwise (fun x y => at0 left y < at0 left x) := by
 intro k
 induction k with
 | zero =>
  intro a ha hk
  have e : a = d := by
   by_cases e : a = d
   ·exact e
   ·obtain ⟨b, hb, hc, ht⟩ := h.tight a ha e
    have := h.nn b hb
    omega
  subst e
  exact ⟨[], way_end _ _ _ _, trivial, by simp [costs, h.src], by simp, by simp⟩
 | succ k ih =>
  intro a ha hk
  by_cases e : a = d
  ·subst e
   exact ⟨[], way_end _ _ _ _, trivial, by simp [costs, h.src], by simp, by simp⟩
  ·obtain ⟨b, hb⟩ := nxt_ex h ha e
   obtain ⟨b1, b2, b3, _⟩ := nxt_some hb
   have nb := h.nn b b1
   obtain ⟨w, w1, w2, w3, w4, w5⟩ := ih b b1 (by omega)
   refine ⟨b :: w, by rw [way_step h ha e hb, w1], ⟨b1, b2, w2⟩, by simp only [costs]; omega, by rw [List.getLast?_cons_cons]; exact w4, ?_⟩
   refine List.pairwise_cons.2 ⟨?_, w5⟩
   intro y hy
   rcases List.mem_cons.1 hy with rfl | hy
   ·omega
   ·have := List.rel_of_pairwise_cons w5 hy; omega
/-- a list of cells below n without twins is no longer than n -/
theorem nodup_len {n : Nat} {w : List Nat} (hn : w.Nodup) (h : ∀ x, x ∈ w → x < n) : w.length ≤ n := by
 have := List.Nodup.length_le_of_subset hn (l₂ := List.range n) (fun x hx => List.mem_range.2 (h x hx))
 simpa using this
theorem walk_lt {c : Nat} {l : List Int} : ∀ (w : List Nat) (a : Nat), a < l.length → Walk c l a w → ∀ x, x ∈ a :: w → x < l.length
 | [], a, ha, _, x, hx => by simp at hx; subst hx; exact ha
 | b :: w, a, ha, ⟨h1, _, h3⟩, x, hx => by
  rcases List.mem_cons.1 hx with rfl | hx
  ·exact ha
  ·exact walk_lt w b h1 h3 x hx
theorem way_len {c : Nat} {l left : List Int} {d a : Nat} (h : IsT c l d left) (ha : a < l.length) : (way c l left d a).length ≤ l.length := by
 obtain ⟨w, w1, w2, _, _, w5⟩ := way_facts h _ a ha (Nat.le_refl _)
 rw [w1]
 exact nodup_len (List.Pairwise.imp (fun {x y} hxy => by intro e; subst e; omega) w5) (walk_lt w a ha w2)
end Im
/- Plain laws of chapter 07: delays, the operator and its adjoint. -/
namespace Im
def straight (c i k : Nat) : Bool := decide (i % c = k % c ∨ i / c = k / c)
/-- a straight neighbour whose number differs by more than a greatest step -/
def alia (c : Nat) (l ns : List Int) (most : Int) (i : Nat) : Bool := (List.range l.length).any fun k => decide (0 < cost c l i k) && straight c i k && decide (most < max (at0 ns k - at0 ns i) (at0 ns i - at0 ns k))
/-- the sample of a cell, or -1 -/
def dly (c : Nat) (l ns : List Int) (len most : Int) (hole : Bool) (i : Nat) : Int := if hole || decide (len ≤ at0 ns i) || alia c l ns most i then -1 else at0 ns i
def delays (c : Nat) (l ns : List Int) (len most : Int) (hole : Bool) : List Int := (List.range l.length).map (dly c l ns len most hole)
theorem delays_len (c : Nat) (l ns : List Int) (len most : Int) (hole : Bool) : (delays c l ns len most hole).length = l.length := by simp [delays]
theorem at0_map_range (n : Nat) (f : Nat → Int) (i : Nat) (hi : i < n) : at0 ((List.range n).map f) i = f i := by
 simp [at0, List.getD_eq_getElem?_getD, List.getElem?_map, List.getElem?_range hi]
theorem delays_at {c : Nat} {l ns : List Int} {len most : Int} {hole : Bool} {i : Nat} (hi : i < l.length) : at0 (delays c l ns len most hole) i = dly c l ns len most hole i := at0_map_range _ _ _ hi
theorem alia_nbs {c r : Nat} {l ns : List Int} (g : Gr c r l) {most : Int} {i : Nat} (hi : i < l.length) :
  alia c l ns most i = (nbs c r l i).any fun e => straight c i e.1 && decide (most < max (at0 ns e.1 - at0 ns i) (at0 ns i - at0 ns e.1)) := by
 rw [Bool.eq_iff_iff]
 simp only [alia, List.any_eq_true, Bool.and_eq_true, decide_eq_true_eq, List.mem_range]
 constructor
 ·rintro ⟨k, hk, ⟨h1, h2⟩, h3⟩
  exact ⟨(k, cost c l i k), (nbs_mem g hi).2 ⟨hk, rfl, h1⟩, h2, h3⟩
 ·rintro ⟨⟨k, n⟩, hm, h2, h3⟩
  obtain ⟨a, b, e⟩ := (nbs_mem g hi).1 hm
  exact ⟨k, a, ⟨e, h2⟩, h3⟩
/-- the trace of a model by delays: cell by cell -/
def addAt (tr : List Int) (d m : Int) : List Int := if 0 ≤ d then tr.set d.toNat (at0 tr d.toNat + m) else tr
def trace (len : Nat) (ds ms : List Int) : List Int := (List.zip ds ms).foldl (fun tr x => addAt tr x.1 x.2) (List.replicate len 0)
/-- what a trace gives a cell -/
def pick (tr : List Int) (d : Int) : Int := if 0 ≤ d then at0 tr d.toNat else 0
/-- the inner product -/
def inner : List Int → List Int → Int
 | a :: l, b :: m => a * b + inner l m
 | _, _ => 0
theorem inner_nil_right (l : List Int) : inner l [] = 0 := by cases l <;> rfl
theorem inner_comm : ∀ l m : List Int, inner l m = inner m l
 | [], m => by rw [inner_nil_right]; cases m <;> rfl
 | _ :: _, [] => rfl
 | a :: l, b :: m => by simp only [inner]; rw [inner_comm l m, Int.mul_comm]
theorem inner_set : ∀ (tr x : List Int) (i : Nat) (y : Int), i < tr.length → tr.length = x.length → inner (tr.set i (at0 tr i + y)) x = inner tr x + y * at0 x i
 | [], _, i, _, h, _ => by simp at h
 | _ :: _, [], _, _, _, h => by simp at h
 | a :: tr, b :: x, 0, y, _, _ => by simp [inner, at0]; rw [Int.add_mul]; omega
 | a :: tr, b :: x, i+1, y, h, hl => by
  have := inner_set tr x i y (by simpa using h) (by simpa using hl)
  simp only [at0, List.set_cons_succ, List.getD_cons_succ, inner] at this ⊢
  rw [this]; omega
theorem addAt_len (tr : List Int) (d m : Int) : (addAt tr d m).length = tr.length := by unfold addAt; split <;> simp
theorem trace_fold_len : ∀ (xs : List (Int × Int)) (tr : List Int), (xs.foldl (fun tr x => addAt tr x.1 x.2) tr).length = tr.length
 | [], _ => rfl
 | x :: xs, tr => by rw [List.foldl_cons, trace_fold_len xs, addAt_len]
theorem trace_len (len : Nat) (ds ms : List Int) : (trace len ds ms).length = len := by unfold trace; rw [trace_fold_len]; simp
theorem inner_fold : ∀ (xs : List (Int × Int)) (tr x : List Int), tr.length = x.length → (∀ e, e ∈ xs → e.1 < (tr.length : Int)) →
  inner (xs.foldl (fun tr x => addAt tr x.1 x.2) tr) x = inner tr x + inner (xs.map (·.2)) (xs.map (fun e => pick x e.1))
 | [], tr, x, _, _ => by simp [inner]
 | e :: xs, tr, x, hl, h => by
  rw [List.foldl_cons, inner_fold xs _ x (by rw [addAt_len]; exact hl) (fun e' he' => by rw [addAt_len]; exact h e' (List.mem_cons_of_mem _ he'))]
  simp only [List.map_cons, inner]
  have he := h e List.mem_cons_self
  have : inner (addAt tr e.1 e.2) x = inner tr x + e.2 * pick x e.1 := by
   unfold addAt pick
   split
   ·exact inner_set tr x _ _ (by omega) hl
   ·simp
  rw [this]; omega
theorem inner_zero : ∀ (n : Nat) (x : List Int), inner (List.replicate n 0) x = 0
 | 0, _ => rfl
 | n+1, [] => rfl
 | n+1, b :: x => by simp [List.replicate_succ, inner, inner_zero n x]
/-- ONE PAIR: the trace of a model with a trace is the model with what the trace gives -/
theorem adj1 {len : Nat} {ds ms x : List Int} (hl : ds.length = ms.length) (hx : x.length = len) (h : ∀ d, d ∈ ds → d < (len : Int)) :
  inner (trace len ds ms) x = inner ms (ds.map (pick x)) := by
 unfold trace
 rw [inner_fold _ _ x (by simp [hx]) (fun e he => by simp; exact h _ (List.of_mem_zip he).1), inner_zero, Int.zero_add]
 have e1 : (List.zip ds ms).map (·.2) = ms := List.map_snd_zip (by omega)
 have e2 : (List.zip ds ms).map (fun e => pick x e.1) = ds.map (pick x) := by
  have : (fun e : Int × Int => pick x e.1) = pick x ∘ Prod.fst := rfl
  rw [this, ← List.map_map, List.map_fst_zip (by omega)]
 rw [e1, e2]
theorem inner_add : ∀ (l m k : List Int), m.length = k.length → inner l (List.zipWith (· + ·) m k) = inner l m + inner l k
 | [], m, k, _ => by simp [inner]
 | a :: l, [], [], _ => by simp [inner]
 | a :: l, b :: m, d :: k, h => by
  have := inner_add l m k (by simpa using h)
  simp only [List.zipWith_cons_cons, inner]
  rw [this, Int.mul_add]; omega
 | _ :: _, [], _ :: _, h => by simp at h
 | _ :: _, _ :: _, [], h => by simp at h
theorem inner_append : ∀ (a b x y : List Int), a.length = x.length → inner (a ++ b) (x ++ y) = inner a x + inner b y
 | [], b, [], y, _ => by simp [inner]
 | p :: a, b, q :: x, y, h => by
  have := inner_append a b x y (by simpa using h)
  simp only [List.cons_append, inner]; rw [this]; omega
 | [], _, _ :: _, _, h => by simp at h
 | _ :: _, _, [], _, h => by simp at h
theorem inner_self_nonneg : ∀ a : List Int, 0 ≤ inner a a
 | [] => by simp [inner]
 | x :: a => by
  have := inner_self_nonneg a
  have h2 : 0 ≤ x * x := by
   rcases Int.le_total 0 x with h | h
   ·exact Int.mul_nonneg h h
   ·exact Int.mul_nonneg_of_nonpos_of_nonpos h h
  simp only [inner]; omega
/-- the operator of a survey: 'dss' the delays of the pairs, [] for none -/
def traces (len : Nat) (pairs : List (Bool × List Int)) (m : List Int) : List (List Int) := pairs.map fun p => if p.1 then [] else trace len p.2 m
def imgFold (out : List Int) (ds tr : List Int) : List Int := List.zipWith (· + ·) out (ds.map (pick tr))
/-- the image of traces -/
def image (n : Nat) (dss : List (List Int)) (data : List (List Int)) : List Int := (List.zip dss data).foldl (fun out x => imgFold out x.1 x.2) (List.replicate n 0)
theorem imgFold_len {out ds tr : List Int} (h : ds.length = out.length) : (imgFold out ds tr).length = out.length := by simp [imgFold]; omega
theorem image_fold_len : ∀ (xs : List (List Int × List Int)) (out : List Int), (∀ x, x ∈ xs → x.1.length = out.length) → (xs.foldl (fun out x => imgFold out x.1 x.2) out).length = out.length
 | [], _, _ => rfl
 | x :: xs, out, h => by
  have h1 := imgFold_len (tr := x.2) (h x List.mem_cons_self)
  rw [List.foldl_cons, image_fold_len xs _ (fun y hy => by rw [h1]; exact h y (List.mem_cons_of_mem _ hy)), h1]
theorem inner_image_fold (m : List Int) : ∀ (xs : List (List Int × List Int)) (out : List Int), (∀ x, x ∈ xs → x.1.length = out.length) →
  inner m (xs.foldl (fun out x => imgFold out x.1 x.2) out) = inner m out + (xs.map (fun x => inner m (x.1.map (pick x.2)))).foldr (· + ·) 0
 | [], out, _ => by simp
 | x :: xs, out, h => by
  have h0 := h x List.mem_cons_self
  have h1 := imgFold_len (tr := x.2) h0
  rw [List.foldl_cons, inner_image_fold m xs _ (fun y hy => by rw [h1]; exact h y (List.mem_cons_of_mem _ hy))]
  simp only [List.map_cons, List.foldr_cons]
  unfold imgFold
  rw [inner_add m out _ (by simp [h0])]
  omega
end Im
namespace Go.Proofs.YtdimmlljjmmdbaaGreatDoor
open Go.RowKit
set_option maxHeartbeats 4000000
set_option maxRecDepth 20000
theorem c159 (a b : Int) (w : World) : Calls Tryz.prog 159 #[.agg #[.int .i64 a, .int .i64 b]] w fun en w' => en = .returned (.int .i64 (Im.fac (a, b))) ∧ Below w.heap.size w w' := by
 have hB : ∀ a b, Below w.heap.size w (w.alloc (Obj.cells #[.int .i64 a, .int .i64 b] 221)) := fun a b => ((Below.refl _ _).alloc (by first | omega | (simp <;> omega)) _)
 have HB := Lib.hid hB
 clear hB
 obtain ⟨F, hF⟩ : ∃ F, F = Im.fac (a, b) := ⟨_, rfl⟩
 have HF := Lib.hid hF
 rw [← hF]
 clear hF
 go_enter Tryz.func159, Tryz.ntmps159
 by_cases ha : a = 0
 ·have ha2 : (a == 0) = true := by simpa using ha
  have HG : Hid (F = 2) := Lib.hid (by rw [HF.out]; simp [Im.fac, ha])
  clear ha
  go_wp2
  go_ret
  exact ⟨ret_int HG.out.symm, HB.out _ _⟩
 ·have ha2 : (a == 0) = false := by simpa using ha
  by_cases hb : b = 0
  ·have hb2 : (b == 0) = true := by simpa using hb
   have HG : Hid (F = 2) := Lib.hid (by rw [HF.out]; simp [Im.fac, hb])
   clear ha hb
   go_wp2
   go_ret
   exact ⟨ret_int HG.out.symm, HB.out _ _⟩
  ·have hb2 : (b == 0) = false := by simpa using hb
   have HG : Hid (F = 3) := Lib.hid (by rw [HF.out]; simp [Im.fac, ha, hb])
   clear ha hb
   go_wp2
   go_ret
   exact ⟨ret_int HG.out.symm, HB.out _ _⟩
end Go.Proofs.YtdimmlljjmmdbaaGreatDoor
namespace Go.Proofs.YtdimmlljjmmdbaaGreatDoor
open Go.RowKit
set_option maxHeartbeats 4000000
set_option maxRecDepth 20000
/-- the cell at k of a list of integers -/
theorem RdI.get {w : World} {b off n : Nat} {l : List Int} (h : RdI w (some ⟨b, off, none⟩) n l) {k : Nat} (hk : k < n) : w.cell? ⟨b, off + k, none⟩ = some (.int .i64 (Im.at0 l k)) := by
 obtain ⟨b', off', x, e, hx, _, hc⟩ := h.at hk
 cases e
 rw [hc]
 simp [Im.at0, List.getD_eq_getElem?_getD, hx]
theorem wrapN {x : Nat} (h : x ≤ 1000000000000000000) : IntKind.i64.wrap (x : Int) = (x : Int) := wrapI (by omega)
theorem RdI.form {w : World} {A : Option Addr} {n : Nat} {l : List Int} (h : RdI w A n l) (hn : 0 < n) : ∃ b off, A = some ⟨b, off, none⟩ ∧ b < w.heap.size := by
 obtain ⟨b, off, x, e, _, hb, _⟩ := h.at hn
 exact ⟨b, off, e, hb⟩
end Go.Proofs.YtdimmlljjmmdbaaGreatDoor
/- A region that draws its order, in a round of a range over a function: what holds of it in the plain way holds there too. -/
namespace Go
open Go.RowKit
def Region.noDefer (ops : Array Oper) : Bool := ops.all fun o => match o.op with | .defer _ => false | _ => true
theorem Oper.semAt_of (ro : Option Nat) (ρ : Operand → Value) (o : Oper) (h : (match o.op with | .defer _ => false | _ => true) = true) : o.semAt ro ρ = execOp ρ o := by
 unfold Oper.semAt
 split
 ·rename_i l c hop
  rw [hop] at h; cases h
 ·rfl
theorem rowsIn_of {P : Program} {row : String} {args : Array Value} {w : World} {R : Value → World → Prop} {n l : Nat} (h : Rows P row args w R) : RowsIn (Fence.wide.inRound l) n P row args w R :=
 fun c cs _ => let ⟨v, w', r, s⟩ := h c cs; ⟨v, w', r, stepsIn_wide.2 s⟩
theorem Oper.wpIn_of_wp {P : Program} {o : Oper} {a : Act} {w : World} {K : Act → World → Prop} {Q : Exit → Act → World → Prop} {n l : Nat} (hd : (match o.op with | .defer _ => false | _ => true) = true)
  (h : o.wp P a w K Q) : o.wpIn (Fence.wide.inRound l) n P a w K Q := by
 refine ⟨fun _ _ => trivial, ?_⟩
 rw [Oper.semAt_of _ _ _ hd]
 unfold Oper.wp at h
 generalize (execOp a.eval o).run P w = r at *
 cases r with
 | ok x w' =>
  cases x <;> simp only [Oper.upon] at h <;> simp only [Oper.uponIn]
  case value => exact h
  case skip => exact h
  case defer => exact h
  case enter f args => exact ⟨fun h => (by cases h), CallsIn.inRound l (callsIn_wide.2 h)⟩
  case row row args => exact ⟨fun h => (by cases h), rowsIn_of h⟩
 | halt x w' => cases x <;> exact h
theorem wpOpIn_of {P : Program} {ops : Array Oper} {Q : Exit → Act → World → Prop} {n l i : Nat} {K : Act → World → Prop} {a : Act} {w : World} (hnd : Region.noDefer ops = true) (hQ : ¬ LetsOut Q)
  (h : wpOp P ops Q i K a w) : wpOpIn (Fence.wide.inRound l) n P ops Q i K a w := by
 unfold wpOp at h
 unfold wpOpIn
 cases ho : ops[i]? with
 | none => simpa [ho] using h
 | some o =>
  simp only [ho] at h ⊢
  have hd : (match o.op with | .defer _ => false | _ => true) = true := by
   have := Array.all_eq_true_iff_forall_mem.1 hnd o (Array.mem_of_getElem? ho)
   exact this
  by_cases hw : Region.wanted o (yielded ops a.tmps) = true
  ·simp only [hw, if_true] at h ⊢
   rcases h with h | h
   ·exact Oper.wpIn_of_wp hd h
   ·exact absurd h.2 hQ
  ·simp only [hw] at h ⊢
   exact ⟨fun _ _ => trivial, h⟩
theorem wpAnyIn_of {P : Program} {md : Region.Mode} {ops : Array Oper} {Q : Exit → Act → World → Prop} {n l : Nat} (hnd : Region.noDefer ops = true) (hQ : ¬ LetsOut Q) :
  ∀ (fuel : Nat) (listed : Array Bool) (a : Act) (w : World), wpAny P md ops Q fuel listed a w → wpAnyIn (Fence.wide.inRound l) n P md ops Q fuel listed a w
 | 0, _, _, _, h => h
 | fuel + 1, listed, a, w, h => ⟨h.1, fun i hi => wpOpIn_mono (fun a' w' hK => wpAnyIn_of hnd hQ fuel _ a' w' hK) (wpOpIn_of hnd hQ (h.2 i hi))⟩
section
variable {P : Program} {C : World → Prop}
theorem wpAny_split {Q : Exit → Act → World → Prop} {a : Act} {w : World} (l1 l2 : List Oper) (hB : Region.splitB .any (l1 ++ l2).toArray l1.length = true) (hC : C { w with drawn := w.drawn + 1 })
  (h : wpQuiet P (l1 ++ l2).toArray C (fun a' => ∀ w', C w' → wpList P (l1 ++ l2).toArray Q l2 a' w') l1 a) : wpAny P .any (l1 ++ l2).toArray Q (l1 ++ l2).toArray.size (Array.replicate (l1 ++ l2).toArray.size false) a { w with drawn := w.drawn + 1 } := by
 simp only [Region.splitB, Bool.and_eq_true] at hB
 obtain ⟨⟨⟨hs, hF⟩, hL⟩, hR⟩ := hB
 have hsz : (l1 ++ l2).toArray.size = l1.length + l2.length := by simp
 have hsub : (l1 ++ l2).toArray.size - l1.length = l2.length := by omega
 rw [hsub] at hR
 have hfr : Front .any (l1 ++ l2).toArray l1.length l1.length (Array.replicate (l1 ++ l2).toArray.size false) := by
  have hg : ∀ (n i : Nat), (Array.replicate n false).getD i false = false := by
   intro n i
   rcases Nat.lt_or_ge i n with h | h <;> simp [h]
  refine ⟨by simp, fun i o ho hl => ?_, fun i _ => hg _ i, ?_⟩
  ·rw [hg] at hl; cases hl
  ·rw [List.filter_eq_self.2 (fun i _ => by rw [hg]; rfl)]; simp
 have := wpAny_of_front (P := P) (md := .any) (ops := (l1 ++ l2).toArray) (C := C) (r := l2.length) (Q' := Q)
  (E := fun listed a' => listed = (List.range' 0 l1.length).foldl (fun b i => b.setIfInBounds i true) (Array.replicate (l1 ++ l2).toArray.size false) ∧ ∀ w', C w' → wpList P (l1 ++ l2).toArray Q l2 a' w')
  (fun listed a' w' hw' hE => by
   obtain ⟨rfl, hE⟩ := hE
   exact wpAny_rest l2 l1.length _ a' w' (fun j => by simp [List.getElem?_append_right]) hR (hE w' hw'))
  l1.length (Array.replicate (l1 ++ l2).toArray.size false) a { w with drawn := w.drawn + 1 } hC
  (wpFront_lex hF hs l1 0 _ a (fun j hj => by simp [List.getElem?_append_left hj]) hfr hL
   (by
    refine cast ?_ h
    congr 1
    funext a'
    simp))
 simp only [hsz] at this ⊢
 exact this
end
/-- wp_region_splitG in a round: front of m quiet operations, the rest plain -/
theorem wpIn_region_splitG {P : Program} {id : Nat} {Q : Exit → Act → World → Prop} {a : Act} {W : World} {n lr : Nat} (m : Nat) {l : List Oper} (hm : P.follows .mixedOrders = true) (hB : Region.splitB .any l.toArray m = true) (hnd : Region.noDefer l.toArray = true) (hQ : ¬ LetsOut Q)
  (h : wpQuiet P l.toArray (fun w' => ∃ p : GB, w' = gw W p) (fun a' => ∀ w', (∃ p : GB, w' = gw W p) → wpList P l.toArray Q (l.drop m) a' w') (l.take m) a) : (Code.region id l.toArray true).wpIn (Fence.wide.inRound lr) n P Q a W := by
 have hml : m ≤ l.length := by
  simp only [Region.splitB, Region.frontB, Bool.and_eq_true, decide_eq_true_eq] at hB
  simpa using hB.1.1.2.1.1
 have h1 := wpAny_split (P := P) (Q := Q) (a := a) (w := W) (C := fun w' => ∃ p : GB, w' = gw W p) (l.take m) (l.drop m)
 rw [List.take_append_drop, List.length_take, Nat.min_eq_left hml] at h1
 exact wpIn_region_any hm (wpAnyIn_of hnd hQ _ _ _ _ (h1 hB (gw_start W) h))
end Go
/- A region that draws its order, in a walk of the fence 'wide' (which may hand on to a round by 'yield'): a quiet front, then a rest in one order. -/
namespace Go
open Go.RowKit
theorem Oper.wpIn_wide_of {P : Program} {o : Oper} {a : Act} {w : World} {K : Act → World → Prop} {Q : Exit → Act → World → Prop} {n : Nat} (h : o.wp P a w K Q) : o.wpIn Fence.wide n P a w K Q := by
 refine ⟨fun _ _ => trivial, ?_⟩
 have hr : Fence.wide.round = none := rfl
 rw [hr, Oper.semAt_none]
 unfold Oper.wp at h
 generalize (execOp a.eval o).run P w = r at *
 cases r with
 | ok x w' =>
  cases x <;> simp only [Oper.upon] at h <;> simp only [Oper.uponIn]
  case value => exact h
  case skip => exact h
  case defer => exact h
  case enter f args => exact ⟨fun h => (by cases h), callsIn_wide.2 h⟩
  case row row args => exact ⟨fun h => (by cases h), fun c cs _ => let ⟨v, w', r, s⟩ := h c cs; ⟨v, w', r, stepsIn_wide.2 s⟩⟩
 | halt x w' => cases x <;> exact h
section
variable {P : Program} {ops : Array Oper} {md : Region.Mode} {C : World → Prop} {n : Nat}
theorem wpOpIn_of_qOp {i : Nat} {a : Act} {K : Act → Prop} {K' : Act → World → Prop} {Q' : Exit → Act → World → Prop} {w : World} (hC : C w) (h : ∀ a w', C w' → K a → K' a w') (hh : qOp P ops C i K a) : wpOpIn Fence.wide n P ops Q' i K' a w := by
 unfold qOp at hh
 unfold wpOpIn
 cases ho : ops[i]? with
 | none => simp only [ho] at hh ⊢; exact h _ _ hC hh
 | some o =>
  simp only [ho] at hh ⊢
  by_cases hw : Region.wanted o (yielded ops a.tmps) = true
  ·simp only [hw, if_true] at hh ⊢
   exact Oper.wpIn_wide_of (Oper.wp_of_quiet hC h hh)
  ·simp only [hw] at hh ⊢
   exact ⟨fun _ _ => trivial, h _ _ hC hh⟩
theorem wpAnyIn_of_front {E : Array Bool → Act → Prop} {Q' : Exit → Act → World → Prop} {r : Nat} (hE : ∀ listed a w, C w → E listed a → wpAnyIn Fence.wide n P md ops Q' r listed a w) : ∀ (fuel : Nat) (listed : Array Bool) (a : Act) (w : World), C w →
  wpFront P md ops C E fuel listed a → wpAnyIn Fence.wide n P md ops Q' (fuel + r) listed a w
 | 0, _, _, _, hw, h => by rw [Nat.zero_add]; exact hE _ _ _ hw h
 | fuel + 1, _, _, _, hw, h => by
  rw [Nat.add_right_comm]
  exact ⟨fun h0 => absurd h0 h.1, fun i hi => wpOpIn_of_qOp hw (fun a' w' hw' => wpAnyIn_of_front hE fuel _ a' w' hw') (h.2 i hi)⟩
theorem wpAnyIn_rest {Q : Exit → Act → World → Prop} : ∀ (l : List Oper) (k : Nat) (listed : Array Bool) (a : Act) (w : World), (∀ j, l[j]? = ops[k + j]?) →
  Region.restB md ops l.length k listed = true → wpListIn Fence.wide n P ops Q l a w → wpAnyIn Fence.wide n P md ops Q l.length listed a w
 | [], _, _, _, _, _, hB, h => ⟨by simpa [Region.restB] using hB, h⟩
 | o :: l, k, listed, a, w, hl, hB, h => by
  have h0 : ops[k]? = some o := by simpa using (hl 0).symm
  simp only [List.length_cons, Region.restB, Bool.and_eq_true, beq_iff_eq] at hB
  obtain ⟨hr, hB'⟩ := hB
  refine ⟨fun h => (by rw [hr] at h; cases h), fun i hi => ?_⟩
  rw [hr] at hi
  obtain rfl := List.mem_singleton.1 hi
  have hn := fun (a' : Act) (w' : World) => wpAnyIn_rest (Q := Q) l (i + 1) (listed.setIfInBounds i true) a' w' (fun j => by have := hl (j + 1); simpa [Nat.add_assoc, Nat.add_comm 1 j] using this) hB'
  have : wpOpIn Fence.wide n P ops Q i (wpListIn Fence.wide n P ops Q l) a w := by
   unfold wpOpIn
   rw [h0]
   exact h
  exact wpOpIn_mono hn this
end
/-- front of m quiet operations, the rest in the fence's own walk -/
theorem wpIn_region_splitW {P : Program} {id : Nat} {Q : Exit → Act → World → Prop} {a : Act} {W : World} {n : Nat} (m : Nat) {l : List Oper} (hm : P.follows .mixedOrders = true) (hB : Region.splitB .any l.toArray m = true)
  (h : wpQuiet P l.toArray (fun w' => ∃ p : GB, w' = gw W p) (fun a' => ∀ w', (∃ p : GB, w' = gw W p) → wpListIn Fence.wide n P l.toArray Q (l.drop m) a' w') (l.take m) a) : (Code.region id l.toArray true).wpIn Fence.wide n P Q a W := by
 have hml : m ≤ l.length := by
  simp only [Region.splitB, Region.frontB, Bool.and_eq_true, decide_eq_true_eq] at hB
  simpa using hB.1.1.2.1.1
 obtain ⟨l1, hl1⟩ : ∃ x, x = l.take m := ⟨_, rfl⟩
 obtain ⟨l2, hl2⟩ : ∃ x, x = l.drop m := ⟨_, rfl⟩
 have hll : l = l1 ++ l2 := by rw [hl1, hl2, List.take_append_drop]
 have hlen : m = l1.length := by rw [hl1, List.length_take, Nat.min_eq_left hml]
 rw [← hl1, ← hl2] at h
 clear hl1 hl2
 subst hll
 subst hlen
 simp only [Region.splitB, Bool.and_eq_true] at hB
 obtain ⟨⟨⟨hs, hF⟩, hL⟩, hR⟩ := hB
 refine wpIn_region_any hm ?_
 have hsz : (l1 ++ l2).toArray.size = l1.length + l2.length := by simp
 have hsub : (l1 ++ l2).toArray.size - l1.length = l2.length := by omega
 rw [hsub] at hR
 have hfr : Front .any (l1 ++ l2).toArray l1.length l1.length (Array.replicate (l1 ++ l2).toArray.size false) := by
  have hg : ∀ (n i : Nat), (Array.replicate n false).getD i false = false := by
   intro n i
   rcases Nat.lt_or_ge i n with h | h <;> simp [h]
  refine ⟨by simp, fun i o ho hl => ?_, fun i _ => hg _ i, ?_⟩
  ·rw [hg] at hl; cases hl
  ·rw [List.filter_eq_self.2 (fun i _ => by rw [hg]; rfl)]; simp
 have := wpAnyIn_of_front (P := P) (n := n) (md := .any) (ops := (l1 ++ l2).toArray) (C := fun w' => ∃ p : GB, w' = gw W p) (r := l2.length) (Q' := Q)
  (E := fun listed a' => listed = (List.range' 0 l1.length).foldl (fun b i => b.setIfInBounds i true) (Array.replicate (l1 ++ l2).toArray.size false) ∧ ∀ w', (∃ p : GB, w' = gw W p) → wpListIn Fence.wide n P (l1 ++ l2).toArray Q l2 a' w')
  (fun listed a' w' hw' hE => by
   obtain ⟨rfl, hE⟩ := hE
   exact wpAnyIn_rest l2 l1.length _ a' w' (fun j => by simp [List.getElem?_append_right]) hR (hE w' hw'))
  l1.length (Array.replicate (l1 ++ l2).toArray.size false) a { W with drawn := W.drawn + 1 } (gw_start W)
  (wpFront_lex hF hs l1 0 _ a (fun j hj => by simp [List.getElem?_append_left hj]) hfr hL
   (by
    refine cast ?_ h
    congr 1
    funext a'
    simp))
 simp only [hsz] at this ⊢
 exact this
end Go
namespace Go.Proofs.YtdimmlljjmmdbaaGreatDoor
open Go.RowKit Go.Shelf
set_option maxHeartbeats 8000000
set_option maxRecDepth 100000
attribute [local go_sem] Oper.semAt_some
theorem cell_lt {w : World} {p o : Nat} {v : Value} (h : w.cell? ⟨p, o, none⟩ = some v) : p < w.heap.size := by
 unfold World.cell? at h
 cases hh : w.heap[p]? with
 | none => rw [hh] at h; simp at h
 | some o => exact (Array.getElem?_eq_some_iff.1 hh).1
/-- the package's table of steps -/
def stepL : List Int := [-1, -1, 0, -1, 1, -1, -1, 0, 1, 0, -1, 1, 0, 1, 1, 1]
def Steps (w : World) : Prop := RdS w 1 (some ⟨0, 0, none⟩) 16 (encI stepL)
theorem Steps.below {w w' : World} (h : Steps w) (hb : Below w.heap.size w w') : Steps w' := RdS.below h hb
theorem Steps.at {w : World} (h : Steps w) (j : Nat) (hj : j < 16) : w.cell? ⟨0, j, none⟩ = (stepL[j]?).map (Value.int .i64) := by
 obtain ⟨b, off, he, _, hc⟩ := h.2 (by omega)
 cases he
 have := hc j (by simpa [encI, stepL] using hj)
 rw [Nat.zero_add] at this
 rw [this]; simp [encI]
/-- what the iterator over the neighbours of cell i reads -/
structure NbW (W : World) (pi pg : Nat) (c r : Nat) (A : Option Addr) (N cap : Nat) (l : List Int) (i : Nat) : Prop where
 gi : W.heap[pi]? = some (.cells #[.int .i64 i] 3 (0, 0))
 gg : W.heap[pg]? = some (.cells #[.int .i64 c, .int .i64 r, .slice A N cap] 35 (0, 0))
 rd : RdI W A N l
 st : Steps W
def stv (k : Nat) : Int × Int := Im.stps.getD k (0, 0)
theorem idx222 (k : Nat) (h : k < 8) (W : World) : (Instr.index 222 (.agg #[.int .i64 (-1), .int .i64 (-1), .int .i64 0, .int .i64 (-1), .int .i64 1, .int .i64 (-1), .int .i64 (-1), .int .i64 0, .int .i64 1, .int .i64 0, .int .i64 (-1), .int .i64 1, .int .i64 0, .int .i64 1, .int .i64 1, .int .i64 1]) (.int .i64 k)).run Tryz.prog W = .ok (.agg #[.int .i64 (stv k).1, .int .i64 (stv k).2]) W := by
 match k, h with
 | 0, _ => (show _ = _); kernel_rfl
 | 1, _ => (show _ = _); kernel_rfl
 | 2, _ => (show _ = _); kernel_rfl
 | 3, _ => (show _ = _); kernel_rfl
 | 4, _ => (show _ = _); kernel_rfl
 | 5, _ => (show _ = _); kernel_rfl
 | 6, _ => (show _ = _); kernel_rfl
 | 7, _ => (show _ = _); kernel_rfl
/-- the neighbours behind the first k steps -/
def nbp (c r : Nat) (l : List Int) (i k : Nat) : List (Nat × Int) := (Im.stps.take k).filterMap (Im.nb1 c r l i)
theorem nbp_all (c r : Nat) (l : List Int) (i : Nat) : nbp c r l i 8 = Im.nbs c r l i := rfl
theorem stps_take {k : Nat} (h : k < 8) : Im.stps.take (k + 1) = Im.stps.take k ++ [stv k] ∧ Im.stps = Im.stps.take k ++ stv k :: Im.stps.drop (k + 1) := by
 match k, h with
 | 0, _ => exact ⟨rfl, rfl⟩
 | 1, _ => exact ⟨rfl, rfl⟩
 | 2, _ => exact ⟨rfl, rfl⟩
 | 3, _ => exact ⟨rfl, rfl⟩
 | 4, _ => exact ⟨rfl, rfl⟩
 | 5, _ => exact ⟨rfl, rfl⟩
 | 6, _ => exact ⟨rfl, rfl⟩
 | 7, _ => exact ⟨rfl, rfl⟩
theorem nbp_none {c r : Nat} {l : List Int} {i k : Nat} (h : k < 8) (hn : Im.nb1 c r l i (stv k) = none) : nbp c r l i (k + 1) = nbp c r l i k := by
 unfold nbp; rw [(stps_take h).1, List.filterMap_append]; simp [hn]
theorem nbp_some {c r : Nat} {l : List Int} {i k : Nat} {x : Nat × Int} (h : k < 8) (hn : Im.nb1 c r l i (stv k) = some x) :
  nbp c r l i (k + 1) = nbp c r l i k ++ [x] ∧ ∃ suf, Im.nbs c r l i = nbp c r l i k ++ x :: suf := by
 refine ⟨by unfold nbp; rw [(stps_take h).1, List.filterMap_append]; simp [hn], (Im.stps.drop (k + 1)).filterMap (Im.nb1 c r l i), ?_⟩
 unfold nbp Im.nbs
 conv => lhs; rw [(stps_take h).2]
 rw [List.filterMap_append]; simp [hn]
theorem stv_rng (k : Nat) (h : k < 8) : -1 ≤ (stv k).1 ∧ (stv k).1 ≤ 1 ∧ -1 ≤ (stv k).2 ∧ (stv k).2 ≤ 1 ∧ stv k ∈ Im.stps := by
 match k, h with
 | 0, _ => decide
 | 1, _ => decide
 | 2, _ => decide
 | 3, _ => decide
 | 4, _ => decide
 | 5, _ => decide
 | 6, _ => decide
 | 7, _ => decide
/-- the iterator over the neighbours of a cell -/
theorem nbs_in (n : Nat) (hn : 1 ≤ n) (lr pi pg : Nat) {c r : Nat} {l : List Int} (g : Im.Gr c r l) (hc : c ≤ 16) (hr : r ≤ 16) {A : Option Addr} {N cap : Nat} {i : Nat} (hi : i < l.length)
  (J : List (Nat × Int) → World → Prop) (Jx : World → Prop)
  (hK : ∀ pre W, J pre W → NbW W pi pg c r A N cap l i)
  (hst : ∀ pre W W1, J pre W → Below W.heap.size W W1 → J pre W1)
  (hY : ∀ pre x suf W, Im.nbs c r l i = pre ++ x :: suf → J pre W → YieldAt Fence.wide (n - 1) Tryz.prog lr #[.int .i64 (x.1 : Nat), .int .i64 x.2] W fun e W' => (e = .returned (.bool true) ∧ J (pre ++ [x]) W') ∨ (e = .returned (.bool false) ∧ Jx W'))
  (W : World) (h0 : J [] W) :
  CallsIn Fence.wide n Tryz.prog 158 #[.func (.yield lr) #[] #[], .pointer (some ⟨pi, 0, none⟩), .pointer (some ⟨pg, 0, none⟩)] W fun e W' => (∃ v, e = .returned v) ∧ (J (Im.nbs c r l i) W' ∨ Jx W') := by
 have HY := Lib.hid hY
 have HST := Lib.hid hst
 have hk0 := hK [] W h0
 have HST0 := hk0.st
 have s0 : W.cell? ⟨0, 0, none⟩ = some (.int .i64 (-1)) := HST0.at 0 (by omega)
 have s1 : W.cell? ⟨0, 1, none⟩ = some (.int .i64 (-1)) := HST0.at 1 (by omega)
 have s2 : W.cell? ⟨0, 2, none⟩ = some (.int .i64 0) := HST0.at 2 (by omega)
 have s3 : W.cell? ⟨0, 3, none⟩ = some (.int .i64 (-1)) := HST0.at 3 (by omega)
 have s4 : W.cell? ⟨0, 4, none⟩ = some (.int .i64 1) := HST0.at 4 (by omega)
 have s5 : W.cell? ⟨0, 5, none⟩ = some (.int .i64 (-1)) := HST0.at 5 (by omega)
 have s6 : W.cell? ⟨0, 6, none⟩ = some (.int .i64 (-1)) := HST0.at 6 (by omega)
 have s7 : W.cell? ⟨0, 7, none⟩ = some (.int .i64 0) := HST0.at 7 (by omega)
 have s8 : W.cell? ⟨0, 8, none⟩ = some (.int .i64 1) := HST0.at 8 (by omega)
 have s9 : W.cell? ⟨0, 9, none⟩ = some (.int .i64 0) := HST0.at 9 (by omega)
 have s10 : W.cell? ⟨0, 10, none⟩ = some (.int .i64 (-1)) := HST0.at 10 (by omega)
 have s11 : W.cell? ⟨0, 11, none⟩ = some (.int .i64 1) := HST0.at 11 (by omega)
 have s12 : W.cell? ⟨0, 12, none⟩ = some (.int .i64 0) := HST0.at 12 (by omega)
 have s13 : W.cell? ⟨0, 13, none⟩ = some (.int .i64 1) := HST0.at 13 (by omega)
 have s14 : W.cell? ⟨0, 14, none⟩ = some (.int .i64 1) := HST0.at 14 (by omega)
 have s15 : W.cell? ⟨0, 15, none⟩ = some (.int .i64 1) := HST0.at 15 (by omega)
 clear hY hst hk0 HST0
 refine callsIn_of_wp Tryz.func158 rfl trivial ?_ rfl
 simp only [Tryz.ntmps158, List.size_toArray, List.length_cons, List.length_nil, Nat.reduceAdd, Nat.reduceSub, Array.replicate_succ, Array.replicate_zero, List.push_toArray, List.append_toArray, List.nil_append, List.cons_append]
 gi_wp2
 gi_loopw [10] (fun x wr => ∃ k : Nat, k ≤ 8 ∧ x = .int .i64 k ∧ J (nbp c r l i k) wr) (fun x _ => 8 - (intOf x).toNat)
 case atStart => exact ⟨0, by omega, rfl, h0⟩
 case round =>
  clear s0 s1 s2 s3 s4 s5 s6 s7 s8 s9 s10 s11 s12 s13 s14 s15
  obtain ⟨k, hk, rfl, hJ⟩ := hrel
  by_cases hlt : k < 8
  ·obtain ⟨k1, k2, k3, k4⟩ := hK _ _ hJ
   obtain ⟨d1, d2, d3, d4, d5⟩ := stv_rng k hlt
   have hix := fun W => idx222 k hlt W
   obtain ⟨dx, hdx⟩ : ∃ z, z = (stv k).1 := ⟨_, rfl⟩
   obtain ⟨dy, hdy⟩ : ∃ z, z = (stv k).2 := ⟨_, rfl⟩
   have hst : stv k = (dx, dy) := by rw [hdx, hdy]
   rw [← hdx] at d1 d2 hix
   rw [← hdy] at d3 d4 hix
   have HN := Lib.hid (fun h => nbp_none (c := c) (r := r) (l := l) (i := i) hlt (by rw [hst]; exact h))
   have HS := Lib.hid (fun x h => nbp_some (c := c) (r := r) (l := l) (i := i) (x := x) hlt (by rw [hst]; exact h))
   have hcp := g.c1
   have hlen := g.len
   have hrN := k3.len
   obtain ⟨b, off, xi, rfl, hxi, hb, hci⟩ := k3.at (k := i) (by rw [← hrN]; exact hi)
   have h256 : c * r ≤ 256 := Nat.mul_le_mul hc hr
   have hcz : ¬ c = 0 := by omega
   have hmod : (i : Int).tmod (c : Int) = ((i % c : Nat) : Int) := Int.ofNat_tmod _ _
   have hquo : (i : Int).tdiv (c : Int) = ((i / c : Nat) : Int) := Int.ofNat_tdiv _ _
   have hwq : IntKind.i64.wrap ((i / c : Nat) : Int) = ((i / c : Nat) : Int) := wrapN (Nat.le_trans (Nat.div_le_self i c) (by omega))
   obtain ⟨mx, hmx⟩ : ∃ z, z = i % c := ⟨_, rfl⟩
   obtain ⟨my, hmy⟩ : ∃ z, z = i / c := ⟨_, rfl⟩
   have hmxc : mx < c := by rw [hmx]; exact Nat.mod_lt _ hcp
   have hmyr : my < r := by rw [hmy, Nat.div_lt_iff_lt_mul hcp, Nat.mul_comm, ← hlen]; exact hi
   rw [← hmx] at hmod
   rw [← hmy] at hquo hwq
   have hbel : Below wr.heap.size wr (wr.alloc (Obj.cells #[.int .i64 dx, .int .i64 dy] 221)) := (Below.refl _ _).alloc (Nat.le_refl _) _
   obtain ⟨W2, hW2⟩ : ∃ W2, W2 = wr.alloc (Obj.cells #[.int .i64 dx, .int .i64 dy] 221) := ⟨_, rfl⟩
   rw [← hW2] at hbel
   have hd : W2.heap[wr.heap.size]? = some (Obj.cells #[.int .i64 dx, .int .i64 dy] 221) := by rw [hW2]; exact heap_new rfl
   obtain ⟨e5, he5⟩ : ∃ z, z = wr.heap.size := ⟨_, rfl⟩
   rw [← he5] at hd
   have hJ2 := HST.out _ _ _ hJ hbel
   have K2 := hK _ _ hJ2
   have q0 : W2.cell? ⟨pi, 0, none⟩ = some (.int .i64 i) := cell_at K2.gi rfl
   have p0 : W2.cell? ⟨pg, 0, none⟩ = some (.int .i64 c) := cell_at K2.gg rfl
   have p1 : W2.cell? ⟨pg, 1, none⟩ = some (.int .i64 r) := cell_at K2.gg rfl
   have p2 : W2.cell? ⟨pg, 2, none⟩ = some (.slice (some ⟨b, off, none⟩) N cap) := cell_at K2.gg rfl
   have e0 : W2.cell? ⟨e5, 0, none⟩ = some (.int .i64 dx) := cell_at hd rfl
   have e1 : W2.cell? ⟨e5, 1, none⟩ = some (.int .i64 dy) := cell_at hd rfl
   have hpi := cell_lt q0
   have hpg := cell_lt p0
   have hpe := cell_lt e0
   have hwx : IntKind.i64.wrap ((mx : Int) + dx) = (mx : Int) + dx := wrapI (by omega)
   have hwy : IntKind.i64.wrap ((my : Int) + dy) = (my : Int) + dy := wrapI (by omega)
   have HJ2 := Lib.hid hJ2
   have HK := Lib.hid hK
   have HX := Lib.hid hmx
   have HY2 := Lib.hid hmy
   have HST2 := Lib.hid hst
   clear k1 k2 k3 k4 hxi hb hci hmx hmy hst hdx hdy hJ hJ2 K2 hK hd hbel
   gi_wp2
   rw [← hW2, ← he5]
   clear hW2 he5
   refine wpIn_wide.2 ?_
   refine wp_region_growG (by kernel_rfl) (by kernel_rfl) ?_
   repeat (go_big_quiet_step ((first | fail)))
   refine wpQuiet_nil (gw_out ?_)
   intro W3 hb3
   have hJ3 := HST.out _ _ _ HJ2.out hb3
   have K3 := HK.out _ _ hJ3
   have q0 : W3.cell? ⟨pi, 0, none⟩ = some (.int .i64 i) := cell_at K3.gi rfl
   have p0 : W3.cell? ⟨pg, 0, none⟩ = some (.int .i64 c) := cell_at K3.gg rfl
   have p1 : W3.cell? ⟨pg, 1, none⟩ = some (.int .i64 r) := cell_at K3.gg rfl
   have p2 : W3.cell? ⟨pg, 2, none⟩ = some (.slice (some ⟨b, off, none⟩) N cap) := cell_at K3.gg rfl
   have e0 := (hb3.cell (p := ⟨e5, 0, none⟩) hpe).trans e0
   have e1 := (hb3.cell (p := ⟨e5, 1, none⟩) hpe).trans e1
   have hgi := K3.rd.get (k := i) (by omega)
   have hpi := cell_lt q0
   have hpg := cell_lt p0
   have hpe := cell_lt e0
   have hgb := cell_lt hgi
   have HJ3 := Lib.hid hJ3
   have HRD := Lib.hid K3.rd
   obtain ⟨X, hX⟩ : ∃ X, X = (mx : Int) + dx := ⟨_, rfl⟩
   obtain ⟨Y, hY⟩ : ∃ Y, Y = (my : Int) + dy := ⟨_, rfl⟩
   have hnb : Im.nb1 c r l i (dx, dy) = if X < 0 ∨ (c : Int) ≤ X ∨ Y < 0 ∨ (r : Int) ≤ Y then none else some ((Y * c + X).toNat, Im.fac (dx, dy) * (Im.at0 l i + Im.at0 l (Y * c + X).toNat)) := by
    unfold Im.nb1
    rw [← HX.out, ← HY2.out, hX, hY]
   rw [← hX, ← hY]
   clear hX hY hwx hwy hmod hquo hwq hix hJ3 K3 HJ2 hb3 HX HY2
   by_cases hout : X < 0 ∨ (c : Int) ≤ X ∨ Y < 0 ∨ (r : Int) ≤ Y
   ·rw [if_pos hout] at hnb
    have hJ4 := HJ3.out
    rw [← HN.out hnb] at hJ4
    have HJ4 := Lib.hid hJ4
    clear hJ4 hnb
    by_cases a1 : X < 0
    ·have t1 : decide (X < 0) = true := by simpa using a1
     clear a1 hout
     gi_wp2
     go_roundw
     case rel => exact ⟨k + 1, by omega, by go_num, HJ4.out⟩
     case measure => simp [intOf]; omega
    ·have t1 : decide (X < 0) = false := by simpa using a1
     by_cases a2 : (c : Int) ≤ X
     ·have t2 : decide ((c : Int) ≤ X) = true := by simpa using a2
      clear a1 a2 hout
      gi_wp2
      go_roundw
      case rel => exact ⟨k + 1, by omega, by go_num, HJ4.out⟩
      case measure => simp [intOf]; omega
     ·have t2 : decide ((c : Int) ≤ X) = false := by simpa using a2
      by_cases a3 : Y < 0
      ·have t3 : decide (Y < 0) = true := by simpa using a3
       clear a1 a2 a3 hout
       gi_wp2
       go_roundw
       case rel => exact ⟨k + 1, by omega, by go_num, HJ4.out⟩
       case measure => simp [intOf]; omega
      ·have t3 : decide (Y < 0) = false := by simpa using a3
       have t4 : decide ((r : Int) ≤ Y) = true := by simp; omega
       clear a1 a2 a3 hout
       gi_wp2
       go_roundw
       case rel => exact ⟨k + 1, by omega, by go_num, HJ4.out⟩
       case measure => simp [intOf]; omega
   ·rw [if_neg hout] at hnb
    have hlt2 := (Im.nb1_some g d5 hi (by rw [HST2.out]; exact hnb)).1
    have t1 : decide (X < 0) = false := by simp; omega
    have t2 : decide ((c : Int) ≤ X) = false := by simp; omega
    have t3 : decide (Y < 0) = false := by simp; omega
    have t4 : decide ((r : Int) ≤ Y) = false := by simp; omega
    obtain ⟨hsn, suf, hsuf⟩ := HS.out _ hnb
    have hyc : 0 ≤ Y * (c : Int) ∧ Y * (c : Int) ≤ 256 := by
     refine ⟨Int.mul_nonneg (by omega) (by omega), ?_⟩
     have := Int.mul_le_mul (show Y ≤ 16 by omega) (show (c : Int) ≤ 16 by omega) (by omega) (by omega)
     omega
    have hwm : IntKind.i64.wrap (Y * (c : Int)) = Y * (c : Int) := wrapI (by omega)
    have hwn : IntKind.i64.wrap (Y * (c : Int) + X) = Y * (c : Int) + X := wrapI (by omega)
    obtain ⟨kk, hkk⟩ : ∃ z, z = (Y * c + X).toNat := ⟨_, rfl⟩
    have hkv : Y * (c : Int) + X = (kk : Int) := by omega
    rw [← hkk] at hnb hlt2 hsn hsuf
    rw [hkv] at hwn
    obtain ⟨xi, hxi⟩ : ∃ z, z = Im.at0 l i := ⟨_, rfl⟩
    obtain ⟨xk, hxk⟩ : ∃ z, z = Im.at0 l kk := ⟨_, rfl⟩
    have b1 := g.lo i hi
    have b2 := g.hi i hi
    have b3 := g.lo kk hlt2
    have b4 := g.hi kk hlt2
    have hgk := HRD.out.get (k := kk) (by omega)
    rw [← hxi] at hgi b1 b2 hsn hsuf
    rw [← hxk] at hgk b3 b4 hsn hsuf
    have hws : IntKind.i64.wrap (xi + xk) = xi + xk := wrapI (by omega)
    obtain ⟨F, hF⟩ : ∃ z, z = Im.fac (dx, dy) := ⟨_, rfl⟩
    have hF2 : F = 2 ∨ F = 3 := by rw [hF]; unfold Im.fac; split <;> simp
    rw [← hF] at hsn hsuf
    have H159 := Lib.hid (fun W => c159 dx dy W)
    rw [← hF] at H159
    obtain ⟨V, hV⟩ : ∃ z, z = F * (xi + xk) := ⟨_, rfl⟩
    have hwv : IntKind.i64.wrap (F * (xi + xk)) = V := by rw [hV]; exact wrapI (by rcases hF2 with rfl | rfl <;> omega)
    rw [← hV] at hsn hsuf
    have HSN := Lib.hid hsn
    have HSUF := Lib.hid hsuf
    clear hout hnb hsn hsuf hkk hxi hxk hF hV hF2 d5 hyc
    gi_wp2
    rw [hkv] at *
    clear hkv
    refine wpIn_region_splitW 16 (by kernel_rfl) (by kernel_rfl) ?_
    simp only [List.take_succ_cons, List.take_zero, List.drop_succ_cons, List.drop_zero]
    repeat (go_big_quiet_step ((first | (go_at_call 159; exact Calls.gw_of (H159.out _)))))
    refine wpQuiet_nil (gw_out ?_)
    intro W4 hb4
    obtain ⟨fn, tmps, assign, body, hy, hR⟩ := HY.out _ _ suf W4 HSUF.out (HST.out _ _ _ HJ3.out hb4)
    simp only at hy
    clear hb4
    gi_wp2
    refine hR.mono ?_
    rintro e W5 (⟨rfl, hJ5⟩ | ⟨rfl, hJx5⟩)
    ·rw [← HSN.out] at hJ5
     have HJ5 := Lib.hid hJ5
     clear hJ5 hy hR
     gi_wp2
     go_roundw
     case rel => exact ⟨k + 1, by omega, by go_num, HJ5.out⟩
     case measure => simp [intOf]; omega
    ·gi_wp2
     refine bodyPost_ret (results_none rfl _ _ _) rfl ?_
     exact ⟨⟨_, rfl⟩, .inr hJx5⟩
  ·obtain rfl : k = 8 := by omega
   gi_wp2
   go_end0
   exact ⟨⟨_, rfl⟩, .inl hJ⟩
end Go.Proofs.YtdimmlljjmmdbaaGreatDoor
/- From a law's contract to its row. -/
namespace Go.Proofs.YtdimmlljjmmdbaaGreatDoor
open Go.ChangeShapes Go.WideShapes Go.ChangeAt Go.RowKit Go.MakeChecks
set_option maxHeartbeats 1000000
set_option maxRecDepth 100000
theorem Tryz.own : ownKnob Tryz.prog.godebug = none := by kernel_rfl
theorem Tryz.laidOut : laidOutB Tryz.prog = true := by kernel_rfl
section
variable {H : Type} {enc : TypeId × Value → H}
theorem trodAll_below {W W' : World} (hb : Below W.heap.size W W') : ∀ (ts : List TypeId) (vs : List Value) (ds : List (DataW H)) (p : List MemPlace), (∀ t ∈ ts, (Tryz.prog.readableRec t && decide (t < Tryz.prog.types.size)) = true) →
  DataW.TrodAll enc Tryz.prog W 0 (fun _ => true) true ts vs ds p → (∀ x ∈ p, x.block < W.heap.size) → DataW.TrodAll enc Tryz.prog W' 0 (fun b => decide (b < W.heap.size)) true ts vs ds p
 | [], [], [], _, _, h, _ => h
 | t :: ts, v :: vs, d :: ds, p, ht, h, hlt => by
  obtain ⟨p1, q1, h1, h2, rfl⟩ := h
  have hh := ht t (by simp)
  rw [Bool.and_eq_true, decide_eq_true_eq] at hh
  exact ⟨p1, q1, Below.trod Tryz.laidOut hh.1 hh.2 h1 hb (fun x hx => hlt x (by simp [hx])), trodAll_below hb ts vs ds q1 (fun t ht' => ht t (by simp [ht'])) h2 (fun x hx => hlt x (by simp [hx])), rfl⟩
 | [], [], _ :: _, _, _, h, _ => h.elim
 | [], _ :: _, _, _, _, h, _ => h.elim
 | _ :: _, [], _, _, _, h, _ => h.elim
 | _ :: _, _ :: _, [], _, _, h, _ => h.elim
theorem post_law {f : Func} {s : ChangeSpec} {W W' : World} {args : Array Value} {ds gs : List (DataW H)} {before : List MemPlace} (hvars : s.vars = []) (hres : f.resultTypes = #[4]) (hro : (f.params.toList.all fun t => Tryz.prog.readableRec t && decide (t < Tryz.prog.types.size)) = true)
  (hfn : gs = [] → s.fn H (ds ++ gs) = { results := [.lit (.bool true)], args := ds }) (hW : DataW.Whole enc Tryz.prog f.params.toList s.vars false W args.toList ds gs before) (hB : Below W.heap.size W W') : s.post enc Tryz.prog f false true false false W args (.bool true) W' := by
 have hlt := hW.lt
 have hW' := hW
 obtain ⟨p, q, hA, hV, rfl, _, _⟩ := hW
 rw [hvars] at hV
 obtain ⟨rfl, rfl⟩ := trodVars_none hV
 have hf := hfn rfl
 refine ⟨ds, [], p ++ [], [], p, [], hW', ?_, ?_, ?_, hB.frame _, fun h => by cases h⟩
 ·rw [hf, hres]; exact trodAll_mk1 (shut_bool Tryz.underlying4 true)
 ·rw [hf]
  exact trodAll_below hB _ _ _ _ (List.all_eq_true.1 hro) hA (fun x hx => hlt x (by simp [hx]))
 ·rw [hf, hvars]; exact rfl
end
/-- the way from a contract at each shaped world to the row's runs -/
theorem handed_shaped {H : Type} {enc : TypeId × Value → H} {C : Checked} {os : Os} {f : FuncId} {fn : Func} {s : ChangeSpec} {X : World → Array Value → Prop}
  (hX : ∀ (w w' : World) (args : Array Value), w.heap = w'.heap → X w args → X w' args) (own : ownKnob C.prog.godebug = none) (started : os.Started) (noInit : C.prog.inits.idxOf? f = none) (hfn : C.prog.funcs[f]? = some fn)
  (witness : ∃ (w : World) (tape : Tape) (i : Input), w.os = os ∧ (w.forCall tape i).Shaped C.prog ∧ i.vars = [] ∧ Input.okWide C.prog (w.forCall tape i) .any w.heap.size f i ∧
   ((s.pre enc C.prog fn [] false (w.forCall tape i).memory i.args ∧ X (w.forCall tape i).memory i.args) ∧ sizedMet enc C.prog fn (OpenSpec.ofChange s) false (w.forCall tape i).memory i.args) ∧ ({} : Assume).holds C.prog (lone (Frame.enter C.prog f i.args .normal) [] (w.forCall tape i)))
  (contract : ∀ (W : World) (base : Nat) (args : Array Value) (ds gs : List (DataW H)) (before : List MemPlace), W.ShapedOpen C.prog →
   (∀ (j : Nat) t v, fn.params[j]? = some t → args[j]? = some v → Value.okWide C.prog W .any base t v) →
   DataW.Whole enc C.prog fn.params.toList s.vars false W args.toList ds gs before → X W args →
   Calls C.prog f args W fun e W' => ∃ v, e = .returned v ∧ s.post enc C.prog fn false true false false W args v W') :
  ReturnsInHanded {} C os f .any (fun w args => (s.pre enc C.prog fn [] false w args ∧ X w args) ∧ sizedMet enc C.prog fn (OpenSpec.ofChange s) false w args) (s.post enc C.prog fn false true false false) := by
 refine returnsInHanded_of_calls own started noInit witness fun w tape i _ hsh _ hok hpre _ => ?_
 obtain ⟨⟨⟨ds, gs, before, hw, _⟩, hx⟩, _⟩ := hpre
 obtain ⟨_, _, _, fn', hfn', _, _, _, _, hval⟩ := hok
 obtain rfl : fn' = fn := Option.some.inj (hfn'.symm.trans hfn)
 refine (contract (w.forCall tape i) w.heap.size i.args ds gs before hsh hval (DataW.Whole.of_heap (w := (w.forCall tape i).memory) (w' := w.forCall tape i) (by rfl) hw) (hX (w.forCall tape i).memory (w.forCall tape i) _ (by rfl) hx)).mono fun e W' ⟨v, he, hp⟩ => ?_
 subst he
 exact ChangeSpec.post_blind hp
def laidT : List (String × DataW Unit) := Rows.imageInnersRow.laid
theorem laid_plain (w : World) (h : laidMetH Tryz.prog laidT w) : laidMet Tryz.prog laidT w := by
 rw [laidMetH_plain Tryz.prog laidT w (by kernel_rfl)] at h
 exact h
section
variable {H : Type} {enc : TypeId × Value → H} {w : World} {base : Nat} {spare : Nat → Bool} {held : Bool}
/-- a pair of integers, read -/
theorem pair_cells {e : TypeId} {n : Nat} {cs : List Value} {x : DataW H × List MemPlace} (ht : Tryz.prog.underlying e = some (.array 2 3)) (h3 : Tryz.prog.cellsOf 3 = 1) (hc : Tryz.prog.cellsOf e = 2)
  (h : DataW.trod enc Tryz.prog w base spare held n e cs = some x) : ∃ a b, cs = [.int .i64 a, .int .i64 b] ∧ x.1 = .agg [.lit (.int .i64 a), .lit (.int .i64 b)] := by
 obtain ⟨xs, m, rfl, rfl, hl, hx, hf⟩ := DataW.trod_array ht h
 rw [hc] at hl
 match cs, hl with
 | [c0, c1], _ =>
  match xs, hx with
  | [x0, x1], _ =>
   have f0 := hf 0 (by omega)
   have f1 := hf 1 (by omega)
   rw [h3] at f0 f1
   obtain ⟨a, ea, ha, _⟩ := DataW.trod_int Tryz.underlying3 (show DataW.trod enc Tryz.prog w base spare held m 3 [c0] = some x0 by simpa using f0)
   obtain ⟨b, eb, hb, _⟩ := DataW.trod_int Tryz.underlying3 (show DataW.trod enc Tryz.prog w base spare held m 3 [c1] = some x1 by simpa using f1)
   simp at ea eb
   subst ea; subst eb; subst ha; subst hb
   exact ⟨a, b, rfl, rfl⟩
end
theorem steps_of (w : World) (h : laidMetH Tryz.prog laidT w) : Steps w := by
 have hl1 := laid_plain w h
 have hl2 : laidMet Tryz.prog (laidT.drop 3) w := hl1.tail.tail.tail
 obtain ⟨ps, ⟨g', t', cs, fuel, p, q, hg', ht', hvar, hd, _, _⟩, _⟩ := hl2
 have hg0 : some g' = some 0 := Eq.trans hg'.symm (by kernel_rfl)
 have hty : (Tryz.prog.globals[0]?).map (·.type) = some 222 := by kernel_rfl
 obtain rfl := Option.some.inj hg0
 obtain rfl := Option.some.inj (hty.symm.trans ht')
 obtain ⟨xs, m, rfl, hx, hl, hn, hf⟩ := DataW.trod_array Tryz.underlying222 hd
 have hc1 : Tryz.prog.cellsOf 222 = 16 := by kernel_rfl
 have hc2 : Tryz.prog.cellsOf 221 = 2 := by kernel_rfl
 have hc3 : Tryz.prog.cellsOf 3 = 1 := by kernel_rfl
 rw [hc1] at hl
 rw [hc2] at hf
 have hxs : Rows.laid_moveout_image_steps = DataW.agg (xs.map (·.1)) := congrArg Prod.fst hx
 have key : ∀ i, i < 8 → ∃ a b, (cs.toList.drop (i * 2)).take 2 = [.int .i64 a, .int .i64 b] ∧ (xs.map (·.1))[i]? = some (.agg [.lit (.int .i64 a), .lit (.int .i64 b)]) := by
  intro i hi
  have h1 := hf i hi
  have hix : i < xs.length := by omega
  rw [List.getElem?_eq_getElem hix] at h1
  obtain ⟨a, b, e1, e2⟩ := pair_cells Tryz.underlying221 hc3 hc2 h1
  exact ⟨a, b, e1, by rw [List.getElem?_map, List.getElem?_eq_getElem hix]; simp [e2]⟩
 have hlist : xs.map (·.1) = [.agg [.lit (.int .i64 (-1)), .lit (.int .i64 (-1))], .agg [.lit (.int .i64 0), .lit (.int .i64 (-1))], .agg [.lit (.int .i64 1), .lit (.int .i64 (-1))], .agg [.lit (.int .i64 (-1)), .lit (.int .i64 0)], .agg [.lit (.int .i64 1), .lit (.int .i64 0)], .agg [.lit (.int .i64 (-1)), .lit (.int .i64 1)], .agg [.lit (.int .i64 0), .lit (.int .i64 1)], .agg [.lit (.int .i64 1), .lit (.int .i64 1)]] := by
  have := hxs.symm
  unfold Rows.laid_moveout_image_steps at this
  simpa using this
 rw [hlist] at key
 have cell : ∀ i, i < 8 → ∀ j, j < 2 → cs.toList[i * 2 + j]? = (encI stepL)[i * 2 + j]? := by
  intro i hi j hj
  obtain ⟨a, b, e1, e2⟩ := key i hi
  have h1 : cs.toList[i * 2 + j]? = ((cs.toList.drop (i * 2)).take 2)[j]? := by
   rw [List.getElem?_take, if_pos hj, List.getElem?_drop]
  rw [h1, e1]
  have h8 : i = 0 ∨ i = 1 ∨ i = 2 ∨ i = 3 ∨ i = 4 ∨ i = 5 ∨ i = 6 ∨ i = 7 := by omega
  have h2 : j = 0 ∨ j = 1 := by omega
  rcases h8 with rfl | rfl | rfl | rfl | rfl | rfl | rfl | rfl <;> simp at e2 <;> obtain ⟨rfl, rfl⟩ := e2 <;> rcases h2 with rfl | rfl <;> rfl
 have hcell : ∀ k, k < 16 → w.cell? ⟨0, k, none⟩ = (encI stepL)[k]? := by
  intro k hk
  have h1 := World.var?_cell hg' hvar k
  rw [h1]
  have h2 := cell (k / 2) (by omega) (k % 2) (by omega)
  rw [show k / 2 * 2 + k % 2 = k by omega] at h2
  rw [← h2, Array.getElem?_toList]
 refine ⟨rfl, fun _ => ⟨0, 0, rfl, ?_, fun j hj => ?_⟩⟩
 ·have h0 := hcell 0 (by omega)
  have h1 : (encI stepL)[0]? = some (.int .i64 (-1)) := rfl
  rw [h1] at h0
  unfold World.cell? at h0
  by_cases hb : 0 < w.heap.size
  ·exact hb
  ·rw [Array.getElem?_eq_none (Nat.le_of_not_lt hb)] at h0
   simp at h0
 ·rw [Nat.zero_add]
  exact hcell j (by simpa [encI, stepL] using hj)
section
variable {H : Type} {enc : TypeId × Value → H} {W : World} {base : Nat} {v : Value} {d : DataW H} {p : List MemPlace}
theorem leaf_arg {t : TypeId} {fs : Array Field} {ts : List TypeId} (hs : Tryz.prog.underlying t = some (.struct fs)) (hv : Value.okWide Tryz.prog W .any base t v) (h : DataW.Trod enc Tryz.prog W 0 (fun _ => true) true t v d p) (hl : leaves Tryz.prog 8 t = some ts) :
  ∃ cs : List Value, v = .agg cs.toArray ∧ LeafAll enc Tryz.prog W 0 (fun _ => true) true ts cs := by
 obtain ⟨cs, rfl, _⟩ := okWide_struct hs hv
 obtain ⟨fuel, hf⟩ := h
 exact ⟨cs.toList, by simp, leaves_trod 8 t ts _ _ _ hl hf⟩
theorem sl22 {n : Nat} {y : DataW H × List MemPlace} (h : DataW.trod enc Tryz.prog W 0 (fun _ => true) true n 22 [v] = some y) : ∃ A cap l, v = .slice A (List.length l) cap ∧ RdI W A l.length l := by
 have hα : ∀ cs, LeafAll enc Tryz.prog W 0 (fun _ => true) true [3] cs → ∃ x : Int, cs = [Value.int .i64 x] ∧ True := by
  intro cs hc0
  obtain ⟨x0, r0, rfl, _, hc1⟩ := hc0.int Tryz.underlying3
  obtain rfl := hc1.nil
  exact ⟨x0, rfl, trivial⟩
 obtain ⟨A, cap, l, h1, h2, _⟩ := rdl_open (enc' := fun x : Int => [Value.int .i64 x]) (Q := fun _ => True) (ts := [3]) (size := 1) (n := 8) Tryz.underlying22 (by kernel_rfl) (by kernel_rfl) rfl (by decide) hα h
 refine ⟨A, cap, l, h1, ?_⟩
 have e : ∀ l : List Int, l.flatMap (fun x => [Value.int .i64 x]) = encI l := by
  intro l
  induction l with
  | nil => rfl
  | cons a l ih => simp [encI, ih]
 unfold RdL at h2
 rw [e] at h2
 exact h2
theorem open_ground (hv : Value.okWide Tryz.prog W .any base 24 v) (h : DataW.Trod enc Tryz.prog W 0 (fun _ => true) true 24 v d p) : ∃ c r A cap l, v = .agg #[.int .i64 c, .int .i64 r, .slice A (List.length l) cap] ∧ RdI W A l.length l := by
 obtain ⟨cs, rfl, hc0⟩ := leaf_arg (ts := [3, 3, 22]) Tryz.underlying24 hv h (by kernel_rfl)
 obtain ⟨x0, r0, rfl, _, hc1⟩ := hc0.int Tryz.underlying3
 obtain ⟨x1, r1, rfl, _, hc2⟩ := hc1.int Tryz.underlying3
 obtain ⟨x2, r2, rfl, ⟨n, y, h2⟩, hc3⟩ := hc2.head
 obtain rfl := hc3.nil
 obtain ⟨A, cap, l, rfl, hr⟩ := sl22 h2
 exact ⟨x0, x1, A, cap, l, rfl, hr⟩
end
end Go.Proofs.YtdimmlljjmmdbaaGreatDoor
