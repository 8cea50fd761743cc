/- A part of the proofs about chapter 7 (image): contracts of functions and plain laws (V23, V24, V25, V26, PUnits, PFit, V28). -/
import Derived.Test.YtdimmlljjmmdbaaGreatDoorZ14b
import Derived.Test.YtdimmlljjmmdbaaGreatDoorZ14d
set_option linter.all false
namespace Go.Proofs.YtdimmlljjmmdbaaGreatDoor
open Go.RowKit
set_option maxHeartbeats 8000000
set_option maxRecDepth 20000
namespace Mo
theorem first_one (a : Int) : first [a] = a := by
 rw [first_cons]
 split
 ·rfl
 ·rename_i h
  have : a = 0 := by simpa using h
  rw [this]; rfl
def pair (n : Int) (p : Pr) : Int := first [cell n p.s, cell n p.r]
def surv0 (c r : Int) (l : List Int) (un len most np : Int) : Int := first [ground c r l, range un 1 1000, range len 1 256, range most 0 256, when (decide (16 < np)) 5]
def surv (c r : Int) (l : List Int) (un len most : Int) (ps : List Pr) : Int := first [surv0 c r l un len most ps.length, first (ps.map (pair l.length))]
end Mo
theorem c96 (c r : Int) (A : Option Addr) (n cap : Nat) (p : Pr) (gb : Nat) (w : World) (hg : w.heap[gb]? = some (.cells #[.int .i64 c, .int .i64 r, .slice A n cap] 35 (0, 0))) :
  Calls Tryz.prog 96 #[.agg #[.int .i64 p.s, .int .i64 p.r, .bool p.h], .pointer (some ⟨gb, 0, none⟩)] w fun en w' => en = .returned (.int .i64 (Mo.pair n p)) ∧ Below w.heap.size w w' := by
 obtain ⟨w0, hW⟩ : ∃ W, W = w.alloc (Obj.cells #[.int .i64 p.s, .int .i64 p.r, .bool p.h] 148) := ⟨_, rfl⟩
 have hT0 : w0.heap[w.heap.size]? = some (.cells #[.int .i64 p.s, .int .i64 p.r, .bool p.h] 148 (0, 0)) := by rw [hW]; exact heap_new (by simp)
 have hB0 : Below w.heap.size w w0 := by rw [hW]; exact ((Below.refl _ _).alloc (by first | omega | (simp <;> omega)) _)
 replace hg := blkb hg hB0
 go_enter Tryz.func96, Tryz.ntmps96
 go_wp2_with fail
 rw [← hW]
 clear hW
 have qhT0_0 : w0.cell? ⟨w.heap.size, 0, none⟩ = some (.int .i64 p.s) := cell_at hT0 rfl
 have qhT0_1 : w0.cell? ⟨w.heap.size, 1, none⟩ = some (.int .i64 p.r) := cell_at hT0 rfl
 have qhT0_2 : w0.cell? ⟨w.heap.size, 2, none⟩ = some (.bool p.h) := cell_at hT0 rfl
 have qhg_0 : w0.cell? ⟨gb, 0, none⟩ = some (.int .i64 c) := cell_at hg rfl
 have qhg_1 : w0.cell? ⟨gb, 1, none⟩ = some (.int .i64 r) := cell_at hg rfl
 have qhg_2 : w0.cell? ⟨gb, 2, none⟩ = some (.slice A n cap) := cell_at hg rfl
 refine wp_region_plan [(0, true), (1, true), (2, true), (4, true), (5, true), (6, true), (3, false), (7, false), (8, false), (9, false), (10, true)] w0.heap.size (by kernel_rfl) (by kernel_rfl) (Nat.le_refl _) (fun _ _ d _ _ h => by cases d <;> exact h) ?_
 have hC : Below w0.heap.size w0 w0 := Below.refl _ _
 have zhT0 : w.heap.size < w0.heap.size := (Array.getElem?_eq_some_iff.1 hT0).1
 have zhg : gb < w0.heap.size := (Array.getElem?_eq_some_iff.1 hg).1
 repeat (first | (refine wpPlanA_skip _ rfl (by rfl) ?_; simp only [Act.put, List.setIfInBounds_toArray, List.set_cons_zero, List.set_cons_succ]) | (refine wpPlanA_soft _ ?_ rfl (by rfl) ?_ ?_; rotate_left; (intro wq hq hcq; go_simp; first | exact rfl | exact ⟨rfl, rfl⟩); simp only [Act.put, List.setIfInBounds_toArray, List.set_cons_zero, List.set_cons_succ]))
 refine wpPlanA_hard _ rfl (by rfl) (fun w1 hS K hK => ?_)
 have hB1 := hB0.call hS rfl
 replace hC := hC.call hS rfl
 replace hT0 := blkb hT0 hS
 replace hg := blkb hg hS
 clear hS hB0
 go_simp
 refine (c97 c r A n cap p.s _).mono ?_
 rintro e w2 ⟨rfl, hb⟩
 have hB2 := hB1.call hb rfl
 replace hC := hC.call hb rfl
 replace hT0 := blkb hT0 hb
 replace hg := blkb hg hb
 clear hb hB1
 refine hK _ _ hC ?_
 clear hK K
 try simp only [Act.put, List.setIfInBounds_toArray, List.set_cons_zero, List.set_cons_succ]
 refine wpPlanA_hard _ rfl (by rfl) (fun w3 hS K hK => ?_)
 have hB3 := hB2.call hS rfl
 replace hC := hC.call hS rfl
 replace hT0 := blkb hT0 hS
 replace hg := blkb hg hS
 clear hS hB2
 go_simp
 refine (c97 c r A n cap p.r _).mono ?_
 rintro e w4 ⟨rfl, hb⟩
 have hB4 := hB3.call hb rfl
 replace hC := hC.call hb rfl
 replace hT0 := blkb hT0 hb
 replace hg := blkb hg hb
 clear hb hB3
 refine hK _ _ hC ?_
 clear hK K
 try simp only [Act.put, List.setIfInBounds_toArray, List.set_cons_zero, List.set_cons_succ]
 refine wpPlanA_hard _ rfl (by rfl) (fun w5 hS K hK => ?_)
 have hB5 := hB4.call hS rfl
 replace hC := hC.call hS rfl
 replace hT0 := blkb hT0 hS
 replace hg := blkb hg hS
 clear hS hB4
 go_simp
 have hb : Below w5.heap.size w5 (w5.alloc (Obj.cells #[.int .i64 (Mo.cell n p.s), .int .i64 (Mo.cell n p.r)] 32)) := (Below.refl _ _).alloc (Nat.le_refl _) _
 have k1 : (w5.alloc (Obj.cells #[.int .i64 (Mo.cell n p.s), .int .i64 (Mo.cell n p.r)] 32)).heap[w5.heap.size]? = some (Obj.cells #[.int .i64 (Mo.cell n p.s), .int .i64 (Mo.cell n p.r)] 32) := heap_new rfl
 refine hK _ _ (hC.alloc hC.size _) ?_
 clear hK K
 replace hC := hC.call hb rfl
 have hB6 := hB5.call hb rfl
 replace hT0 := blkb hT0 hb
 replace hg := blkb hg hb
 clear hb hB5
 generalize hWn : w5.alloc (Obj.cells #[.int .i64 (Mo.cell n p.s), .int .i64 (Mo.cell n p.r)] 32) = w6 at k1 hC hB6 hT0 hg ⊢
 clear hWn
 generalize hWn : w5.heap.size = bk1 at k1 ⊢
 clear hWn
 try simp only [Act.put, List.setIfInBounds_toArray, List.set_cons_zero, List.set_cons_succ]
 refine wpPlanA_hard _ rfl (by rfl) (fun w7 hS K hK => ?_)
 have hB7 := hB6.call hS rfl
 replace hC := hC.call hS rfl
 replace hT0 := blkb hT0 hS
 replace hg := blkb hg hS
 replace k1 := blkb k1 hS
 clear hS hB6
 go_simp
 refine (c89 _ 2 2 [Mo.cell n p.s, Mo.cell n p.r] _ rfl (by omega) (RdS.of_block (cs := encI [Mo.cell n p.s, Mo.cell n p.r]) k1 rfl)).mono ?_
 rintro e w' ⟨rfl, rfl⟩
 refine hK _ _ hC ?_
 clear hK K
 try simp only [Act.put, List.setIfInBounds_toArray, List.set_cons_zero, List.set_cons_succ]
 repeat (first | (refine wpPlanA_skip _ rfl (by rfl) ?_; simp only [Act.put, List.setIfInBounds_toArray, List.set_cons_zero, List.set_cons_succ]) | (refine wpPlanA_soft _ ?_ rfl (by rfl) ?_ ?_; rotate_left; (intro wq hq hcq; go_simp; first | exact rfl | exact ⟨rfl, rfl⟩); simp only [Act.put, List.setIfInBounds_toArray, List.set_cons_zero, List.set_cons_succ]))
 clear k1
 clear qhT0_0 qhT0_1 qhT0_2 qhg_0 qhg_1 qhg_2
 refine wpPlanA_nil (fun w8 hS => ?_)
 clear hC zhT0 zhg
 have hB8 := hB7.call hS rfl
 replace hT0 := blkb hT0 hS
 replace hg := blkb hg hS
 clear hS hB7
 have qhT0_0 : w8.cell? ⟨w.heap.size, 0, none⟩ = some (.int .i64 p.s) := cell_at hT0 rfl
 have qhT0_1 : w8.cell? ⟨w.heap.size, 1, none⟩ = some (.int .i64 p.r) := cell_at hT0 rfl
 have qhT0_2 : w8.cell? ⟨w.heap.size, 2, none⟩ = some (.bool p.h) := cell_at hT0 rfl
 have qhg_0 : w8.cell? ⟨gb, 0, none⟩ = some (.int .i64 c) := cell_at hg rfl
 have qhg_1 : w8.cell? ⟨gb, 1, none⟩ = some (.int .i64 r) := cell_at hg rfl
 have qhg_2 : w8.cell? ⟨gb, 2, none⟩ = some (.slice A n cap) := cell_at hg rfl
 go_wp2
 go_ret
 exact ⟨rfl, hB8⟩
theorem c25 (c r : Int) (A : Option Addr) (n cap : Nat) (l : List Int) (un len most : Int) (P : Option Addr) (np capp : Nat) (ps : List Pr) (w : World) (hl : n ≤ 1000000) (hp : np ≤ 1000000) (H : RdI w A n l) (HP : RdP w P np ps) :
  Calls Tryz.prog 25 #[.agg #[.int .i64 c, .int .i64 r, .slice A n cap], .agg #[.int .i64 un, .int .i64 len, .int .i64 most, .slice P np capp]] w fun en w' => en = .returned (.int .i64 (Mo.surv c r l un len most ps)) ∧ Below w.heap.size w w' := by
 have HLN := Lib.hid H.len
 have HPN := Lib.hid HP.len
 obtain ⟨E, hE⟩ : ∃ E, E = Mo.first [Mo.ground c r l, Mo.range un 1 1000, Mo.range len 1 256, Mo.range most 0 256, Mo.when (decide (16 < (np : Int))) 5] := ⟨_, rfl⟩
 obtain ⟨V, hV⟩ : ∃ V, V = Mo.surv c r l un len most ps := ⟨_, rfl⟩
 have HE := Lib.hid hE
 have HA : Hid (E ≠ 0 → V = E) := Lib.hid (fun h => by rw [hV]; unfold Mo.surv Mo.surv0; rw [HPN.out, ← hE, Mo.first_nz h])
 have HC : Hid (E = 0 → V = Mo.first (ps.map (Mo.pair n))) := Lib.hid (fun h => by rw [hV]; unfold Mo.surv Mo.surv0; rw [HPN.out, ← hE, Mo.first_z h, HLN.out, Mo.first_one])
 rw [← hV]
 clear hE hV
 obtain ⟨w0, hW⟩ : ∃ W, W = (w.alloc (Obj.cells #[.int .i64 c, .int .i64 r, .slice A n cap] 35)).alloc (Obj.cells #[.int .i64 un, .int .i64 len, .int .i64 most, .slice P np capp] 39) := ⟨_, rfl⟩
 have hT0 : w0.heap[w.heap.size]? = some (.cells #[.int .i64 c, .int .i64 r, .slice A n cap] 35 (0, 0)) := by rw [hW]; exact heap_old (by simp <;> omega) (heap_new (by simp))
 have hT1 : w0.heap[w.heap.size + 1]? = some (.cells #[.int .i64 un, .int .i64 len, .int .i64 most, .slice P np capp] 39 (0, 0)) := by rw [hW]; exact heap_new (by simp)
 have hB0 : Below w.heap.size w w0 := by rw [hW]; exact (((Below.refl _ _).alloc (by first | omega | (simp <;> omega)) _).alloc (by first | omega | (simp <;> omega)) _)
 replace H := H.below hB0
 replace HP := HP.below hB0
 go_enter Tryz.func25, Tryz.ntmps25
 go_wp2_with fail
 rw [← hW]
 clear hW
 have qhT0_0 : w0.cell? ⟨w.heap.size, 0, none⟩ = some (.int .i64 c) := cell_at hT0 rfl
 have qhT0_1 : w0.cell? ⟨w.heap.size, 1, none⟩ = some (.int .i64 r) := cell_at hT0 rfl
 have qhT0_2 : w0.cell? ⟨w.heap.size, 2, none⟩ = some (.slice A n cap) := cell_at hT0 rfl
 have qhT1_0 : w0.cell? ⟨w.heap.size + 1, 0, none⟩ = some (.int .i64 un) := cell_at hT1 rfl
 have qhT1_1 : w0.cell? ⟨w.heap.size + 1, 1, none⟩ = some (.int .i64 len) := cell_at hT1 rfl
 have qhT1_2 : w0.cell? ⟨w.heap.size + 1, 2, none⟩ = some (.int .i64 most) := cell_at hT1 rfl
 have qhT1_3 : w0.cell? ⟨w.heap.size + 1, 3, none⟩ = some (.slice P np capp) := cell_at hT1 rfl
 refine wp_region_plan [(0, true), (2, true), (3, true), (5, true), (6, true), (8, true), (9, true), (11, true), (12, true), (13, true), (14, true), (1, false), (4, false), (7, false), (10, false), (15, false), (16, false), (17, false), (18, true)] w0.heap.size (by kernel_rfl) (by kernel_rfl) (Nat.le_refl _) (fun _ _ d _ _ h => by cases d <;> exact h) ?_
 have hC : Below w0.heap.size w0 w0 := Below.refl _ _
 have zhT0 : w.heap.size < w0.heap.size := (Array.getElem?_eq_some_iff.1 hT0).1
 have zhT1 : w.heap.size + 1 < w0.heap.size := (Array.getElem?_eq_some_iff.1 hT1).1
 repeat (first | (refine wpPlanA_skip _ rfl (by rfl) ?_; simp only [Act.put, List.setIfInBounds_toArray, List.set_cons_zero, List.set_cons_succ]) | (refine wpPlanA_soft _ ?_ rfl (by rfl) ?_ ?_; rotate_left; (intro wq hq hcq; go_simp; first | exact rfl | exact ⟨rfl, rfl⟩); simp only [Act.put, List.setIfInBounds_toArray, List.set_cons_zero, List.set_cons_succ]))
 refine wpPlanA_hard _ rfl (by rfl) (fun w1 hS K hK => ?_)
 have hB1 := hB0.call hS rfl
 replace hC := hC.call hS rfl
 replace hT0 := blkb hT0 hS
 replace hT1 := blkb hT1 hS
 replace H := H.below hS
 replace HP := HP.below hS
 clear hS hB0
 go_simp
 refine (c64 c r A n cap l _ hl H).mono ?_
 rintro e w2 ⟨rfl, hb⟩
 have hB2 := hB1.call hb rfl
 replace hC := hC.call hb rfl
 replace hT0 := blkb hT0 hb
 replace hT1 := blkb hT1 hb
 replace H := H.below hb
 replace HP := HP.below hb
 clear hb hB1
 refine hK _ _ hC ?_
 clear hK K
 try simp only [Act.put, List.setIfInBounds_toArray, List.set_cons_zero, List.set_cons_succ]
 refine wpPlanA_hard _ rfl (by rfl) (fun w3 hS K hK => ?_)
 have hB3 := hB2.call hS rfl
 replace hC := hC.call hS rfl
 replace hT0 := blkb hT0 hS
 replace hT1 := blkb hT1 hS
 replace H := H.below hS
 replace HP := HP.below hS
 clear hS hB2
 go_simp
 refine (c93 un 1 1000 _).mono ?_
 rintro e w' ⟨rfl, rfl⟩
 refine hK _ _ hC ?_
 clear hK K
 try simp only [Act.put, List.setIfInBounds_toArray, List.set_cons_zero, List.set_cons_succ]
 refine wpPlanA_hard _ rfl (by rfl) (fun w4 hS K hK => ?_)
 have hB4 := hB3.call hS rfl
 replace hC := hC.call hS rfl
 replace hT0 := blkb hT0 hS
 replace hT1 := blkb hT1 hS
 replace H := H.below hS
 replace HP := HP.below hS
 clear hS hB3
 go_simp
 refine (c93 len 1 256 _).mono ?_
 rintro e w' ⟨rfl, rfl⟩
 refine hK _ _ hC ?_
 clear hK K
 try simp only [Act.put, List.setIfInBounds_toArray, List.set_cons_zero, List.set_cons_succ]
 refine wpPlanA_hard _ rfl (by rfl) (fun w5 hS K hK => ?_)
 have hB5 := hB4.call hS rfl
 replace hC := hC.call hS rfl
 replace hT0 := blkb hT0 hS
 replace hT1 := blkb hT1 hS
 replace H := H.below hS
 replace HP := HP.below hS
 clear hS hB4
 go_simp
 refine (c93 most 0 256 _).mono ?_
 rintro e w' ⟨rfl, rfl⟩
 refine hK _ _ hC ?_
 clear hK K
 try simp only [Act.put, List.setIfInBounds_toArray, List.set_cons_zero, List.set_cons_succ]
 refine wpPlanA_hard _ rfl (by rfl) (fun w6 hS K hK => ?_)
 have hB6 := hB5.call hS rfl
 replace hC := hC.call hS rfl
 replace hT0 := blkb hT0 hS
 replace hT1 := blkb hT1 hS
 replace H := H.below hS
 replace HP := HP.below hS
 clear hS hB5
 go_simp
 refine (c94 (decide (16 < (np : Int))) 5 _).mono ?_
 rintro e w' ⟨rfl, rfl⟩
 refine hK _ _ hC ?_
 clear hK K
 try simp only [Act.put, List.setIfInBounds_toArray, List.set_cons_zero, List.set_cons_succ]
 refine wpPlanA_hard _ rfl (by rfl) (fun w7 hS K hK => ?_)
 have hB7 := hB6.call hS rfl
 replace hC := hC.call hS rfl
 replace hT0 := blkb hT0 hS
 replace hT1 := blkb hT1 hS
 replace H := H.below hS
 replace HP := HP.below hS
 clear hS hB6
 go_simp
 have hb : Below w7.heap.size w7 (w7.alloc (Obj.cells #[.int .i64 (Mo.ground c r l), .int .i64 (Mo.range un 1 1000), .int .i64 (Mo.range len 1 256), .int .i64 (Mo.range most 0 256), .int .i64 (Mo.when (decide (16 < (np : Int))) 5)] 32)) := (Below.refl _ _).alloc (Nat.le_refl _) _
 have k1 : (w7.alloc (Obj.cells #[.int .i64 (Mo.ground c r l), .int .i64 (Mo.range un 1 1000), .int .i64 (Mo.range len 1 256), .int .i64 (Mo.range most 0 256), .int .i64 (Mo.when (decide (16 < (np : Int))) 5)] 32)).heap[w7.heap.size]? = some (Obj.cells #[.int .i64 (Mo.ground c r l), .int .i64 (Mo.range un 1 1000), .int .i64 (Mo.range len 1 256), .int .i64 (Mo.range most 0 256), .int .i64 (Mo.when (decide (16 < (np : Int))) 5)] 32) := heap_new rfl
 refine hK _ _ (hC.alloc hC.size _) ?_
 clear hK K
 replace hC := hC.call hb rfl
 have hB8 := hB7.call hb rfl
 replace hT0 := blkb hT0 hb
 replace hT1 := blkb hT1 hb
 replace H := H.below hb
 replace HP := HP.below hb
 clear hb hB7
 generalize hWn : w7.alloc (Obj.cells #[.int .i64 (Mo.ground c r l), .int .i64 (Mo.range un 1 1000), .int .i64 (Mo.range len 1 256), .int .i64 (Mo.range most 0 256), .int .i64 (Mo.when (decide (16 < (np : Int))) 5)] 32) = w8 at k1 hC hB8 hT0 hT1 H HP ⊢
 clear hWn
 generalize hWn : w7.heap.size = bk1 at k1 ⊢
 clear hWn
 try simp only [Act.put, List.setIfInBounds_toArray, List.set_cons_zero, List.set_cons_succ]
 refine wpPlanA_hard _ rfl (by rfl) (fun w9 hS K hK => ?_)
 have hB9 := hB8.call hS rfl
 replace hC := hC.call hS rfl
 replace hT0 := blkb hT0 hS
 replace hT1 := blkb hT1 hS
 replace H := H.below hS
 replace HP := HP.below hS
 replace k1 := blkb k1 hS
 clear hS hB8
 go_simp
 refine (c89 _ 5 5 [Mo.ground c r l, Mo.range un 1 1000, Mo.range len 1 256, Mo.range most 0 256, Mo.when (decide (16 < (np : Int))) 5] _ rfl (by omega) (RdS.of_block (cs := encI [Mo.ground c r l, Mo.range un 1 1000, Mo.range len 1 256, Mo.range most 0 256, Mo.when (decide (16 < (np : Int))) 5]) k1 rfl)).mono ?_
 rintro e w' ⟨rfl, rfl⟩
 refine hK _ _ hC ?_
 clear hK K
 try simp only [Act.put, List.setIfInBounds_toArray, List.set_cons_zero, List.set_cons_succ]
 repeat (first | (refine wpPlanA_skip _ rfl (by rfl) ?_; simp only [Act.put, List.setIfInBounds_toArray, List.set_cons_zero, List.set_cons_succ]) | (refine wpPlanA_soft _ ?_ rfl (by rfl) ?_ ?_; rotate_left; (intro wq hq hcq; go_simp; first | exact rfl | exact ⟨rfl, rfl⟩); simp only [Act.put, List.setIfInBounds_toArray, List.set_cons_zero, List.set_cons_succ]))
 clear k1
 clear qhT0_0 qhT0_1 qhT0_2 qhT1_0 qhT1_1 qhT1_2 qhT1_3
 refine wpPlanA_nil (fun w10 hS => ?_)
 clear hC zhT0 zhT1
 have hB10 := hB9.call hS rfl
 replace hT0 := blkb hT0 hS
 replace hT1 := blkb hT1 hS
 replace H := H.below hS
 replace HP := HP.below hS
 clear hS hB9
 have qhT0_0 : w10.cell? ⟨w.heap.size, 0, none⟩ = some (.int .i64 c) := cell_at hT0 rfl
 have qhT0_1 : w10.cell? ⟨w.heap.size, 1, none⟩ = some (.int .i64 r) := cell_at hT0 rfl
 have qhT0_2 : w10.cell? ⟨w.heap.size, 2, none⟩ = some (.slice A n cap) := cell_at hT0 rfl
 have qhT1_0 : w10.cell? ⟨w.heap.size + 1, 0, none⟩ = some (.int .i64 un) := cell_at hT1 rfl
 have qhT1_1 : w10.cell? ⟨w.heap.size + 1, 1, none⟩ = some (.int .i64 len) := cell_at hT1 rfl
 have qhT1_2 : w10.cell? ⟨w.heap.size + 1, 2, none⟩ = some (.int .i64 most) := cell_at hT1 rfl
 have qhT1_3 : w10.cell? ⟨w.heap.size + 1, 3, none⟩ = some (.slice P np capp) := cell_at hT1 rfl
 rw [← HE.out]
 by_cases hE0 : E = 0
 rotate_left
 ·
   have hef : (E != 0) = true := by simpa using hE0
   have HAE := Lib.hid (HA.out hE0)
   clear hE0
   go_wp2
   go_ret
   exact ⟨ret_int HAE.out.symm, hB10⟩
 have hef : (E != 0) = false := by simp [hE0]
 have HCE := Lib.hid (HC.out hE0)
 clear hE0
 go_wp2_with fail
 refine (c95 P np capp ps _ (Mo.pair n) _ hp HP (fun W x _ hW => c96 c r A n cap x _ W (blkb hT0 hW))).mono ?_
 rintro e w11 ⟨A1, cap1, rfl, hr1, hb⟩
 clear qhT0_0 qhT0_1 qhT0_2 qhT1_0 qhT1_1 qhT1_2 qhT1_3
 have hS := hb
 have hB11 := hB10.call hS rfl
 replace hT0 := blkb hT0 hS
 replace hT1 := blkb hT1 hS
 replace H := H.below hS
 replace HP := HP.below hS
 clear hS hB10
 have qhT0_0 : w11.cell? ⟨w.heap.size, 0, none⟩ = some (.int .i64 c) := cell_at hT0 rfl
 have qhT0_1 : w11.cell? ⟨w.heap.size, 1, none⟩ = some (.int .i64 r) := cell_at hT0 rfl
 have qhT0_2 : w11.cell? ⟨w.heap.size, 2, none⟩ = some (.slice A n cap) := cell_at hT0 rfl
 have qhT1_0 : w11.cell? ⟨w.heap.size + 1, 0, none⟩ = some (.int .i64 un) := cell_at hT1 rfl
 have qhT1_1 : w11.cell? ⟨w.heap.size + 1, 1, none⟩ = some (.int .i64 len) := cell_at hT1 rfl
 have qhT1_2 : w11.cell? ⟨w.heap.size + 1, 2, none⟩ = some (.int .i64 most) := cell_at hT1 rfl
 have qhT1_3 : w11.cell? ⟨w.heap.size + 1, 3, none⟩ = some (.slice P np capp) := cell_at hT1 rfl
 clear hb
 go_wp2_with fail
 refine (c89 A1 np cap1 _ _ hr1.len hp hr1).mono ?_
 rintro e w' ⟨rfl, rfl⟩
 go_wp2
 go_ret
 exact ⟨ret_int HCE.out.symm, hB11⟩
theorem c90 (c r : Int) (A : Option Addr) (n cap : Nat) (M : Option Addr) (m capm : Nat) (ms : List Int) (w : World) (hm : m ≤ 1000000) (HM : RdI w M m ms) :
  Calls Tryz.prog 90 #[.agg #[.int .i64 c, .int .i64 r, .slice A n cap], .slice M m capm] w fun en w' => en = .returned (.int .i64 (Mo.first [Mo.when ((m : Int) != (n : Int)) 2, Mo.allw ms (-1000) 1000])) ∧ Below w.heap.size w w' := by
 obtain ⟨w0, hW⟩ : ∃ W, W = w.alloc (Obj.cells #[.int .i64 c, .int .i64 r, .slice A n cap] 35) := ⟨_, rfl⟩
 have hT0 : w0.heap[w.heap.size]? = some (.cells #[.int .i64 c, .int .i64 r, .slice A n cap] 35 (0, 0)) := by rw [hW]; exact heap_new (by simp)
 have hB0 : Below w.heap.size w w0 := by rw [hW]; exact ((Below.refl _ _).alloc (by first | omega | (simp <;> omega)) _)
 replace HM := HM.below hB0
 go_enter Tryz.func90, Tryz.ntmps90
 go_wp2_with fail
 rw [← hW]
 clear hW
 have qhT0_0 : w0.cell? ⟨w.heap.size, 0, none⟩ = some (.int .i64 c) := cell_at hT0 rfl
 have qhT0_1 : w0.cell? ⟨w.heap.size, 1, none⟩ = some (.int .i64 r) := cell_at hT0 rfl
 have qhT0_2 : w0.cell? ⟨w.heap.size, 2, none⟩ = some (.slice A n cap) := cell_at hT0 rfl
 refine (c94 ((m : Int) != (n : Int)) 2 _).mono ?_
 rintro e w' ⟨rfl, rfl⟩
 go_wp2_with fail
 refine (c113 M m capm ms _ _ _ hm HM).mono ?_
 rintro e w1 ⟨rfl, hb⟩
 clear qhT0_0 qhT0_1 qhT0_2
 have hS := hb
 have hB1 := hB0.call hS rfl
 replace hT0 := blkb hT0 hS
 replace HM := HM.below hS
 clear hS hB0
 have qhT0_0 : w1.cell? ⟨w.heap.size, 0, none⟩ = some (.int .i64 c) := cell_at hT0 rfl
 have qhT0_1 : w1.cell? ⟨w.heap.size, 1, none⟩ = some (.int .i64 r) := cell_at hT0 rfl
 have qhT0_2 : w1.cell? ⟨w.heap.size, 2, none⟩ = some (.slice A n cap) := cell_at hT0 rfl
 clear hb
 go_wp2_with fail
 refine (c89 _ 2 2 [Mo.when ((m : Int) != (n : Int)) 2, Mo.allw ms (-1000) 1000] _ rfl (by omega) (RdS.of_new (cs := encI [Mo.when ((m : Int) != (n : Int)) 2, Mo.allw ms (-1000) 1000]) rfl rfl)).mono ?_
 rintro e w' ⟨rfl, rfl⟩
 have hBf := hB1.alloc hB1.size (Obj.cells (encI [Mo.when ((m : Int) != (n : Int)) 2, Mo.allw ms (-1000) 1000]).toArray 32)
 go_wp2
 go_ret
 exact ⟨rfl, hBf⟩
end Go.Proofs.YtdimmlljjmmdbaaGreatDoor
namespace Go.Proofs.YtdimmlljjmmdbaaGreatDoor
open Go.RowKit
set_option maxHeartbeats 8000000
set_option maxRecDepth 20000
theorem own_empty {w : World} {base g : Nat} (hB : base ≤ g) (h : w.heap[g]? = some (.cells #[] 3 (0, 0))) : w.ownsRow base 3 1 (.slice (some ⟨g, 0, none⟩) 0 0) 0 [] :=
 ⟨rfl, .inr ⟨g, 0, #[], rfl, hB, h, Nat.le_refl _, by unfold maxLen; omega, rfl, rfl⟩⟩
/-- what an owned row of integers is -/
theorem own_ints {w : World} {base : Nat} {v : Value} {n : Nat} {l : List Int} (hn : 0 < n) (h : w.ownsRow base 3 1 v n (encI l)) : ∃ g cap cs, v = .slice (some ⟨g, 0, none⟩) n cap ∧ base ≤ g ∧ w.heap[g]? = some (.cells cs 3 (0, 0)) ∧ n ≤ cap ∧ cap ≤ 9223372036854775807 ∧ cs.size = cap ∧ cs.toList.take n = encI l := by
 obtain ⟨h1, ⟨_, h0⟩ | ⟨g, cap, cur, rfl, hg, hh, hc, hm, hs, ht⟩⟩ := h
 ·omega
 ·unfold maxLen at hm
  exact ⟨g, cap, cur, rfl, hg, hh, hc, by omega, by omega, by rw [Nat.mul_one] at ht; exact ht⟩
theorem eq22n (g o n c : Nat) (w : World) : (Op.equalIn 10000 22 (.slice (some ⟨g, o, none⟩) n c) (.slice none 0 0)).run Tryz.prog w = .ok false w := by
 rfl
theorem nil22 (g o n c : Nat) (w : World) : (binOp .eql 22 (.slice (some ⟨g, o, none⟩) n c) (.slice none 0 0)).run Tryz.prog w = .ok (.bool false) w := by
 simp only [binOp]
 simp [Op.equal, Op.maxDepth, eq22n]
theorem c124 (b o n cap : Nat) (l : List Int) (w : World) (hn : n ≤ 1000000) (h0 : 0 < n) (H : RdI w (some ⟨b, o, none⟩) n l) :
  Calls Tryz.prog 124 #[.slice (some ⟨b, o, none⟩) n cap] w fun en w' => ∃ v, en = .returned v ∧ w'.ownsRow w.heap.size 3 1 v n (encI l) ∧ Below w.heap.size w w' := by
 obtain ⟨i0, hi, hz0, hz1, hz2⟩ := info_parts info3
 obtain ⟨W, hW⟩ : ∃ W, W = w.alloc (Obj.cells #[] 3) := ⟨_, rfl⟩
 have hB : Below w.heap.size w W := by rw [hW]; exact (Below.refl _ _).alloc (Nat.le_refl _) _
 have hown : W.ownsRow w.heap.size 3 1 (.slice (some ⟨w.heap.size, 0, none⟩) 0 0) 0 [] := own_empty (Nat.le_refl _) (by rw [hW]; exact heap_new rfl)
 have hrd := H.below hB
 have hlen : (encI l).length = n * 1 := hrd.1
 have hnw := RdS.news hrd (by omega)
 have hsz := hB.size
 have q22 := nil22
 go_enter Tryz.func124, Tryz.ntmps124
 go_wp2_with (at_builtin; rw [← hW]; refine wpList_append_own _ rfl _ _ 22 rfl w.heap.size 3 i0 (.int .i64 0) 1 8 Tryz.underlying22 hi hz0 hz1 hz2 rfl (by decide) _ _ _ rfl hown ⟨b, o, none⟩ n cap (encI l) rfl hlen hnw ?c1 ?c2 ?c3 ?c4 ?_)
 case c1 => intro x hx; simp [encI] at hx; obtain ⟨y, _, rfl⟩ := hx; rfl
 case c2 => unfold maxLen; omega
 case c3 => omega
 case c4 => exact hsz
 intro x' w3 hown3 hg3 _
 try rw [Nat.zero_add, List.nil_append] at hown3
 rw [← hW] at hg3
 have hB3 : Below w.heap.size w w3 := hB.grown hg3 hsz (fun g hg => by cases hg; exact Nat.le_refl _)
 clear hg3
 have HO := Lib.hid hown3
 clear hown3
 go_wp2
 go_ret
 exact ⟨_, rfl, HO.out, hB3⟩
theorem c22 (A : Option Addr) (n cap : Nat) (l : List Int) (w : World) (hn : n ≤ 1000000) (H : RdI w A n l) :
  Calls Tryz.prog 22 #[.slice A n cap] w fun en w' => ∃ v, en = .returned v ∧ w'.ownsRow w.heap.size 3 1 v n (encI l) ∧ Below w.heap.size w w' := by
 obtain ⟨i0, hi, hz0, hz1, hz2⟩ := info_parts info3
 obtain ⟨W, hW⟩ : ∃ W, W = w.alloc (Obj.cells #[] 3) := ⟨_, rfl⟩
 have hB : Below w.heap.size w W := by rw [hW]; exact (Below.refl _ _).alloc (Nat.le_refl _) _
 have hown : W.ownsRow w.heap.size 3 1 (.slice (some ⟨w.heap.size, 0, none⟩) 0 0) 0 [] := own_empty (Nat.le_refl _) (by rw [hW]; exact heap_new rfl)
 have hrd := H.below hB
 have hlen : (encI l).length = n * 1 := hrd.1
 have hsz := hB.size
 cases A with
 | none =>
  obtain rfl : n = 0 := RdS.none0 hrd
  obtain rfl : l = [] := List.eq_nil_of_length_eq_zero (by simpa [encI] using hlen)
  go_enter Tryz.func22, Tryz.ntmps22
  go_wp2
  go_ret
  exact ⟨_, rfl, by rw [← hW]; exact hown, by rw [← hW]; exact hB⟩
 | some ad =>
  have hnw := RdS.news hrd (by omega)
  go_enter Tryz.func22, Tryz.ntmps22
  go_wp2_with (at_builtin; rw [← hW]; refine wpList_append_own _ rfl _ _ 22 rfl w.heap.size 3 i0 (.int .i64 0) 1 8 Tryz.underlying22 hi hz0 hz1 hz2 rfl (by decide) _ _ _ rfl hown ad n cap (encI l) rfl hlen hnw ?c1 ?c2 ?c3 ?c4 ?_)
  case c1 => intro x hx; simp [encI] at hx; obtain ⟨y, _, rfl⟩ := hx; rfl
  case c2 => unfold maxLen; omega
  case c3 => omega
  case c4 => exact hsz
  intro x' w3 hown3 hg3 _
  try rw [Nat.zero_add, List.nil_append] at hown3
  rw [← hW] at hg3
  have hB3 : Below w.heap.size w w3 := hB.grown hg3 hsz (fun g hg => by cases hg; exact Nat.le_refl _)
  clear hg3
  have HO := Lib.hid hown3
  clear hown3
  go_wp2
  go_ret
  exact ⟨_, rfl, HO.out, hB3⟩
end Go.Proofs.YtdimmlljjmmdbaaGreatDoor
namespace Go.Proofs.YtdimmlljjmmdbaaGreatDoor
open Go.RowKit
set_option maxHeartbeats 8000000
set_option maxRecDepth 20000
/-- the samples of the cells for a pair -/
noncomputable def nsK (c : Nat) (l : List Int) (un : Int) (a b : Nat) (k : Nat) : Int := (Im.at0 (Im.times c l a) k + Im.at0 (Im.times c l b) k) / un
noncomputable def nsL (c : Nat) (l : List Int) (un : Int) (a b : Nat) : List Int := (List.range l.length).map (nsK c l un a b)
noncomputable def dlL (c : Nat) (l : List Int) (un len most : Int) (a b : Nat) (hole : Bool) : List Int := Im.delays c l (nsL c l un a b) len most hole
theorem time_le {c r : Nat} {l t : List Int} (g : Im.Gr c r l) (hc : c ≤ 16) (hr : r ≤ 16) {s : Nat} (hs : s < l.length) (h : Im.IsT c l s t) {k : Nat} (hk : k < l.length) : 0 ≤ Im.at0 t k ∧ Im.at0 t k ≤ 20000 := by
 refine ⟨h.nn k hk, ?_⟩
 have h1 := Im.feas_bound g h.feas hs _ k hk rfl
 have h2 := Im.gap_lt g hk hs
 rw [h.src] at h1
 omega
/-- a row of integers in the head of a block of the call's own -/
def RowI (w : World) (B g cap n : Nat) (l : List Int) : Prop := ∃ cs : Array Value, w.heap[g]? = some (.cells cs 3 (0, 0)) ∧ cs.size = cap ∧ n ≤ cap ∧ cap ≤ 9223372036854775807 ∧ l.length = n ∧ cs.toList.take n = encI l ∧ B ≤ g
theorem RowI.below {w w' : World} {B g cap n : Nat} {l : List Int} (h : RowI w B g cap n l) (hb : Below w.heap.size w w') : RowI w' B g cap n l := by
 obtain ⟨cs, h1, h2⟩ := h
 exact ⟨cs, blkb h1 hb, h2⟩
theorem RowI.cell {w : World} {B g cap n : Nat} {l : List Int} (h : RowI w B g cap n l) {k : Nat} (hk : k < n) : w.cell? ⟨g, k, none⟩ = some (.int .i64 (Im.at0 l k)) ∧ w.frozen? ⟨g, k, none⟩ = false ∧ g < w.heap.size := by
 obtain ⟨cs, h1, h2, h3, _, h4, h5, _⟩ := h
 refine ⟨cell_at h1 ?_, free_at h1, (Array.getElem?_eq_some_iff.1 h1).1⟩
 have : cs.toList[k]? = (encI l)[k]? := by rw [← h5, List.getElem?_take, if_pos hk]
 rw [Array.getElem?_toList] at this
 rw [this]
 simp [encI, Im.at0, List.getD_eq_getElem?_getD, h4, hk]
theorem RowI.lower {w : World} {B B' g cap n : Nat} {l : List Int} (h : RowI w B g cap n l) (hb : B' ≤ B) : RowI w B' g cap n l := by
 obtain ⟨cs, h1, h2, h3, h4, h5, h6, h7⟩ := h
 exact ⟨cs, h1, h2, h3, h4, h5, h6, Nat.le_trans hb h7⟩
theorem RowI.rd {w : World} {B g cap n : Nat} {l : List Int} (h : RowI w B g cap n l) : RdI w (some ⟨g, 0, none⟩) n l := by
 have hl : l.length = n := by obtain ⟨cs, _, _, _, _, h4, _⟩ := h; exact h4
 refine ⟨by simp [encI, hl], fun h0 => ⟨g, 0, rfl, (h.cell h0).2.2, fun j hj => ?_⟩⟩
 have hj2 : j < n := by simpa [encI, hl] using hj
 rw [Nat.zero_add, (h.cell hj2).1]
 simp [encI, Im.at0, List.getD_eq_getElem?_getD, hl, hj2]
theorem RowI.set {w : World} {B g cap n : Nat} {l : List Int} (h : RowI w B g cap n l) (k : Nat) (x : Int) : RowI (w.setCell ⟨g, k, none⟩ (.int .i64 x)) B g cap n (l.set k x) := by
 obtain ⟨cs, h1, h2, h3, h4, h5, h6, h7⟩ := h
 refine ⟨cs.setIfInBounds k (.int .i64 x), set_blk h1 _, by simp [h2], h3, h4, by simp [h5], ?_, h7⟩
 rw [Array.toList_setIfInBounds, List.take_set, h6]
 simp [encI, List.map_set]
theorem RowI.of_own {w : World} {B : Nat} {v : Value} {n : Nat} {l : List Int} (hn : 0 < n) (h : w.ownsRow B 3 1 v n (encI l)) : ∃ g cap, v = .slice (some ⟨g, 0, none⟩) n cap ∧ RowI w B g cap n l := by
 have hl := h.1
 obtain ⟨g, cap, cs, rfl, h1, h2, h3, h4, h5, h6⟩ := own_ints hn h
 exact ⟨g, cap, rfl, cs, h2, h5, h3, h4, by simpa [encI] using hl, h6, h1⟩
theorem RowI.own {w : World} {B g cap n : Nat} {l : List Int} (h : RowI w B g cap n l) : w.ownsRow B 3 1 (.slice (some ⟨g, 0, none⟩) n cap) n (encI l) := by
 obtain ⟨cs, h1, h2, h3, h4, h5, h6, h7⟩ := h
 exact ⟨by simp [encI, h5], .inr ⟨g, cap, cs, rfl, h7, h1, h3, by unfold maxLen; omega, by omega, by rw [Nat.mul_one]; exact h6⟩⟩
theorem nsL_at {c : Nat} {l : List Int} {un : Int} {a b k : Nat} (hk : k < l.length) : Im.at0 (nsL c l un a b) k = nsK c l un a b k := Im.at0_map_range _ _ _ hk
theorem nsL_len (c : Nat) (l : List Int) (un : Int) (a b : Nat) : (nsL c l un a b).length = l.length := by simp [nsL]
theorem nsK_le {c r : Nat} {l : List Int} (g : Im.Gr c r l) (hc : c ≤ 16) (hr : r ≤ 16) {un : Int} (hu : 1 ≤ un) {a b : Nat} (ha : a < l.length) (hb : b < l.length) (h1 : Im.IsT c l a (Im.times c l a)) (h2 : Im.IsT c l b (Im.times c l b)) {k : Nat} (hk : k < l.length) : 0 ≤ nsK c l un a b k ∧ nsK c l un a b k ≤ 40000 := by
 have b1 := time_le g hc hr ha h1 hk
 have b2 := time_le g hc hr hb h2 hk
 unfold nsK
 have := Int.ediv_le_self (a := Im.at0 (Im.times c l a) k + Im.at0 (Im.times c l b) k) un (by omega)
 exact ⟨Int.ediv_nonneg (by omega) (by omega), by omega⟩
/-- the samples, the first k of them settled -/
noncomputable def dlP (c : Nat) (l ns : List Int) (len most : Int) (hole : Bool) (k : Nat) : List Int := (List.range l.length).map fun i => if i < k then Im.dly c l ns len most hole i else Im.at0 ns i
theorem dlP_zero {c : Nat} {l ns : List Int} {len most : Int} {hole : Bool} (h : ns.length = l.length) : dlP c l ns len most hole 0 = ns := by
 apply List.ext_getElem (by simp [dlP, h])
 intro i h1 h2
 simp [dlP, Im.at0, List.getD_eq_getElem?_getD, h2]
theorem dlP_full {c : Nat} {l ns : List Int} {len most : Int} {hole : Bool} : dlP c l ns len most hole l.length = Im.delays c l ns len most hole := by
 apply List.ext_getElem (by simp [dlP, Im.delays])
 intro i h1 h2
 have : i < l.length := by simpa [dlP] using h1
 simp [dlP, Im.delays, this]
theorem dlP_keep {c : Nat} {l ns : List Int} {len most : Int} {hole : Bool} {k : Nat} (h : Im.dly c l ns len most hole k = Im.at0 ns k) : dlP c l ns len most hole (k + 1) = dlP c l ns len most hole k := by
 unfold dlP
 apply List.map_congr_left
 intro i _
 by_cases h1 : i < k
 ·rw [if_pos h1, if_pos (by omega)]
 ·rw [if_neg h1]
  by_cases h2 : i = k
  ·subst h2; rw [if_pos (by omega), h]
  ·rw [if_neg (by omega)]
theorem dlP_set {c : Nat} {l ns : List Int} {len most : Int} {hole : Bool} {k : Nat} (hk : k < l.length) (h : Im.dly c l ns len most hole k = -1) : (dlP c l ns len most hole k).set k (-1) = dlP c l ns len most hole (k + 1) := by
 apply List.ext_getElem (by simp [dlP])
 intro i h1 h2
 have hi : i < l.length := by simpa [dlP] using h2
 by_cases h3 : k = i
 ·subst h3
  simp [dlP, h]
 ·rw [List.getElem_set_ne h3]
  simp only [dlP, List.getElem_map, List.getElem_range]
  by_cases h4 : i < k
  ·rw [if_pos h4, if_pos (by omega)]
  ·rw [if_neg h4, if_neg (by omega)]
theorem c99 (c r : Nat) (A : Option Addr) (n cap : Nat) (l : List Int) (un len most : Int) (P : Option Addr) (np capp : Nat) (a b : Nat) (hole : Bool) (w : World) (g : Im.Gr c r l) (hc : c ≤ 16) (hr : r ≤ 16) (hu : 1 ≤ un ∧ un ≤ 1000) (ha : a < n) (hb0 : b < n) (H : RdI w A n l) (hst : Steps w) :
  Calls Tryz.prog 99 #[.agg #[.int .i64 c, .int .i64 r, .slice A n cap], .agg #[.int .i64 un, .int .i64 len, .int .i64 most, .slice P np capp], .agg #[.int .i64 a, .int .i64 b, .bool hole]] w fun en w' => ∃ v, en = .returned v ∧ w'.ownsRow w.heap.size 3 1 v n (encI (dlL c l un len most a b hole)) ∧ Below w.heap.size w w' := by
 have hln := H.len
 have hn0 : 0 < n := by omega
 have hn256 : n ≤ 256 := by have := g.len; have : c * r ≤ 256 := Nat.mul_le_mul hc hr; omega
 obtain ⟨i0, hi, hz0, hz1, hz2⟩ := info_parts info3
 have hmk := fun W => run_make_fill (P := Tryz.prog) 22 3 i0 (.int .i64 0) (fun k => .int .i64 (nsK c l un a b k)) Tryz.underlying22 hi hz0 hz1 rfl n (by omega) (by rw [hz2]; omega) W
 have HMK := Lib.hid hmk
 have HLN := Lib.hid hln
 clear hi hz0 hz1 hz2 hmk hln
 obtain ⟨w0, hW⟩ : ∃ W, W = ((w.alloc (Obj.cells #[.int .i64 c, .int .i64 r, .slice A n cap] 35)).alloc (Obj.cells #[.int .i64 un, .int .i64 len, .int .i64 most, .slice P np capp] 39)).alloc (Obj.cells #[.int .i64 a, .int .i64 b, .bool hole] 148) := ⟨_, rfl⟩
 have hT0 : w0.heap[w.heap.size]? = some (.cells #[.int .i64 c, .int .i64 r, .slice A n cap] 35 (0, 0)) := by rw [hW]; exact heap_old (by simp <;> omega) (heap_old (by simp <;> omega) (heap_new (by simp)))
 have hT1 : w0.heap[w.heap.size + 1]? = some (.cells #[.int .i64 un, .int .i64 len, .int .i64 most, .slice P np capp] 39 (0, 0)) := by rw [hW]; exact heap_old (by simp <;> omega) (heap_new (by simp))
 have hT2 : w0.heap[w.heap.size + 1 + 1]? = some (.cells #[.int .i64 a, .int .i64 b, .bool hole] 148 (0, 0)) := by rw [hW]; exact heap_new (by simp)
 have hB0 : Below w.heap.size w w0 := by rw [hW]; exact ((((Below.refl _ _).alloc (by first | omega | (simp <;> omega)) _).alloc (by first | omega | (simp <;> omega)) _).alloc (by first | omega | (simp <;> omega)) _)
 replace H := H.below hB0
 replace hst := hst.below hB0
 go_enter Tryz.func99, Tryz.ntmps99
 go_wp2_with fail
 rw [← hW]
 clear hW
 have qhT0_0 : w0.cell? ⟨w.heap.size, 0, none⟩ = some (.int .i64 c) := cell_at hT0 rfl
 have qhT0_1 : w0.cell? ⟨w.heap.size, 1, none⟩ = some (.int .i64 r) := cell_at hT0 rfl
 have qhT0_2 : w0.cell? ⟨w.heap.size, 2, none⟩ = some (.slice A n cap) := cell_at hT0 rfl
 have qhT1_0 : w0.cell? ⟨w.heap.size + 1, 0, none⟩ = some (.int .i64 un) := cell_at hT1 rfl
 have qhT1_1 : w0.cell? ⟨w.heap.size + 1, 1, none⟩ = some (.int .i64 len) := cell_at hT1 rfl
 have qhT1_2 : w0.cell? ⟨w.heap.size + 1, 2, none⟩ = some (.int .i64 most) := cell_at hT1 rfl
 have qhT1_3 : w0.cell? ⟨w.heap.size + 1, 3, none⟩ = some (.slice P np capp) := cell_at hT1 rfl
 have qhT2_0 : w0.cell? ⟨w.heap.size + 1 + 1, 0, none⟩ = some (.int .i64 a) := cell_at hT2 rfl
 have qhT2_1 : w0.cell? ⟨w.heap.size + 1 + 1, 1, none⟩ = some (.int .i64 b) := cell_at hT2 rfl
 have qhT2_2 : w0.cell? ⟨w.heap.size + 1 + 1, 2, none⟩ = some (.bool hole) := cell_at hT2 rfl
 refine wp_region_plan [(0, true), (1, true), (2, true), (4, true), (5, true), (6, true), (3, false), (7, false), (8, true), (9, true)] w0.heap.size (by kernel_rfl) (by kernel_rfl) (Nat.le_refl _) (fun _ _ d _ _ h => by cases d <;> exact h) ?_
 have hC : Below w0.heap.size w0 w0 := Below.refl _ _
 have zhT0 : w.heap.size < w0.heap.size := (Array.getElem?_eq_some_iff.1 hT0).1
 have zhT1 : w.heap.size + 1 < w0.heap.size := (Array.getElem?_eq_some_iff.1 hT1).1
 have zhT2 : w.heap.size + 1 + 1 < w0.heap.size := (Array.getElem?_eq_some_iff.1 hT2).1
 repeat (first | (refine wpPlanA_skip _ rfl (by rfl) ?_; simp only [Act.put, List.setIfInBounds_toArray, List.set_cons_zero, List.set_cons_succ]) | (refine wpPlanA_soft _ ?_ rfl (by rfl) ?_ ?_; rotate_left; (intro wq hq hcq; go_simp; first | exact rfl | exact ⟨rfl, rfl⟩); simp only [Act.put, List.setIfInBounds_toArray, List.set_cons_zero, List.set_cons_succ]))
 refine wpPlanA_hard _ rfl (by rfl) (fun w1 hS K hK => ?_)
 have hB1 := hB0.call hS rfl
 replace hC := hC.call hS rfl
 replace hT0 := blkb hT0 hS
 replace hT1 := blkb hT1 hS
 replace hT2 := blkb hT2 hS
 replace H := H.below hS
 replace hst := hst.below hS
 clear hS hB0
 go_simp
 refine (c127 c r A n cap l a _ g hc hr ha H hst).mono ?_
 rintro e w2 ⟨o1, t1, rfl, hq1, ht1, hI1, hb⟩
 have hB2 := hB1.call hb rfl
 replace hC := hC.call hb rfl
 replace hT0 := blkb hT0 hb
 replace hT1 := blkb hT1 hb
 replace hT2 := blkb hT2 hb
 replace H := H.below hb
 replace hst := hst.below hb
 clear hb hB1
 refine hK _ _ hC ?_
 clear hK K
 try simp only [Act.put, List.setIfInBounds_toArray, List.set_cons_zero, List.set_cons_succ]
 refine wpPlanA_hard _ rfl (by rfl) (fun w3 hS K hK => ?_)
 have hB3 := hB2.call hS rfl
 replace hC := hC.call hS rfl
 replace hT0 := blkb hT0 hS
 replace hT1 := blkb hT1 hS
 replace hT2 := blkb hT2 hS
 replace H := H.below hS
 replace hst := hst.below hS
 replace ht1 := blkb ht1 hS
 clear hS hB2
 go_simp
 refine (c127 c r A n cap l b _ g hc hr hb0 H hst).mono ?_
 rintro e w4 ⟨o2, t2, rfl, hq2, ht2, hI2, hb⟩
 have hB4 := hB3.call hb rfl
 replace hC := hC.call hb rfl
 replace hT0 := blkb hT0 hb
 replace hT1 := blkb hT1 hb
 replace hT2 := blkb hT2 hb
 replace H := H.below hb
 replace hst := hst.below hb
 replace ht1 := blkb ht1 hb
 clear hb hB3
 refine hK _ _ hC ?_
 clear hK K
 try simp only [Act.put, List.setIfInBounds_toArray, List.set_cons_zero, List.set_cons_succ]
 repeat (first | (refine wpPlanA_skip _ rfl (by rfl) ?_; simp only [Act.put, List.setIfInBounds_toArray, List.set_cons_zero, List.set_cons_succ]) | (refine wpPlanA_soft _ ?_ rfl (by rfl) ?_ ?_; rotate_left; (intro wq hq hcq; go_simp; first | exact rfl | exact ⟨rfl, rfl⟩); simp only [Act.put, List.setIfInBounds_toArray, List.set_cons_zero, List.set_cons_succ]))
 clear qhT0_0 qhT0_1 qhT0_2 qhT1_0 qhT1_1 qhT1_2 qhT1_3 qhT2_0 qhT2_1 qhT2_2
 refine wpPlanA_nil (fun w5 hS => ?_)
 clear hC zhT0 zhT1 zhT2
 have hB5 := hB4.call hS rfl
 replace hT0 := blkb hT0 hS
 replace hT1 := blkb hT1 hS
 replace hT2 := blkb hT2 hS
 replace H := H.below hS
 replace hst := hst.below hS
 replace ht1 := blkb ht1 hS
 replace ht2 := blkb ht2 hS
 clear hS hB4
 have qhT0_0 : w5.cell? ⟨w.heap.size, 0, none⟩ = some (.int .i64 c) := cell_at hT0 rfl
 have qhT0_1 : w5.cell? ⟨w.heap.size, 1, none⟩ = some (.int .i64 r) := cell_at hT0 rfl
 have qhT0_2 : w5.cell? ⟨w.heap.size, 2, none⟩ = some (.slice A n cap) := cell_at hT0 rfl
 have qhT1_0 : w5.cell? ⟨w.heap.size + 1, 0, none⟩ = some (.int .i64 un) := cell_at hT1 rfl
 have qhT1_1 : w5.cell? ⟨w.heap.size + 1, 1, none⟩ = some (.int .i64 len) := cell_at hT1 rfl
 have qhT1_2 : w5.cell? ⟨w.heap.size + 1, 2, none⟩ = some (.int .i64 most) := cell_at hT1 rfl
 have qhT1_3 : w5.cell? ⟨w.heap.size + 1, 3, none⟩ = some (.slice P np capp) := cell_at hT1 rfl
 have qhT2_0 : w5.cell? ⟨w.heap.size + 1 + 1, 0, none⟩ = some (.int .i64 a) := cell_at hT2 rfl
 have qhT2_1 : w5.cell? ⟨w.heap.size + 1 + 1, 1, none⟩ = some (.int .i64 b) := cell_at hT2 rfl
 have qhT2_2 : w5.cell? ⟨w.heap.size + 1 + 1, 2, none⟩ = some (.bool hole) := cell_at hT2 rfl
 obtain rfl : t1 = Im.times c l a := (Im.times_eq hI1).symm
 obtain rfl : t2 = Im.times c l b := (Im.times_eq hI2).symm
 have HT1 := Lib.hid hI1
 have HT2 := Lib.hid hI2
 clear qhT0_0 qhT0_1 qhT0_2 qhT1_0 qhT1_1 qhT1_2 qhT1_3 qhT2_0 qhT2_1 qhT2_2
 clear hI1 hI2 hq1 hq2
 have hmk := HMK.out
 have q2 : w5.cell? ⟨w.heap.size, 2, none⟩ = some (.slice A n cap) := cell_at hT0 rfl
 obtain ⟨gs, hgs⟩ : ∃ g, g = w5.heap.size := ⟨_, rfl⟩
 have HGS : Hid (w5.heap.size ≤ gs) := Lib.hid (by omega)
 go_wp2_with fail
 obtain ⟨w6, hwn⟩ : ∃ V, V = w5.alloc (.cells (fillA (.int .i64 0) (fun k => .int .i64 (nsK c l un a b k)) n 0) 3) := ⟨_, rfl⟩
 have hbn : Below w5.heap.size w5 w6 := by rw [hwn]; exact (Below.refl _ _).alloc (Nat.le_refl _) _
 have hsg : w6.heap[gs]? = some (.cells (fillA (.int .i64 0) (fun k => .int .i64 (nsK c l un a b k)) n 0) 3 (0, 0)) := by rw [hwn]; exact heap_new hgs
 have hord : w.heap.size < gs ∧ w.heap.size + 1 < gs ∧ w.heap.size + 1 + 1 < gs ∧ o1 < gs ∧ o2 < gs := by
  rw [hgs]
  exact ⟨(Array.getElem?_eq_some_iff.1 hT0).1, (Array.getElem?_eq_some_iff.1 hT1).1, (Array.getElem?_eq_some_iff.1 hT2).1, (Array.getElem?_eq_some_iff.1 ht1).1, (Array.getElem?_eq_some_iff.1 ht2).1⟩
 rw [← hgs, ← hwn]
 have HORD := Lib.hid hord
 clear hwn hgs hmk q2 hord
 go_loopw [28] (fun i wr => ∃ k : Nat, k ≤ n ∧ i = .int .i64 k ∧ Hid (wr.heap[gs]? = some (.cells (fillA (.int .i64 0) (fun k => .int .i64 (nsK c l un a b k)) n k) 3 (0, 0))) ∧ Below w5.heap.size w5 wr) (fun i _ => n - (intOf i).toNat)
 case atStart => exact ⟨0, Nat.zero_le _, rfl, Lib.hid hsg, hbn⟩
 case round =>
  clear hsg hbn
  obtain ⟨k, hk, rfl, HS, hbr⟩ := hrel
  obtain ⟨w6, hww⟩ : ∃ W, W = wr := ⟨_, rfl⟩
  subst hww
  have hB6 := hB5.call hbr rfl
  replace hT0 := blkb hT0 hbr
  replace hT1 := blkb hT1 hbr
  replace hT2 := blkb hT2 hbr
  replace H := H.below hbr
  replace hst := hst.below hbr
  replace ht1 := blkb ht1 hbr
  replace ht2 := blkb ht2 hbr
  clear hB5
  have qhT0_0 : w6.cell? ⟨w.heap.size, 0, none⟩ = some (.int .i64 c) := cell_at hT0 rfl
  have qhT0_1 : w6.cell? ⟨w.heap.size, 1, none⟩ = some (.int .i64 r) := cell_at hT0 rfl
  have qhT0_2 : w6.cell? ⟨w.heap.size, 2, none⟩ = some (.slice A n cap) := cell_at hT0 rfl
  have qhT1_0 : w6.cell? ⟨w.heap.size + 1, 0, none⟩ = some (.int .i64 un) := cell_at hT1 rfl
  have qhT1_1 : w6.cell? ⟨w.heap.size + 1, 1, none⟩ = some (.int .i64 len) := cell_at hT1 rfl
  have qhT1_2 : w6.cell? ⟨w.heap.size + 1, 2, none⟩ = some (.int .i64 most) := cell_at hT1 rfl
  have qhT1_3 : w6.cell? ⟨w.heap.size + 1, 3, none⟩ = some (.slice P np capp) := cell_at hT1 rfl
  have qhT2_0 : w6.cell? ⟨w.heap.size + 1 + 1, 0, none⟩ = some (.int .i64 a) := cell_at hT2 rfl
  have qhT2_1 : w6.cell? ⟨w.heap.size + 1 + 1, 1, none⟩ = some (.int .i64 b) := cell_at hT2 rfl
  have qhT2_2 : w6.cell? ⟨w.heap.size + 1 + 1, 2, none⟩ = some (.bool hole) := cell_at hT2 rfl
  by_cases hlt : k < n
  ·have hkn2 : (k : Int) < (n : Int) := by omega
   have hk02 : (0 : Int) ≤ (k : Int) := by omega
   have hL1 : k < l.length := by rw [HLN.out]; exact hlt
   have q1 : w6.cell? ⟨o1, k, none⟩ = some (.int .i64 (Im.at0 (Im.times c l a) k)) := cell_at ht1 (by simp [encI, Im.at0, List.getD_eq_getElem?_getD, HT1.out.len, HLN.out, hlt])
   have q2 : w6.cell? ⟨o2, k, none⟩ = some (.int .i64 (Im.at0 (Im.times c l b) k)) := cell_at ht2 (by simp [encI, Im.at0, List.getD_eq_getElem?_getD, HT2.out.len, HLN.out, hlt])
   have hb1 := time_le g hc hr (by rw [HLN.out]; exact ha) HT1.out hL1
   have hb2 := time_le g hc hr (by rw [HLN.out]; exact hb0) HT2.out hL1
   have HV : Hid (nsK c l un a b k = (Im.at0 (Im.times c l a) k + Im.at0 (Im.times c l b) k) / un) := Lib.hid rfl
   generalize Im.at0 (Im.times c l a) k = x1 at q1 hb1 HV
   generalize Im.at0 (Im.times c l b) k = x2 at q2 hb2 HV
   have hw1 : IntKind.i64.wrap (x1 + x2) = x1 + x2 := wrapI (by omega)
   have hd1 : (x1 + x2).tdiv un = (x1 + x2) / un := Int.tdiv_eq_ediv_of_nonneg (by omega)
   have hu0 : ¬ un = 0 := by omega
   have hd2 : 0 ≤ (x1 + x2) / un := Int.ediv_nonneg (by omega) (by omega)
   have hd3 : (x1 + x2) / un ≤ x1 + x2 := Int.ediv_le_self _ (by omega)
   have hw2 : IntKind.i64.wrap ((x1 + x2) / un) = (x1 + x2) / un := wrapI (by omega)
   have hwk : IntKind.i64.wrap ((k : Int) + 1) = ((k + 1 : Nat) : Int) := by rw [wrapI (by omega)]; simp
   generalize hxy : (x1 + x2) / un = x3 at hd1 hw2 hd2 hd3 HV
   clear hxy
   clear hb1 hb2 hd2 hd3
   have z1 : o1 < w6.heap.size := (Array.getElem?_eq_some_iff.1 ht1).1
   have z2 : o2 < w6.heap.size := (Array.getElem?_eq_some_iff.1 ht2).1
   have z3 : w.heap.size + 1 < w6.heap.size := (Array.getElem?_eq_some_iff.1 hT1).1
   go_wp2
   refine wp_region_splitG 15 (by kernel_rfl) (by kernel_rfl) ?_
   simp only [List.take_succ_cons, List.take_zero, List.drop_succ_cons, List.drop_zero]
   repeat (go_big_quiet_step ((first | fail)))
   refine wpQuiet_nil (gw_out ?_)
   intro wq hbq
   have hsq := blkb HS.out hbq
   have hbr2 := hbr.call hbq rfl
   have qf : wq.frozen? ⟨gs, k, none⟩ = false := free_at hsq
   have qc : wq.cell? ⟨gs, k, none⟩ = some (.int .i64 0) := cell_at hsq (by rw [fillA_get _ _ _ _ _ hlt, if_neg (Nat.lt_irrefl _)])
   have HS2 : Hid ((wq.setCell ⟨gs, k, none⟩ (.int .i64 x3)).heap[gs]? = some (.cells (fillA (.int .i64 0) (fun k => .int .i64 (nsK c l un a b k)) n (k + 1)) 3 (0, 0))) := by
    have := set_blk (i := k) hsq (.int .i64 (nsK c l un a b k))
    rw [fillA_set (.int .i64 0) (fun k => .int .i64 (nsK c l un a b k)) n k hlt, HV.out] at this
    exact Lib.hid this
   have hbs : Below w5.heap.size w5 (wq.setCell ⟨gs, k, none⟩ (.int .i64 x3)) := hbr2.setCell (p := ⟨gs, k, none⟩) (by show _ ≤ gs; exact HGS.out) _
   have HN := Lib.hid hbs
   clear hsq hbr2 hbs q1 q2 z1 z2 z3
   go_wp2
   go_roundw
   case rel => exact ⟨k + 1, by omega, rfl, HS2, HN.out⟩
   case measure => simp [intOf]; omega
  ·obtain rfl : n = k := by omega
   have hri : RowI w6 w.heap.size gs n n (nsL c l un a b) := ⟨_, HS.out, fillA_size _ _ _ _, Nat.le_refl _, by omega, by rw [nsL_len, HLN.out], by
    rw [fillA_full]
    simp [encI, nsL, HLN.out, List.map_map, Function.comp_def, List.take_of_length_le], by have := HORD.out; omega⟩
   have hnsb : Hid (∀ k, k < n → 0 ≤ Im.at0 (nsL c l un a b) k ∧ Im.at0 (nsL c l un a b) k ≤ 1000000) := Lib.hid (fun k hk => by
    rw [← HLN.out] at hk
    rw [nsL_at hk]
    have := nsK_le g hc hr hu.1 (a := a) (b := b) (by rw [HLN.out]; exact ha) (by rw [HLN.out]; exact hb0) HT1.out HT2.out hk
    omega)
   have hnsl : Hid ((nsL c l un a b).length = l.length) := Lib.hid (nsL_len _ _ _ _ _)
   have HDL : Hid (dlL c l un len most a b hole = Im.delays c l (nsL c l un a b) len most hole) := Lib.hid rfl
   generalize (nsL c l un a b) = ns at hri hnsb hnsl HDL
   clear HS ht1 ht2
   go_wp2_with fail
   refine (c124 gs 0 n n ns _ (by omega) hn0 hri.rd).mono ?_
   rintro e w7 ⟨vd, rfl, hown, hb⟩
   obtain ⟨gd, capd, rfl, hrd⟩ := RowI.of_own hn0 hown
   clear hown
   have HGD : Hid (w6.heap.size ≤ gd ∧ gs < w6.heap.size) := Lib.hid ⟨hrd.choose_spec.2.2.2.2.2.2, (Array.getElem?_eq_some_iff.1 hri.choose_spec.1).1⟩
   have HRD : Hid (RowI w7 w6.heap.size gd capd n (dlP c l ns len most hole 0)) := by rw [dlP_zero hnsl.out]; exact Lib.hid hrd
   have hbr0 : Below w6.heap.size w6 w7 := hb
   clear hrd hb
   go_wp2_with fail
   have HSZ : Hid (w.heap.size ≤ w6.heap.size) := Lib.hid hB6.size
   go_loopw [51] (fun i wr => ∃ k : Nat, k ≤ n ∧ i = .int .i64 k ∧ Hid (RowI wr w6.heap.size gd capd n (dlP c l ns len most hole k)) ∧ Below w6.heap.size w6 wr) (fun i _ => n - (intOf i).toNat)
   case atStart => exact ⟨0, Nat.zero_le _, rfl, HRD, hbr0⟩
   case round =>
    clear HRD hbr0
    obtain ⟨k, hk, rfl, HRD, hbr⟩ := hrel
    obtain ⟨w7, hww⟩ : ∃ W, W = wr := ⟨_, rfl⟩
    subst hww
    have hB7 := hB6.call hbr rfl
    replace hT0 := blkb hT0 hbr
    replace hT1 := blkb hT1 hbr
    replace hT2 := blkb hT2 hbr
    replace H := H.below hbr
    replace hst := hst.below hbr
    replace hri := hri.below hbr
    clear hB6
    have qhT0_0 : w7.cell? ⟨w.heap.size, 0, none⟩ = some (.int .i64 c) := cell_at hT0 rfl
    have qhT0_1 : w7.cell? ⟨w.heap.size, 1, none⟩ = some (.int .i64 r) := cell_at hT0 rfl
    have qhT0_2 : w7.cell? ⟨w.heap.size, 2, none⟩ = some (.slice A n cap) := cell_at hT0 rfl
    have qhT1_0 : w7.cell? ⟨w.heap.size + 1, 0, none⟩ = some (.int .i64 un) := cell_at hT1 rfl
    have qhT1_1 : w7.cell? ⟨w.heap.size + 1, 1, none⟩ = some (.int .i64 len) := cell_at hT1 rfl
    have qhT1_2 : w7.cell? ⟨w.heap.size + 1, 2, none⟩ = some (.int .i64 most) := cell_at hT1 rfl
    have qhT1_3 : w7.cell? ⟨w.heap.size + 1, 3, none⟩ = some (.slice P np capp) := cell_at hT1 rfl
    have qhT2_0 : w7.cell? ⟨w.heap.size + 1 + 1, 0, none⟩ = some (.int .i64 a) := cell_at hT2 rfl
    have qhT2_1 : w7.cell? ⟨w.heap.size + 1 + 1, 1, none⟩ = some (.int .i64 b) := cell_at hT2 rfl
    have qhT2_2 : w7.cell? ⟨w.heap.size + 1 + 1, 2, none⟩ = some (.bool hole) := cell_at hT2 rfl
    clear qhT0_0 qhT0_1 qhT0_2 qhT1_0 qhT1_1 qhT1_2 qhT1_3 qhT2_0 qhT2_1 qhT2_2
    have hwk : IntKind.i64.wrap ((k : Int) + 1) = ((k + 1 : Nat) : Int) := by rw [wrapI (by omega)]; simp
    by_cases hlt : k < n
    rotate_left
    ·obtain rfl : n = k := by omega
     have HF : Hid (RowI w7 w6.heap.size gd capd n (dlL c l un len most a b hole)) := by rw [HDL.out, ← dlP_full, HLN.out]; exact HRD
     go_wp2
     go_ret
     exact ⟨_, rfl, (HF.out.lower HSZ.out).own, hB7⟩
    have hkn2 : (k : Int) < (n : Int) := by omega
    have hk02 : (0 : Int) ≤ (k : Int) := by omega
    have hkl : k < l.length := by rw [HLN.out]; exact hlt
    have HK1 := Lib.hid (dlP_keep (c := c) (l := l) (ns := ns) (len := len) (most := most) (hole := hole) (k := k))
    have HK2 := Lib.hid (dlP_set (c := c) (ns := ns) (len := len) (most := most) (hole := hole) hkl)
    have HK3 : Hid (Im.dly c l ns len most hole k = if hole || decide (len ≤ Im.at0 ns k) || Im.alia c l ns most k then -1 else Im.at0 ns k) := Lib.hid rfl
    have hx0 := hnsb.out k hlt
    have q1 := (hri.cell hlt).1
    have q2 : w7.cell? ⟨w.heap.size + 1 + 1, 2, none⟩ = some (.bool hole) := cell_at hT2 rfl
    generalize hX : Im.at0 ns k = x at q1 HK1 HK3 hx0
    have HX := Lib.hid hX
    clear hX
    cases hole
    rotate_left
    ·have qf : w7.frozen? ⟨gd, k, none⟩ = false := (HRD.out.cell hlt).2.1
     have qc := (HRD.out.cell hlt).1
     have HS2 : Hid (RowI (w7.setCell ⟨gd, k, none⟩ (.int .i64 (-1))) w6.heap.size gd capd n (dlP c l ns len most true (k + 1))) := by
      rw [← HK2.out (by rw [HK3.out]; rfl)]
      exact Lib.hid (HRD.out.set k (-1))
     have HN := Lib.hid (hbr.setCell (p := ⟨gd, k, none⟩) (by show _ ≤ gd; exact HGD.out.1) (.int .i64 (-1)))
     clear hbr
     go_wp2
     go_roundw
     case rel => exact ⟨k + 1, by omega, rfl, HS2, HN.out⟩
     case measure => simp [intOf]; omega
    have q3 : w7.cell? ⟨w.heap.size + 1, 1, none⟩ = some (.int .i64 len) := cell_at hT1 rfl
    have q4 : w7.cell? ⟨w.heap.size + 1, 2, none⟩ = some (.int .i64 most) := cell_at hT1 rfl
    by_cases hlen : len ≤ x
    ·have qf : w7.frozen? ⟨gd, k, none⟩ = false := (HRD.out.cell hlt).2.1
     have qc := (HRD.out.cell hlt).1
     have HS2 : Hid (RowI (w7.setCell ⟨gd, k, none⟩ (.int .i64 (-1))) w6.heap.size gd capd n (dlP c l ns len most false (k + 1))) := by
      rw [← HK2.out (by rw [HK3.out]; simp [hlen])]
      exact Lib.hid (HRD.out.set k (-1))
     have HN := Lib.hid (hbr.setCell (p := ⟨gd, k, none⟩) (by show _ ≤ gd; exact HGD.out.1) (.int .i64 (-1)))
     clear hbr
     go_wp2
     go_roundw
     case rel => exact ⟨k + 1, by omega, rfl, HS2, HN.out⟩
     case measure => simp [intOf]; omega
    have q5 : w7.cell? ⟨w.heap.size, 0, none⟩ = some (.int .i64 c) := cell_at hT0 rfl
    have q6 : w7.cell? ⟨w.heap.size, 1, none⟩ = some (.int .i64 r) := cell_at hT0 rfl
    have q7 : w7.cell? ⟨w.heap.size, 2, none⟩ = some (.slice A n cap) := cell_at hT0 rfl
    go_wp2_with fail
    refine (c141 c r A n cap l (some ⟨gs, 0, none⟩) n ns most k _ g hc hr hlt H hri.rd hnsb.out hst).mono ?_
    rintro e w9 ⟨rfl, hb9⟩
    have hr9 := HRD.out.below hb9
    have hbr9 := hbr.call hb9 rfl
    have HK4 : Hid (Im.alia c l ns most k = Im.alia c l ns most k) := Lib.hid rfl
    generalize Im.alia c l ns most k = al at HK3 HK4 ⊢
    clear q1 q2 q3 q4 q5 q6 q7 hb9 hbr
    cases al
    ·have HS2 : Hid (RowI w9 w6.heap.size gd capd n (dlP c l ns len most false (k + 1))) := by
      rw [HK1.out (by rw [HK3.out]; simp; intro h; omega)]
      exact Lib.hid hr9
     have HN := Lib.hid hbr9
     clear hr9 hbr9
     go_wp2
     go_roundw
     case rel => exact ⟨k + 1, by omega, rfl, HS2, HN.out⟩
     case measure => simp [intOf]; omega
    ·have qf : w9.frozen? ⟨gd, k, none⟩ = false := (hr9.cell hlt).2.1
     have qc := (hr9.cell hlt).1
     have HS2 : Hid (RowI (w9.setCell ⟨gd, k, none⟩ (.int .i64 (-1))) w6.heap.size gd capd n (dlP c l ns len most false (k + 1))) := by
      rw [← HK2.out (by rw [HK3.out]; simp)]
      exact Lib.hid (hr9.set k (-1))
     have HN := Lib.hid (hbr9.setCell (p := ⟨gd, k, none⟩) (by show _ ≤ gd; exact HGD.out.1) (.int .i64 (-1)))
     clear hbr9
     go_wp2
     go_roundw
     case rel => exact ⟨k + 1, by omega, rfl, HS2, HN.out⟩
     case measure => simp [intOf]; omega
end Go.Proofs.YtdimmlljjmmdbaaGreatDoor
namespace Go.Proofs.YtdimmlljjmmdbaaGreatDoor
open Go.RowKit
set_option maxHeartbeats 8000000
set_option maxRecDepth 20000
/-- an owned row of integers (or of others of one cell) -/
def Own (w : World) (B : Nat) (v : Value) (n : Nat) (l : List Value) : Prop := w.ownsRow B 3 1 v n l
theorem Own.below {w w' : World} {B : Nat} {v : Value} {n : Nat} {l : List Value} (h : Own w B v n l) (hb : Below w.heap.size w w') : Own w' B v n l := by
 obtain ⟨h1, h2 | ⟨g, cap, cs, rfl, h3, h4, h5⟩⟩ := h
 ·exact ⟨h1, .inl h2⟩
 ·exact ⟨h1, .inr ⟨g, cap, cs, rfl, h3, blkb h4 hb, h5⟩⟩
theorem own_lower {w : World} {B B' : Nat} {v : Value} {n : Nat} {l : List Value} (h : w.ownsRow B 3 1 v n l) (hb : B' ≤ B) : w.ownsRow B' 3 1 v n l := by
 obtain ⟨h1, h2 | ⟨g, cap, cs, rfl, h3, h4, h5⟩⟩ := h
 ·exact ⟨h1, .inl h2⟩
 ·exact ⟨h1, .inr ⟨g, cap, cs, rfl, Nat.le_trans hb h3, h4, h5⟩⟩
theorem c28_ok (c r : Nat) (A : Option Addr) (n cap : Nat) (l : List Int) (un len most : Int) (P : Option Addr) (np capp : Nat) (ps : List Pr) (j a b : Nat) (hole : Bool) (w : World) (g : Im.Gr c r l) (hc : c ≤ 16) (hr : r ≤ 16) (hu : 1 ≤ un ∧ un ≤ 1000) (hp : np ≤ 1000000) (hS : Mo.surv c r l un len most ps = 0) (hj : ps[j]? = some ⟨a, b, hole⟩) (ha : a < n) (hb0 : b < n) (H : RdI w A n l) (HP : RdP w P np ps) (hst : Steps w) :
  Calls Tryz.prog 28 #[.agg #[.int .i64 c, .int .i64 r, .slice A n cap], .agg #[.int .i64 un, .int .i64 len, .int .i64 most, .slice P np capp], .int .i64 j] w fun en w' => ∃ v, en = .returned (.tuple #[v, .int .i64 0]) ∧ w'.ownsRow w.heap.size 3 1 v n (encI (dlL c l un len most a b hole)) ∧ Below w.heap.size w w' := by
 have hl : n ≤ 1000000 := by have := H.len; have := g.len; have : c * r ≤ 256 := Nat.mul_le_mul hc hr; omega
 have hjn : j < np := by rw [← HP.len]; exact (List.getElem?_eq_some_iff.1 hj).1
 have hj1 : ¬ ((j : Int) < 0) := by omega
 have hj2 : ¬ ((np : Int) ≤ (j : Int)) := by omega
 have hj3 : (j : Int) < (np : Int) := by omega
 have hj4 : (0 : Int) ≤ (j : Int) := by omega
 have HSS := Lib.hid hS
 have HJ := Lib.hid hj
 clear hS hj
 obtain ⟨w0, hW⟩ : ∃ W, W = (w.alloc (Obj.cells #[.int .i64 c, .int .i64 r, .slice A n cap] 35)).alloc (Obj.cells #[.int .i64 un, .int .i64 len, .int .i64 most, .slice P np capp] 39) := ⟨_, rfl⟩
 have hT0 : w0.heap[w.heap.size]? = some (.cells #[.int .i64 c, .int .i64 r, .slice A n cap] 35 (0, 0)) := by rw [hW]; exact heap_old (by simp <;> omega) (heap_new (by simp))
 have hT1 : w0.heap[w.heap.size + 1]? = some (.cells #[.int .i64 un, .int .i64 len, .int .i64 most, .slice P np capp] 39 (0, 0)) := by rw [hW]; exact heap_new (by simp)
 have hB0 : Below w.heap.size w w0 := by rw [hW]; exact (((Below.refl _ _).alloc (by first | omega | (simp <;> omega)) _).alloc (by first | omega | (simp <;> omega)) _)
 replace H := H.below hB0
 replace HP := HP.below hB0
 replace hst := hst.below hB0
 go_enter Tryz.func28, Tryz.ntmps28
 go_wp2_with fail
 rw [← hW]
 clear hW
 have qhT0_0 : w0.cell? ⟨w.heap.size, 0, none⟩ = some (.int .i64 c) := cell_at hT0 rfl
 have qhT0_1 : w0.cell? ⟨w.heap.size, 1, none⟩ = some (.int .i64 r) := cell_at hT0 rfl
 have qhT0_2 : w0.cell? ⟨w.heap.size, 2, none⟩ = some (.slice A n cap) := cell_at hT0 rfl
 have qhT1_0 : w0.cell? ⟨w.heap.size + 1, 0, none⟩ = some (.int .i64 un) := cell_at hT1 rfl
 have qhT1_1 : w0.cell? ⟨w.heap.size + 1, 1, none⟩ = some (.int .i64 len) := cell_at hT1 rfl
 have qhT1_2 : w0.cell? ⟨w.heap.size + 1, 2, none⟩ = some (.int .i64 most) := cell_at hT1 rfl
 have qhT1_3 : w0.cell? ⟨w.heap.size + 1, 3, none⟩ = some (.slice P np capp) := cell_at hT1 rfl
 go_wp2_with fail
 refine (c25 c r A n cap l un len most P np capp ps _ hl hp H HP).mono ?_
 rintro e w1 ⟨rfl, hb⟩
 clear qhT0_0 qhT0_1 qhT0_2 qhT1_0 qhT1_1 qhT1_2 qhT1_3
 have hS := hb
 have hB1 := hB0.call hS rfl
 replace hT0 := blkb hT0 hS
 replace hT1 := blkb hT1 hS
 replace H := H.below hS
 replace HP := HP.below hS
 replace hst := hst.below hS
 clear hS hB0
 have qhT0_0 : w1.cell? ⟨w.heap.size, 0, none⟩ = some (.int .i64 c) := cell_at hT0 rfl
 have qhT0_1 : w1.cell? ⟨w.heap.size, 1, none⟩ = some (.int .i64 r) := cell_at hT0 rfl
 have qhT0_2 : w1.cell? ⟨w.heap.size, 2, none⟩ = some (.slice A n cap) := cell_at hT0 rfl
 have qhT1_0 : w1.cell? ⟨w.heap.size + 1, 0, none⟩ = some (.int .i64 un) := cell_at hT1 rfl
 have qhT1_1 : w1.cell? ⟨w.heap.size + 1, 1, none⟩ = some (.int .i64 len) := cell_at hT1 rfl
 have qhT1_2 : w1.cell? ⟨w.heap.size + 1, 2, none⟩ = some (.int .i64 most) := cell_at hT1 rfl
 have qhT1_3 : w1.cell? ⟨w.heap.size + 1, 3, none⟩ = some (.slice P np capp) := cell_at hT1 rfl
 clear hb
 rw [HSS.out]
 have hd1 : decide ((j : Int) < 0) = false := by simp
 have hd2 : decide (np ≤ j) = false := by simp; omega
 go_wp2_with fail
 refine (c94 false 10 _).mono ?_
 rintro e w' ⟨rfl, rfl⟩
 go_wp2_with fail
 refine (c89 _ 2 2 [0, Mo.when false 10] _ rfl (by omega) (RdS.of_new (cs := encI [0, Mo.when false 10]) rfl rfl)).mono ?_
 rintro e w' ⟨rfl, rfl⟩
 have hF : Mo.first [0, Mo.when false 10] = 0 := rfl
 rw [hF]
 obtain ⟨w2, hwn⟩ : ∃ V, V = w1.alloc (Obj.cells (encI [0, Mo.when false 10]).toArray 32) := ⟨_, rfl⟩
 have hbn : Below w1.heap.size w1 w2 := by rw [hwn]; exact (Below.refl _ _).alloc (Nat.le_refl _) _
 try rw [← hwn]
 clear hwn
 clear qhT0_0 qhT0_1 qhT0_2 qhT1_0 qhT1_1 qhT1_2 qhT1_3
 have hS := hbn
 have hB2 := hB1.call hS rfl
 replace hT0 := blkb hT0 hS
 replace hT1 := blkb hT1 hS
 replace H := H.below hS
 replace HP := HP.below hS
 replace hst := hst.below hS
 clear hS hB1
 have qhT0_0 : w2.cell? ⟨w.heap.size, 0, none⟩ = some (.int .i64 c) := cell_at hT0 rfl
 have qhT0_1 : w2.cell? ⟨w.heap.size, 1, none⟩ = some (.int .i64 r) := cell_at hT0 rfl
 have qhT0_2 : w2.cell? ⟨w.heap.size, 2, none⟩ = some (.slice A n cap) := cell_at hT0 rfl
 have qhT1_0 : w2.cell? ⟨w.heap.size + 1, 0, none⟩ = some (.int .i64 un) := cell_at hT1 rfl
 have qhT1_1 : w2.cell? ⟨w.heap.size + 1, 1, none⟩ = some (.int .i64 len) := cell_at hT1 rfl
 have qhT1_2 : w2.cell? ⟨w.heap.size + 1, 2, none⟩ = some (.int .i64 most) := cell_at hT1 rfl
 have qhT1_3 : w2.cell? ⟨w.heap.size + 1, 3, none⟩ = some (.slice P np capp) := cell_at hT1 rfl
 clear hbn
 go_wp2_with fail
 obtain ⟨pb, po, x, hPe, hx, hpb, p0, p1, p2⟩ := HP.at hjn
 rw [HJ.out] at hx
 obtain rfl : (⟨(a : Int), (b : Int), hole⟩ : Pr) = x := by simpa using hx
 clear hx
 subst hPe
 dsimp only at p0 p1 p2
 refine wp_region_plan [(0, true), (1, true), (2, true), (3, true), (4, true), (5, true), (6, true), (7, false), (8, true), (9, true)] w2.heap.size (by kernel_rfl) (by kernel_rfl) (Nat.le_refl _) (fun _ _ d _ _ h => by cases d <;> exact h) ?_
 have hC : Below w2.heap.size w2 w2 := Below.refl _ _
 have zhT0 : w.heap.size < w2.heap.size := (Array.getElem?_eq_some_iff.1 hT0).1
 have zhT1 : w.heap.size + 1 < w2.heap.size := (Array.getElem?_eq_some_iff.1 hT1).1
 repeat (first | (refine wpPlanA_skip _ rfl (by rfl) ?_; simp only [Act.put, List.setIfInBounds_toArray, List.set_cons_zero, List.set_cons_succ]) | (refine wpPlanA_soft _ ?_ rfl (by rfl) ?_ ?_; rotate_left; (intro wq hq hcq; go_simp; first | exact rfl | exact ⟨rfl, rfl⟩); simp only [Act.put, List.setIfInBounds_toArray, List.set_cons_zero, List.set_cons_succ]))
 refine wpPlanA_hard _ rfl (by rfl) (fun w3 hS K hK => ?_)
 have hB3 := hB2.call hS rfl
 replace hC := hC.call hS rfl
 replace hT0 := blkb hT0 hS
 replace hT1 := blkb hT1 hS
 replace H := H.below hS
 replace HP := HP.below hS
 replace hst := hst.below hS
 clear hS hB2
 go_simp
 refine (c99 c r A n cap l un len most _ np capp a b hole _ g hc hr hu ha hb0 H hst).mono ?_
 rintro e w4 ⟨vd, rfl, hown0, hb⟩
 have HSZ : Hid (w.heap.size ≤ w3.heap.size) := Lib.hid hB3.size
 have hown : Own w4 w3.heap.size vd n (encI (dlL c l un len most a b hole)) := hown0
 clear hown0
 have hB4 := hB3.call hb rfl
 replace hC := hC.call hb rfl
 replace hT0 := blkb hT0 hb
 replace hT1 := blkb hT1 hb
 replace H := H.below hb
 replace HP := HP.below hb
 replace hst := hst.below hb
 clear hb hB3
 refine hK _ _ hC ?_
 clear hK K
 try simp only [Act.put, List.setIfInBounds_toArray, List.set_cons_zero, List.set_cons_succ]
 repeat (first | (refine wpPlanA_skip _ rfl (by rfl) ?_; simp only [Act.put, List.setIfInBounds_toArray, List.set_cons_zero, List.set_cons_succ]) | (refine wpPlanA_soft _ ?_ rfl (by rfl) ?_ ?_; rotate_left; (intro wq hq hcq; go_simp; first | exact rfl | exact ⟨rfl, rfl⟩); simp only [Act.put, List.setIfInBounds_toArray, List.set_cons_zero, List.set_cons_succ]))
 clear qhT0_0 qhT0_1 qhT0_2 qhT1_0 qhT1_1 qhT1_2 qhT1_3
 refine wpPlanA_nil (fun w5 hS => ?_)
 clear hC zhT0 zhT1
 have hB5 := hB4.call hS rfl
 replace hT0 := blkb hT0 hS
 replace hT1 := blkb hT1 hS
 replace H := H.below hS
 replace HP := HP.below hS
 replace hst := hst.below hS
 replace hown := hown.below hS
 clear hS hB4
 have qhT0_0 : w5.cell? ⟨w.heap.size, 0, none⟩ = some (.int .i64 c) := cell_at hT0 rfl
 have qhT0_1 : w5.cell? ⟨w.heap.size, 1, none⟩ = some (.int .i64 r) := cell_at hT0 rfl
 have qhT0_2 : w5.cell? ⟨w.heap.size, 2, none⟩ = some (.slice A n cap) := cell_at hT0 rfl
 have qhT1_0 : w5.cell? ⟨w.heap.size + 1, 0, none⟩ = some (.int .i64 un) := cell_at hT1 rfl
 have qhT1_1 : w5.cell? ⟨w.heap.size + 1, 1, none⟩ = some (.int .i64 len) := cell_at hT1 rfl
 have qhT1_2 : w5.cell? ⟨w.heap.size + 1, 2, none⟩ = some (.int .i64 most) := cell_at hT1 rfl
 have qhT1_3 : w5.cell? ⟨w.heap.size + 1, 3, none⟩ = some (.slice (some ⟨pb, po, none⟩) np capp) := cell_at hT1 rfl
 have HO := Lib.hid (own_lower hown HSZ.out)
 clear hown
 go_wp2
 go_ret2
 exact ⟨vd, rfl, HO.out, hB5⟩
end Go.Proofs.YtdimmlljjmmdbaaGreatDoor
/- Plain laws of chapter 07: unit models and unit traces; the image as a sum of those of unit traces. -/
namespace Im
theorem zeros_at (n k : Nat) : at0 (List.replicate n 0) k = 0 := by
 unfold at0
 rw [List.getD_eq_getElem?_getD, List.getElem?_replicate]
 split <;> rfl
theorem imgFold_at {out ds tr : List Int} {k : Nat} (h : ds.length = out.length) (hk : k < out.length) : at0 (imgFold out ds tr) k = at0 out k + pick tr (at0 ds k) := by
 simp [imgFold, at0, List.getD_eq_getElem?_getD, h, hk]
theorem ext_at {x y : List Int} (hl : x.length = y.length) (h : ∀ i, i < x.length → at0 x i = at0 y i) : x = y := by
 apply List.ext_getElem hl
 intro i h1 h2
 have := h i h1
 unfold at0 at this
 rw [List.getD_eq_getElem?_getD, List.getD_eq_getElem?_getD, List.getElem?_eq_getElem h1, List.getElem?_eq_getElem h2] at this
 exact this
theorem at0_setk {x : List Int} {k i : Nat} {v : Int} (hk : k < x.length) : at0 (x.set k v) i = if i = k then v else at0 x i := by
 unfold at0
 rw [List.getD_eq_getElem?_getD, List.getElem?_set, List.getD_eq_getElem?_getD]
 by_cases h : k = i
 ·subst h; simp [hk]
 ·simp [h, Ne.symm h]
/-- the image by the first i pairs -/
def imgN (n : Nat) (dss data : List (List Int)) (i : Nat) : List Int := ((List.zip dss data).take i).foldl (fun out x => imgFold out x.1 x.2) (List.replicate n 0)
theorem imgN_zero (n : Nat) (dss data : List (List Int)) : imgN n dss data 0 = List.replicate n 0 := rfl
theorem imgN_full {n : Nat} {dss data : List (List Int)} (h : dss.length = data.length) : imgN n dss data dss.length = image n dss data := by
 unfold imgN image
 rw [List.take_of_length_le (by simp; omega)]
theorem imgN_succ {n : Nat} {dss data : List (List Int)} {i : Nat} (h1 : i < dss.length) (h2 : i < data.length) : imgN n dss data (i + 1) = imgFold (imgN n dss data i) (dss.getD i []) (data.getD i []) := by
 unfold imgN
 have h3 : i < (List.zip dss data).length := by simp; omega
 rw [List.take_succ_eq_append_getElem h3, List.foldl_append]
 simp [List.getD_eq_getElem?_getD, h1, h2]
theorem imgN_len {n : Nat} {dss data : List (List Int)} (hn : ∀ ds, ds ∈ dss → ds.length = n) (i : Nat) : (imgN n dss data i).length = n := by
 unfold imgN
 rw [image_fold_len]
 ·simp
 ·intro x hx
  have := List.mem_of_mem_take hx
  rw [hn x.1 (List.of_mem_zip (a := x.1) (b := x.2) this).1]; simp
theorem pick_le {tr : List Int} {B : Int} (h0 : 0 ≤ B) (h : ∀ x, x ∈ tr → -B ≤ x ∧ x ≤ B) (d : Int) : -B ≤ pick tr d ∧ pick tr d ≤ B := by
 unfold pick
 split
 ·unfold at0
  rw [List.getD_eq_getElem?_getD]
  cases hh : tr[d.toNat]? with
  | none => simp; omega
  | some v => simpa using h v (List.mem_of_getElem? hh)
 ·omega
theorem imgN_le {n : Nat} {dss data : List (List Int)} {B : Int} (h0 : 0 ≤ B) (hn : ∀ ds, ds ∈ dss → ds.length = n) (hd : ∀ tr, tr ∈ data → ∀ x, x ∈ tr → -B ≤ x ∧ x ≤ B) (hl : dss.length = data.length) : ∀ i, i ≤ dss.length → ∀ k, k < n → -(i * B) ≤ at0 (imgN n dss data i) k ∧ at0 (imgN n dss data i) k ≤ i * B := by
 intro i
 induction i with
 | zero => intro _ k _; rw [imgN_zero, zeros_at]; simp
 | succ i ih =>
  intro hi k hk
  have h1 : i < dss.length := by omega
  have h2 : i < data.length := by omega
  have hdl : (dss.getD i []).length = (imgN n dss data i).length := by
   rw [imgN_len hn, List.getD_eq_getElem?_getD, List.getElem?_eq_getElem h1]; exact hn _ (List.getElem_mem h1)
  rw [imgN_succ h1 h2, imgFold_at hdl (by rw [imgN_len hn]; exact hk)]
  have := ih (by omega) k hk
  have hp := pick_le (tr := data.getD i []) h0 (fun x hx => by
   rw [List.getD_eq_getElem?_getD, List.getElem?_eq_getElem h2] at hx; exact hd _ (List.getElem_mem h2) x hx) (at0 (dss.getD i []) k)
  have e : ((i + 1 : Nat) : Int) * B = (i : Int) * B + B := by rw [Int.natCast_add, Int.add_mul]; simp
  rw [e]
  omega
end Im
/- Plain laws of chapter 07: the operator and the image over all pairs are adjoint; misfits and bounds. -/
namespace Im
/-- the shape of valid traces: holes are empty, others have the length; delays of holes are -1 -/
def Fits (len n : Nat) : List (Bool × List Int) → List (List Int) → Prop
 | [], [] => True
 | p :: ps, tr :: data => p.2.length = n ∧ (if p.1 = true then tr = [] ∧ ∀ d, d ∈ p.2 → d = -1 else tr.length = len ∧ ∀ d, d ∈ p.2 → d < (len : Int)) ∧ Fits len n ps data
 | _, _ => False
/-- the sum of squared differences -/
def misfit : List Int → List Int → Int
 | a :: l, b :: m => (a - b) * (a - b) + misfit l m
 | _, _ => 0
theorem sq_nonneg' (x : Int) : 0 ≤ x * x := by
 rcases Int.le_total 0 x with h | h
 ·exact Int.mul_nonneg h h
 ·exact Int.mul_nonneg_of_nonpos_of_nonpos h h
end Im
namespace Go.Proofs.YtdimmlljjmmdbaaGreatDoor
open Go.RowKit
set_option maxHeartbeats 4000000
set_option maxRecDepth 20000
/-- a list of lists of integers at A -/
def RdD (w : World) (A : Option Addr) (n : Nat) (d : List (List Int)) : Prop :=
 ∃ hs : List Value, RdS w 1 A n hs ∧ d.length = n ∧ ∀ (k : Nat) (x : List Int), d[k]? = some x → ∃ a cap, hs[k]? = some (.slice a x.length cap) ∧ RdI w a x.length x
theorem RdD.below {w w' : World} {A : Option Addr} {n : Nat} {d : List (List Int)} (h : RdD w A n d) (hb : Below w.heap.size w w') : RdD w' A n d := by
 obtain ⟨hs, h1, h2, h3⟩ := h
 exact ⟨hs, h1.below hb, h2, fun k x hx => by obtain ⟨a, cap, e, hr⟩ := h3 k x hx; exact ⟨a, cap, e, hr.below hb⟩⟩
theorem RdD.len {w : World} {A : Option Addr} {n : Nat} {d : List (List Int)} (h : RdD w A n d) : d.length = n := by obtain ⟨_, _, h2, _⟩ := h; exact h2
theorem RdD.at {w : World} {A : Option Addr} {n : Nat} {d : List (List Int)} (h : RdD w A n d) {k : Nat} (hk : k < n) :
  ∃ b off x a cap, A = some ⟨b, off, none⟩ ∧ d[k]? = some x ∧ b < w.heap.size ∧ w.cell? ⟨b, off + k, none⟩ = some (.slice a x.length cap) ∧ RdI w a x.length x := by
 obtain ⟨hs, h1, h2, h3⟩ := h
 obtain ⟨b, off, hA, hb, hc⟩ := RdS.at h1 hk
 have hx : k < d.length := by omega
 obtain ⟨a, cap, e, hr⟩ := h3 k d[k] (List.getElem?_eq_getElem hx)
 have h0 := hc 0 (by omega)
 rw [Nat.mul_one, Nat.add_zero, e] at h0
 exact ⟨b, off, d[k], a, cap, hA, List.getElem?_eq_getElem hx, hb, h0, hr⟩
namespace Mo
/-- the shape of traces -/
def okT (len : Int) (p : Pr) (x : List Int) : Prop := if p.h = true then x.length = 0 else (x.length : Int) = len
def Shp (len : Int) (ps : List Pr) (d : List (List Int)) : Prop := ∀ (j : Nat) (p : Pr) (x : List Int), ps[j]? = some p → d[j]? = some x → okT len p x
open Classical in
/-- what is wrong with traces -/
noncomputable def dat (len : Int) (ps : List Pr) (d : List (List Int)) : Int := if d.length = ps.length ∧ Shp len ps d then first (d.map fun x => allw x (-1048576) 1048576) else 2
theorem dat_len {len : Int} {ps : List Pr} {d : List (List Int)} (h : d.length ≠ ps.length) : dat len ps d = 2 := by unfold dat; rw [if_neg (fun hh => h hh.1)]
theorem dat_bad {len : Int} {ps : List Pr} {d : List (List Int)} {j : Nat} {p : Pr} {x : List Int} (hp : ps[j]? = some p) (hx : d[j]? = some x) (h : ¬ okT len p x) : dat len ps d = 2 := by unfold dat; rw [if_neg (fun hh => h (hh.2 j p x hp hx))]
theorem dat_ok {len : Int} {ps : List Pr} {d : List (List Int)} (h : d.length = ps.length) (hs : Shp len ps d) : dat len ps d = first (d.map fun x => allw x (-1048576) 1048576) := by unfold dat; rw [if_pos ⟨h, hs⟩]
theorem dat_zero {len : Int} {ps : List Pr} {d : List (List Int)} (h : dat len ps d = 0) : d.length = ps.length ∧ Shp len ps d ∧ ∀ x, x ∈ d → ∀ y, y ∈ x → -1048576 ≤ y ∧ y ≤ 1048576 := by
 unfold dat at h
 by_cases hh : d.length = ps.length ∧ Shp len ps d
 ·rw [if_pos hh] at h
  refine ⟨hh.1, hh.2, fun x hx y hy => ?_⟩
  have h1 := first_zero h (allw x (-1048576) 1048576) (List.mem_map.2 ⟨x, hx, rfl⟩)
  have := allw_ok.1 h1 y hy
  omega
 ·rw [if_neg hh] at h; cases h
end Mo
theorem c142 (A : Option Addr) (n cap : Nat) (l : List (List Int)) (f : List Int → Int) (w : World) (hl : n ≤ 1000000) (H : RdD w A n l)
  (hcl : ∀ (W : World) (x : List Int) (a : Option Addr) (xc : Nat), x ∈ l → Below w.heap.size w W → RdI W a x.length x →
   Calls Tryz.prog 143 #[.slice a x.length xc] W fun e w' => e = .returned (Value.int .i64 (f x)) ∧ Below W.heap.size W w') :
  Calls Tryz.prog 142 #[.slice A n cap, .func (.func 143) #[] #[]] w fun en w' => ∃ A' cap', en = .returned (.slice A' n cap') ∧ RdI w' A' n (l.map f) ∧ Below w.heap.size w w' := by
 have Hn := Lib.hid H.len
 have Hcl := Lib.hid hcl
 have hmm : encI (l.map f) = l.map fun x => Value.int .i64 (f x) := by simp [encI]
 have Hm := Lib.hid hmm
 clear hcl hmm
 obtain ⟨i0, hi, hz0, hz1, hz2⟩ := info_parts info32
 go_enter Tryz.func142, Tryz.ntmps142
 go_wp2
 go_loopw [5, 10] (fun x i wr => ∃ k : Nat, k ≤ n ∧ i = .int .i64 k ∧ wr.ownsRow w.heap.size 32 1 x k ((l.map fun x => Value.int .i64 (f x)).take k) ∧ Below w.heap.size w wr) (fun _ i _ => n - (intOf i).toNat)
 case atStart => exact ⟨0, Nat.zero_le _, rfl, World.ownsRow_nil _ _ _ _, Below.refl _ _⟩
 case round =>
  obtain ⟨k, hk, rfl, hown, hB⟩ := hrel
  by_cases hlt : k < n
  ·obtain ⟨b, off, x, xa, xc, rfl, hx, hb, h0, hrx⟩ := (H.below hB).at hlt
   have Hx := Lib.hid hx
   have htk : (l.map fun x => Value.int .i64 (f x)).take (k + 1) = (l.map fun x => Value.int .i64 (f x)).take k ++ [Value.int .i64 (f x)] := by rw [List.take_succ, List.getElem?_map, hx]; simp
   have HTK := Lib.hid htk
   clear hx htk
   go_wp2_with fail
   refine (Hcl.out _ x xa xc (List.mem_of_getElem? Hx.out) hB hrx).mono ?_
   rintro e w2 ⟨rfl, hb2⟩
   have hown2 := own_below hown hb2
   have hB2 := fin0 hB hb2
   have hsz := hB2.size
   go_wp2_with (at_builtin; refine wpList_append_own _ rfl _ _ 152 rfl w.heap.size 32 i0 (.int .i64 0) 1 8 Tryz.underlying152 hi hz0 hz1 hz2 rfl (by decide) _ _ _ rfl (hown2.alloc _) ⟨w2.heap.size, 0, none⟩ 1 1 [Value.int .i64 (f x)] rfl rfl ?c1 ?c2 ?c3 ?c4 ?c5 ?_)
   case c1 => exact news_one _ _ rfl
   case c2 => intro x hx; simp at hx; subst hx; rfl
   case c3 => unfold maxLen; omega
   case c4 => omega
   case c5 => simp; omega
   intro x' w3 hown3 hg3 _
   have hB3 : Below w.heap.size w w3 := (hB2.alloc hsz _).grown hg3 (by simp; omega) (fun g hg => (hown2.lt g hg).1)
   rw [← HTK.out] at hown3
   have HO := Lib.hid hown3
   clear hown3 hg3 hown2 hown
   go_wp2
   go_roundw
   case rel => exact ⟨k + 1, by omega, by go_num, HO.out, hB3⟩
   case measure => simp [intOf]; omega
  ·obtain rfl : n = k := by omega
   rw [List.take_of_length_le (by rw [List.length_map, Hn.out]; exact Nat.le_refl _)] at hown
   have HO := Lib.hid hown
   clear hown
   go_wp2
   go_ret
   obtain ⟨A', cap', rfl, hr⟩ := Sl.of_own HO.out
   exact ⟨A', cap', rfl, by unfold RdI; rw [Hm.out]; exact hr, hB⟩
theorem c143 (A : Option Addr) (n cap : Nat) (l : List Int) (w : World) (hl : n ≤ 1000000) (H : RdI w A n l) :
  Calls Tryz.prog 143 #[.slice A n cap] w fun en w' => en = .returned (.int .i64 (Mo.allw l (-1048576) 1048576)) ∧ Below w.heap.size w w' := by
 go_enter Tryz.func143, Tryz.ntmps143
 obtain ⟨w0, hw0⟩ : ∃ W, W = w := ⟨_, rfl⟩
 subst hw0
 have hB0 : Below w0.heap.size w0 w0 := Below.refl _ _
 go_wp2_with fail
 go_wp2_with fail
 refine (c113 A n cap l _ _ _ hl H).mono ?_
 rintro e w1 ⟨rfl, hb⟩
 have hS := hb
 have hB1 := hB0.call hS rfl
 replace H := H.below hS
 clear hS hB0
 clear hb
 go_wp2
 go_ret
 exact ⟨rfl, hB1⟩
theorem c101_ne (un len most : Int) (P : Option Addr) (np capp : Nat) (ps : List Pr) (D : Option Addr) (m capd : Nat) (d : List (List Int)) (w : World) (hmm : ¬ m = np) (hp : np ≤ 1000000) (hd : m ≤ 1000000) (hdl : ∀ x, x ∈ d → x.length ≤ 1000000) (HP : RdP w P np ps) (HD : RdD w D m d) :
  Calls Tryz.prog 101 #[.agg #[.int .i64 un, .int .i64 len, .int .i64 most, .slice P np capp], .slice D m capd] w fun en w' => en = .returned (.int .i64 (Mo.dat len ps d)) ∧ Below w.heap.size w w' := by
 have HPL := Lib.hid HP.len
 have HDL := Lib.hid HD.len
 have Hdl := Lib.hid hdl
 clear hdl
 obtain ⟨V, hV⟩ : ∃ V, V = Mo.dat len ps d := ⟨_, rfl⟩
 rw [← hV]
 have HV := Lib.hid hV
 clear hV
 have hne : ((m : Int) != (np : Int)) = true := by simp; omega
 have HV2 : Hid (V = 2) := Lib.hid (by rw [HV.out]; exact Mo.dat_len (by rw [HPL.out, HDL.out]; exact hmm))
 clear hmm
 obtain ⟨w0, hW⟩ : ∃ W, W = w.alloc (Obj.cells #[.int .i64 un, .int .i64 len, .int .i64 most, .slice P np capp] 39) := ⟨_, rfl⟩
 have hT0 : w0.heap[w.heap.size]? = some (.cells #[.int .i64 un, .int .i64 len, .int .i64 most, .slice P np capp] 39 (0, 0)) := by rw [hW]; exact heap_new (by simp)
 have hB0 : Below w.heap.size w w0 := by rw [hW]; exact ((Below.refl _ _).alloc (by first | omega | (simp <;> omega)) _)
 replace HP := HP.below hB0
 replace HD := HD.below hB0
 go_enter Tryz.func101, Tryz.ntmps101
 go_wp2_with fail
 rw [← hW]
 clear hW
 have qhT0_0 : w0.cell? ⟨w.heap.size, 0, none⟩ = some (.int .i64 un) := cell_at hT0 rfl
 have qhT0_1 : w0.cell? ⟨w.heap.size, 1, none⟩ = some (.int .i64 len) := cell_at hT0 rfl
 have qhT0_2 : w0.cell? ⟨w.heap.size, 2, none⟩ = some (.int .i64 most) := cell_at hT0 rfl
 have qhT0_3 : w0.cell? ⟨w.heap.size, 3, none⟩ = some (.slice P np capp) := cell_at hT0 rfl
 go_wp2
 go_ret
 exact ⟨ret_int HV2.out.symm, hB0⟩
theorem c101_eq (un len most : Int) (P : Option Addr) (m capp : Nat) (ps : List Pr) (D : Option Addr) (capd : Nat) (d : List (List Int)) (w : World) (hd : m ≤ 1000000) (hdl : ∀ x, x ∈ d → x.length ≤ 1000000) (HP : RdP w P m ps) (HD : RdD w D m d) :
  Calls Tryz.prog 101 #[.agg #[.int .i64 un, .int .i64 len, .int .i64 most, .slice P m capp], .slice D m capd] w fun en w' => en = .returned (.int .i64 (Mo.dat len ps d)) ∧ Below w.heap.size w w' := by
 have HPL := Lib.hid HP.len
 have HDL := Lib.hid HD.len
 have Hdl := Lib.hid hdl
 clear hdl
 obtain ⟨V, hV⟩ : ∃ V, V = Mo.dat len ps d := ⟨_, rfl⟩
 rw [← hV]
 have HV := Lib.hid hV
 clear hV
 have hne : ((m : Int) != (m : Int)) = false := by simp
 obtain ⟨w0, hW⟩ : ∃ W, W = w.alloc (Obj.cells #[.int .i64 un, .int .i64 len, .int .i64 most, .slice P m capp] 39) := ⟨_, rfl⟩
 have hT0 : w0.heap[w.heap.size]? = some (.cells #[.int .i64 un, .int .i64 len, .int .i64 most, .slice P m capp] 39 (0, 0)) := by rw [hW]; exact heap_new (by simp)
 have hB0 : Below w.heap.size w w0 := by rw [hW]; exact ((Below.refl _ _).alloc (by first | omega | (simp <;> omega)) _)
 replace HP := HP.below hB0
 replace HD := HD.below hB0
 go_enter Tryz.func101, Tryz.ntmps101
 go_wp2_with fail
 rw [← hW]
 clear hW
 have qhT0_0 : w0.cell? ⟨w.heap.size, 0, none⟩ = some (.int .i64 un) := cell_at hT0 rfl
 have qhT0_1 : w0.cell? ⟨w.heap.size, 1, none⟩ = some (.int .i64 len) := cell_at hT0 rfl
 have qhT0_2 : w0.cell? ⟨w.heap.size, 2, none⟩ = some (.int .i64 most) := cell_at hT0 rfl
 have qhT0_3 : w0.cell? ⟨w.heap.size, 3, none⟩ = some (.slice P m capp) := cell_at hT0 rfl
 have hst0 : Hid (∀ (j : Nat) (p : Pr) (x : List Int), j < 0 → ps[j]? = some p → d[j]? = some x → Mo.okT len p x) := Lib.hid (fun j _ _ h => absurd h (Nat.not_lt_zero j))
 go_loopw [15] (fun i wr => ∃ k : Nat, k ≤ m ∧ i = .int .i64 k ∧ Hid (∀ (j : Nat) (p : Pr) (x : List Int), j < k → ps[j]? = some p → d[j]? = some x → Mo.okT len p x) ∧ Below w0.heap.size w0 wr) (fun i _ => m - (intOf i).toNat)
 case atStart => exact ⟨0, Nat.zero_le _, rfl, hst0, Below.refl _ _⟩
 case round =>
  clear hst0
  obtain ⟨k, hk, rfl, HC, hbr⟩ := hrel
  obtain ⟨w1, hww⟩ : ∃ W, W = wr := ⟨_, rfl⟩
  subst hww
  have hB1 := hB0.call hbr rfl
  replace hT0 := blkb hT0 hbr
  replace HP := HP.below hbr
  replace HD := HD.below hbr
  clear hB0
  have qhT0_0 : w1.cell? ⟨w.heap.size, 0, none⟩ = some (.int .i64 un) := cell_at hT0 rfl
  have qhT0_1 : w1.cell? ⟨w.heap.size, 1, none⟩ = some (.int .i64 len) := cell_at hT0 rfl
  have qhT0_2 : w1.cell? ⟨w.heap.size, 2, none⟩ = some (.int .i64 most) := cell_at hT0 rfl
  have qhT0_3 : w1.cell? ⟨w.heap.size, 3, none⟩ = some (.slice P m capp) := cell_at hT0 rfl
  have hwk : IntKind.i64.wrap ((k : Int) + 1) = ((k + 1 : Nat) : Int) := by rw [wrapI (by omega)]; simp
  by_cases hlt : k < m
  rotate_left
  ·
    obtain rfl : m = k := by omega
    have HVF : Hid (V = Mo.first (d.map fun x => Mo.allw x (-1048576) 1048576)) := Lib.hid (by
     rw [HV.out]
     refine Mo.dat_ok (by rw [HPL.out, HDL.out]) (fun j p x hp hx => HC.out j p x ?_ hp hx)
     have : j < d.length := by
      by_cases h : j < d.length
      ·exact h
      ·rw [List.getElem?_eq_none (by omega)] at hx; cases hx
     rw [HDL.out] at this; exact this)
    go_wp2_with fail
    refine (c142 D m capd d (fun x => Mo.allw x (-1048576) 1048576) _ hd HD (fun W x a xc hx _ hrx => c143 a x.length xc x W (Hdl.out x hx) hrx)).mono ?_
    rintro e w2 ⟨A1, cap1, rfl, hr1, hb⟩
    clear qhT0_0 qhT0_1 qhT0_2 qhT0_3
    have hS := hb
    have hB2 := hB1.call hS rfl
    replace hT0 := blkb hT0 hS
    replace HP := HP.below hS
    replace HD := HD.below hS
    replace hbr := hbr.call hS rfl
    clear hS hB1
    have qhT0_0 : w2.cell? ⟨w.heap.size, 0, none⟩ = some (.int .i64 un) := cell_at hT0 rfl
    have qhT0_1 : w2.cell? ⟨w.heap.size, 1, none⟩ = some (.int .i64 len) := cell_at hT0 rfl
    have qhT0_2 : w2.cell? ⟨w.heap.size, 2, none⟩ = some (.int .i64 most) := cell_at hT0 rfl
    have qhT0_3 : w2.cell? ⟨w.heap.size, 3, none⟩ = some (.slice P m capp) := cell_at hT0 rfl
    clear hb
    go_wp2_with fail
    refine (c89 A1 m cap1 _ _ hr1.len hd hr1).mono ?_
    rintro e w' ⟨rfl, rfl⟩
    go_wp2
    go_ret
    exact ⟨ret_int HVF.out.symm, hB2⟩
  have hkm2 : (k : Int) < (m : Int) := by omega
  have hk02 : (0 : Int) ≤ (k : Int) := by omega
  obtain ⟨db, doff, x, xa, xc, rfl, hx, hdb, hdc, hrx⟩ := HD.at hlt
  obtain ⟨pb, poff, p, rfl, hpx, hpb, hp0, hp1, hp2⟩ := HP.at hlt
  obtain ⟨p0, p1, ph⟩ := p
  have HX := Lib.hid hx
  have HPX := Lib.hid hpx
  clear hx hpx hrx hp0 hp1
  have HN := Lib.hid hbr
  clear hbr
  cases ph
  ·
    by_cases hxl : (x.length : Int) = len
    ·
      have hx1 : ((x.length : Int) != len) = false := by simp [hxl]
      have HXL := Lib.hid hxl
      clear hxl
      have HC2 : Hid (∀ (j : Nat) (p : Pr) (y : List Int), j < k + 1 → ps[j]? = some p → d[j]? = some y → Mo.okT len p y) := Lib.hid (fun j p y hj hp hy => by
       by_cases h : j = k
       ·subst h
        rw [HX.out] at hy; rw [HPX.out] at hp
        cases hy; cases hp
        simp [Mo.okT]; exact HXL.out
       ·exact HC.out j p y (by omega) hp hy)
      go_wp2
      go_roundw
      case rel => exact ⟨k + 1, by omega, rfl, HC2, HN.out⟩
      case measure => simp [intOf]; omega
    ·
      have hx1 : ((x.length : Int) != len) = true := by simpa using hxl
      have HXL := Lib.hid hxl
      clear hxl
      have HV2 : Hid (V = 2) := Lib.hid (by rw [HV.out]; exact Mo.dat_bad HPX.out HX.out (by simp [Mo.okT]; exact HXL.out))
      go_wp2
      go_ret
      exact ⟨ret_int HV2.out.symm, hB1⟩
  ·
    by_cases hxl : x.length = 0
    ·
      have hx1 : decide (0 < x.length) = false := decide_eq_false (by omega)
      have HXL := Lib.hid hxl
      clear hxl
      have HC2 : Hid (∀ (j : Nat) (p : Pr) (y : List Int), j < k + 1 → ps[j]? = some p → d[j]? = some y → Mo.okT len p y) := Lib.hid (fun j p y hj hp hy => by
       by_cases h : j = k
       ·subst h
        rw [HX.out] at hy; rw [HPX.out] at hp
        cases hy; cases hp
        simp only [Mo.okT, if_true]; exact HXL.out
       ·exact HC.out j p y (by omega) hp hy)
      go_wp2
      go_roundw
      case rel => exact ⟨k + 1, by omega, rfl, HC2, HN.out⟩
      case measure => simp [intOf]; omega
    ·
      have hx1 : decide (0 < x.length) = true := decide_eq_true (by omega)
      have HXL := Lib.hid hxl
      clear hxl
      have HV2 : Hid (V = 2) := Lib.hid (by rw [HV.out]; exact Mo.dat_bad HPX.out HX.out (by simp only [Mo.okT, if_true]; exact HXL.out))
      go_wp2
      go_ret
      exact ⟨ret_int HV2.out.symm, hB1⟩
theorem c101 (un len most : Int) (P : Option Addr) (np capp : Nat) (ps : List Pr) (D : Option Addr) (m capd : Nat) (d : List (List Int)) (w : World) (hp : np ≤ 1000000) (hd : m ≤ 1000000) (hdl : ∀ x, x ∈ d → x.length ≤ 1000000) (HP : RdP w P np ps) (HD : RdD w D m d) : Calls Tryz.prog 101 #[.agg #[.int .i64 un, .int .i64 len, .int .i64 most, .slice P np capp], .slice D m capd] w fun en w' => en = .returned (.int .i64 (Mo.dat len ps d)) ∧ Below w.heap.size w w' := by
 by_cases hmm : m = np
 ·subst hmm
  exact c101_eq un len most P m capp ps D capd d w hd hdl HP HD
 ·exact c101_ne un len most P np capp ps D m capd d w hmm hp hd hdl HP HD
theorem c102 (c r : Int) (A : Option Addr) (n cap : Nat) (l : List Int) (un len most : Int) (P : Option Addr) (np capp : Nat) (ps : List Pr) (D : Option Addr) (m capd : Nat) (d : List (List Int)) (w : World) (hl : n ≤ 1000000) (hp : np ≤ 1000000) (hd : m ≤ 1000000) (hdl : ∀ x, x ∈ d → x.length ≤ 1000000) (HP : RdP w P np ps) (HD : RdD w D m d) (H : RdI w A n l) :
  Calls Tryz.prog 102 #[.agg #[.int .i64 c, .int .i64 r, .slice A n cap], .agg #[.int .i64 un, .int .i64 len, .int .i64 most, .slice P np capp], .slice D m capd] w fun en w' => en = .returned (.int .i64 (Mo.first [Mo.surv c r l un len most ps, Mo.dat len ps d])) ∧ Below w.heap.size w w' := by
 obtain ⟨w0, hW⟩ : ∃ W, W = (w.alloc (Obj.cells #[.int .i64 c, .int .i64 r, .slice A n cap] 35)).alloc (Obj.cells #[.int .i64 un, .int .i64 len, .int .i64 most, .slice P np capp] 39) := ⟨_, rfl⟩
 have hT0 : w0.heap[w.heap.size]? = some (.cells #[.int .i64 c, .int .i64 r, .slice A n cap] 35 (0, 0)) := by rw [hW]; exact heap_old (by simp <;> omega) (heap_new (by simp))
 have hT1 : w0.heap[w.heap.size + 1]? = some (.cells #[.int .i64 un, .int .i64 len, .int .i64 most, .slice P np capp] 39 (0, 0)) := by rw [hW]; exact heap_new (by simp)
 have hB0 : Below w.heap.size w w0 := by rw [hW]; exact (((Below.refl _ _).alloc (by first | omega | (simp <;> omega)) _).alloc (by first | omega | (simp <;> omega)) _)
 replace H := H.below hB0
 replace HP := HP.below hB0
 replace HD := HD.below hB0
 go_enter Tryz.func102, Tryz.ntmps102
 go_wp2_with fail
 rw [← hW]
 clear hW
 have qhT0_0 : w0.cell? ⟨w.heap.size, 0, none⟩ = some (.int .i64 c) := cell_at hT0 rfl
 have qhT0_1 : w0.cell? ⟨w.heap.size, 1, none⟩ = some (.int .i64 r) := cell_at hT0 rfl
 have qhT0_2 : w0.cell? ⟨w.heap.size, 2, none⟩ = some (.slice A n cap) := cell_at hT0 rfl
 have qhT1_0 : w0.cell? ⟨w.heap.size + 1, 0, none⟩ = some (.int .i64 un) := cell_at hT1 rfl
 have qhT1_1 : w0.cell? ⟨w.heap.size + 1, 1, none⟩ = some (.int .i64 len) := cell_at hT1 rfl
 have qhT1_2 : w0.cell? ⟨w.heap.size + 1, 2, none⟩ = some (.int .i64 most) := cell_at hT1 rfl
 have qhT1_3 : w0.cell? ⟨w.heap.size + 1, 3, none⟩ = some (.slice P np capp) := cell_at hT1 rfl
 refine wp_region_plan [(0, true), (1, true), (3, true), (4, true), (2, false), (5, false), (6, false), (7, false), (8, true)] w0.heap.size (by kernel_rfl) (by kernel_rfl) (Nat.le_refl _) (fun _ _ d _ _ h => by cases d <;> exact h) ?_
 have hC : Below w0.heap.size w0 w0 := Below.refl _ _
 have zhT0 : w.heap.size < w0.heap.size := (Array.getElem?_eq_some_iff.1 hT0).1
 have zhT1 : w.heap.size + 1 < w0.heap.size := (Array.getElem?_eq_some_iff.1 hT1).1
 repeat (first | (refine wpPlanA_skip _ rfl (by rfl) ?_; simp only [Act.put, List.setIfInBounds_toArray, List.set_cons_zero, List.set_cons_succ]) | (refine wpPlanA_soft _ ?_ rfl (by rfl) ?_ ?_; rotate_left; (intro wq hq hcq; go_simp; first | exact rfl | exact ⟨rfl, rfl⟩); simp only [Act.put, List.setIfInBounds_toArray, List.set_cons_zero, List.set_cons_succ]))
 refine wpPlanA_hard _ rfl (by rfl) (fun w1 hS K hK => ?_)
 have hB1 := hB0.call hS rfl
 replace hC := hC.call hS rfl
 replace hT0 := blkb hT0 hS
 replace hT1 := blkb hT1 hS
 replace H := H.below hS
 replace HP := HP.below hS
 replace HD := HD.below hS
 clear hS hB0
 go_simp
 refine (c25 c r A n cap l un len most P np capp ps _ hl hp H HP).mono ?_
 rintro e w2 ⟨rfl, hb⟩
 have hB2 := hB1.call hb rfl
 replace hC := hC.call hb rfl
 replace hT0 := blkb hT0 hb
 replace hT1 := blkb hT1 hb
 replace H := H.below hb
 replace HP := HP.below hb
 replace HD := HD.below hb
 clear hb hB1
 refine hK _ _ hC ?_
 clear hK K
 try simp only [Act.put, List.setIfInBounds_toArray, List.set_cons_zero, List.set_cons_succ]
 refine wpPlanA_hard _ rfl (by rfl) (fun w3 hS K hK => ?_)
 have hB3 := hB2.call hS rfl
 replace hC := hC.call hS rfl
 replace hT0 := blkb hT0 hS
 replace hT1 := blkb hT1 hS
 replace H := H.below hS
 replace HP := HP.below hS
 replace HD := HD.below hS
 clear hS hB2
 go_simp
 refine (c101 un len most P np capp ps D m capd d _ hp hd hdl HP HD).mono ?_
 rintro e w4 ⟨rfl, hb⟩
 have hB4 := hB3.call hb rfl
 replace hC := hC.call hb rfl
 replace hT0 := blkb hT0 hb
 replace hT1 := blkb hT1 hb
 replace H := H.below hb
 replace HP := HP.below hb
 replace HD := HD.below hb
 clear hb hB3
 refine hK _ _ hC ?_
 clear hK K
 try simp only [Act.put, List.setIfInBounds_toArray, List.set_cons_zero, List.set_cons_succ]
 refine wpPlanA_hard _ rfl (by rfl) (fun w5 hS K hK => ?_)
 have hB5 := hB4.call hS rfl
 replace hC := hC.call hS rfl
 replace hT0 := blkb hT0 hS
 replace hT1 := blkb hT1 hS
 replace H := H.below hS
 replace HP := HP.below hS
 replace HD := HD.below hS
 clear hS hB4
 go_simp
 have hb : Below w5.heap.size w5 (w5.alloc (Obj.cells #[.int .i64 (Mo.surv c r l un len most ps), .int .i64 (Mo.dat len ps d)] 32)) := (Below.refl _ _).alloc (Nat.le_refl _) _
 have k1 : (w5.alloc (Obj.cells #[.int .i64 (Mo.surv c r l un len most ps), .int .i64 (Mo.dat len ps d)] 32)).heap[w5.heap.size]? = some (Obj.cells #[.int .i64 (Mo.surv c r l un len most ps), .int .i64 (Mo.dat len ps d)] 32) := heap_new rfl
 refine hK _ _ (hC.alloc hC.size _) ?_
 clear hK K
 replace hC := hC.call hb rfl
 have hB6 := hB5.call hb rfl
 replace hT0 := blkb hT0 hb
 replace hT1 := blkb hT1 hb
 replace H := H.below hb
 replace HP := HP.below hb
 replace HD := HD.below hb
 clear hb hB5
 generalize hWn : w5.alloc (Obj.cells #[.int .i64 (Mo.surv c r l un len most ps), .int .i64 (Mo.dat len ps d)] 32) = w6 at k1 hC hB6 hT0 hT1 H HP HD ⊢
 clear hWn
 generalize hWn : w5.heap.size = bk1 at k1 ⊢
 clear hWn
 try simp only [Act.put, List.setIfInBounds_toArray, List.set_cons_zero, List.set_cons_succ]
 refine wpPlanA_hard _ rfl (by rfl) (fun w7 hS K hK => ?_)
 have hB7 := hB6.call hS rfl
 replace hC := hC.call hS rfl
 replace hT0 := blkb hT0 hS
 replace hT1 := blkb hT1 hS
 replace H := H.below hS
 replace HP := HP.below hS
 replace HD := HD.below hS
 replace k1 := blkb k1 hS
 clear hS hB6
 go_simp
 refine (c89 _ 2 2 [Mo.surv c r l un len most ps, Mo.dat len ps d] _ rfl (by omega) (RdS.of_block (cs := encI [Mo.surv c r l un len most ps, Mo.dat len ps d]) k1 rfl)).mono ?_
 rintro e w' ⟨rfl, rfl⟩
 refine hK _ _ hC ?_
 clear hK K
 try simp only [Act.put, List.setIfInBounds_toArray, List.set_cons_zero, List.set_cons_succ]
 repeat (first | (refine wpPlanA_skip _ rfl (by rfl) ?_; simp only [Act.put, List.setIfInBounds_toArray, List.set_cons_zero, List.set_cons_succ]) | (refine wpPlanA_soft _ ?_ rfl (by rfl) ?_ ?_; rotate_left; (intro wq hq hcq; go_simp; first | exact rfl | exact ⟨rfl, rfl⟩); simp only [Act.put, List.setIfInBounds_toArray, List.set_cons_zero, List.set_cons_succ]))
 clear k1
 clear qhT0_0 qhT0_1 qhT0_2 qhT1_0 qhT1_1 qhT1_2 qhT1_3
 refine wpPlanA_nil (fun w8 hS => ?_)
 clear hC zhT0 zhT1
 have hB8 := hB7.call hS rfl
 replace hT0 := blkb hT0 hS
 replace hT1 := blkb hT1 hS
 replace H := H.below hS
 replace HP := HP.below hS
 replace HD := HD.below hS
 clear hS hB7
 have qhT0_0 : w8.cell? ⟨w.heap.size, 0, none⟩ = some (.int .i64 c) := cell_at hT0 rfl
 have qhT0_1 : w8.cell? ⟨w.heap.size, 1, none⟩ = some (.int .i64 r) := cell_at hT0 rfl
 have qhT0_2 : w8.cell? ⟨w.heap.size, 2, none⟩ = some (.slice A n cap) := cell_at hT0 rfl
 have qhT1_0 : w8.cell? ⟨w.heap.size + 1, 0, none⟩ = some (.int .i64 un) := cell_at hT1 rfl
 have qhT1_1 : w8.cell? ⟨w.heap.size + 1, 1, none⟩ = some (.int .i64 len) := cell_at hT1 rfl
 have qhT1_2 : w8.cell? ⟨w.heap.size + 1, 2, none⟩ = some (.int .i64 most) := cell_at hT1 rfl
 have qhT1_3 : w8.cell? ⟨w.heap.size + 1, 3, none⟩ = some (.slice P np capp) := cell_at hT1 rfl
 go_wp2
 go_ret
 exact ⟨rfl, hB8⟩
end Go.Proofs.YtdimmlljjmmdbaaGreatDoor
