/- A part of the proofs about chapter 7 (image): contracts of functions and plain laws (V81). -/
import Derived.Test.YtdimmlljjmmdbaaGreatDoorB80
import Derived.Test.YtdimmlljjmmdbaaGreatDoorA10
set_option linter.all false
namespace Go.Proofs.YtdimmlljjmmdbaaGreatDoor
open Go.RowKit Go.Shelf
set_option maxHeartbeats 16000000
set_option maxRecDepth 100000

theorem l3 (c r : Int) (A : Option Addr) (n cap : Nat) (l : List Int) (un len most : Int) (P : Option Addr) (np capp : Nat) (ps : List Pr) (M : Option Addr) (mk cm : Nat) (ms : List Int) (w : World) (H : RdI w A n l) (HP : RdP w P np ps) (HM : RdI w M mk ms) (hst : Steps w) :
  Calls Tryz.prog 3 #[.agg #[.int .i64 c, .int .i64 r, .slice A n cap], .agg #[.int .i64 un, .int .i64 len, .int .i64 most, .slice P np capp], .slice M mk cm] w fun en w' => en = .returned (.bool true) ∧ Below w.heap.size w w' := by
 obtain ⟨w0, hW⟩ : ∃ W, W = (w.alloc (Obj.cells #[.int .i64 c, .int .i64 r, .slice A n cap] 24)).alloc (Obj.cells #[.int .i64 un, .int .i64 len, .int .i64 most, .slice P np capp] 27) := ⟨_, rfl⟩
 have hT0 : w0.heap[w.heap.size]? = some (.cells #[.int .i64 c, .int .i64 r, .slice A n cap] 24 (0, 0)) := by rw [hW]; exact heap_old (by simp <;> omega) (heap_new (by simp))
 have hT1 : w0.heap[w.heap.size + 1]? = some (.cells #[.int .i64 un, .int .i64 len, .int .i64 most, .slice P np capp] 27 (0, 0)) := by rw [hW]; exact heap_new (by simp)
 have hB0 : Below w.heap.size w w0 := by rw [hW]; exact (((Below.refl _ _).alloc (by first | omega | (simp <;> omega)) _).alloc (by first | omega | (simp <;> omega)) _)
 replace H := H.below hB0
 replace HP := HP.below hB0
 replace HM := HM.below hB0
 replace hst := hst.below hB0
 go_enter Tryz.func3, Tryz.ntmps3
 go_wp2_with fail
 rw [← hW]
 clear hW
 have qhT0_0 : w0.cell? ⟨w.heap.size, 0, none⟩ = some (.int .i64 c) := cell_at hT0 rfl
 have qhT0_1 : w0.cell? ⟨w.heap.size, 1, none⟩ = some (.int .i64 r) := cell_at hT0 rfl
 have qhT0_2 : w0.cell? ⟨w.heap.size, 2, none⟩ = some (.slice A n cap) := cell_at hT0 rfl
 have qhT1_0 : w0.cell? ⟨w.heap.size + 1, 0, none⟩ = some (.int .i64 un) := cell_at hT1 rfl
 have qhT1_1 : w0.cell? ⟨w.heap.size + 1, 1, none⟩ = some (.int .i64 len) := cell_at hT1 rfl
 have qhT1_2 : w0.cell? ⟨w.heap.size + 1, 2, none⟩ = some (.int .i64 most) := cell_at hT1 rfl
 have qhT1_3 : w0.cell? ⟨w.heap.size + 1, 3, none⟩ = some (.slice P np capp) := cell_at hT1 rfl
 go_wp2_with fail
 refine (c16 c r A n cap _).mono ?_
 rintro e w1 ⟨⟨b, rfl, hg1⟩, hb⟩
 clear qhT0_0 qhT0_1 qhT0_2 qhT1_0 qhT1_1 qhT1_2 qhT1_3
 have hS := hb
 have hB1 := hB0.call hS rfl
 replace hT0 := blkb hT0 hS
 replace hT1 := blkb hT1 hS
 replace H := H.below hS
 replace HP := HP.below hS
 replace HM := HM.below hS
 replace hst := hst.below hS
 clear hS hB0
 have qhT0_0 : w1.cell? ⟨w.heap.size, 0, none⟩ = some (.int .i64 c) := cell_at hT0 rfl
 have qhT0_1 : w1.cell? ⟨w.heap.size, 1, none⟩ = some (.int .i64 r) := cell_at hT0 rfl
 have qhT0_2 : w1.cell? ⟨w.heap.size, 2, none⟩ = some (.slice A n cap) := cell_at hT0 rfl
 have qhT1_0 : w1.cell? ⟨w.heap.size + 1, 0, none⟩ = some (.int .i64 un) := cell_at hT1 rfl
 have qhT1_1 : w1.cell? ⟨w.heap.size + 1, 1, none⟩ = some (.int .i64 len) := cell_at hT1 rfl
 have qhT1_2 : w1.cell? ⟨w.heap.size + 1, 2, none⟩ = some (.int .i64 most) := cell_at hT1 rfl
 have qhT1_3 : w1.cell? ⟨w.heap.size + 1, 3, none⟩ = some (.slice P np capp) := cell_at hT1 rfl
 clear hb
 have HG1 := Lib.hid hg1
 clear hg1
 cases b
 ·
   go_wp2_with fail
   refine (c18 _ hst).mono ?_
   rintro e wz ⟨rfl, hz⟩
   go_wp2
   go_ret
   exact ⟨rfl, hB1.call hz rfl⟩
 go_wp2_with fail
 refine (c17 un len most P np capp _).mono ?_
 rintro e w2 ⟨⟨b, rfl, hg2⟩, hb⟩
 clear qhT0_0 qhT0_1 qhT0_2 qhT1_0 qhT1_1 qhT1_2 qhT1_3
 have hS := hb
 have hB2 := hB1.call hS rfl
 replace hT0 := blkb hT0 hS
 replace hT1 := blkb hT1 hS
 replace H := H.below hS
 replace HP := HP.below hS
 replace HM := HM.below hS
 replace hst := hst.below hS
 clear hS hB1
 have qhT0_0 : w2.cell? ⟨w.heap.size, 0, none⟩ = some (.int .i64 c) := cell_at hT0 rfl
 have qhT0_1 : w2.cell? ⟨w.heap.size, 1, none⟩ = some (.int .i64 r) := cell_at hT0 rfl
 have qhT0_2 : w2.cell? ⟨w.heap.size, 2, none⟩ = some (.slice A n cap) := cell_at hT0 rfl
 have qhT1_0 : w2.cell? ⟨w.heap.size + 1, 0, none⟩ = some (.int .i64 un) := cell_at hT1 rfl
 have qhT1_1 : w2.cell? ⟨w.heap.size + 1, 1, none⟩ = some (.int .i64 len) := cell_at hT1 rfl
 have qhT1_2 : w2.cell? ⟨w.heap.size + 1, 2, none⟩ = some (.int .i64 most) := cell_at hT1 rfl
 have qhT1_3 : w2.cell? ⟨w.heap.size + 1, 3, none⟩ = some (.slice P np capp) := cell_at hT1 rfl
 clear hb
 have HG2 := Lib.hid hg2
 clear hg2
 cases b
 ·
   go_wp2_with fail
   refine (c18 _ hst).mono ?_
   rintro e wz ⟨rfl, hz⟩
   go_wp2
   go_ret
   exact ⟨rfl, hB2.call hz rfl⟩
 by_cases hm30 : mk ≤ 30
 rotate_left
 ·
   have hmd : decide ((30 : Int) < (mk : Int)) = true := by simp; omega
   have hmd2 : decide (30 < mk) = true := by simp; omega
   clear hm30
   go_wp2_with fail
   refine (c18 _ hst).mono ?_
   rintro e wz ⟨rfl, hz⟩
   go_wp2
   go_ret
   exact ⟨rfl, hB2.call hz rfl⟩
 have hmd : decide ((30 : Int) < (mk : Int)) = false := by simp; omega
 have hmd2 : decide (30 < mk) = false := by simp; omega
 have hn30 : n ≤ 30 := (by first | exact HG1.out rfl | exact HG1.out trivial)
 have hp17 : np ≤ 17 := (by first | exact HG2.out rfl | exact HG2.out trivial)
 have hl : n ≤ 1000000 := by omega
 have hp : np ≤ 1000000 := by omega
 have hm : mk ≤ 1000000 := by omega
 clear HG1 HG2
 obtain ⟨E, S, T, tN, D, dN, Ed, hT0, hD0, hE1, hE2, hE3, htN, hdN, k19, k23, k24, k25, k26, k27, k28, k29⟩ := mdl_calls c r n np mk l un len most ps ms H.len HP.len HM.len hn30 hp17 hm30
 have HT0 := Lib.hid hT0
 have HD0 := Lib.hid hD0
 have HE1 := Lib.hid hE1
 have HE2 := Lib.hid hE2
 have HE3 := Lib.hid hE3
 have HDN := Lib.hid hdN
 have K19 := Lib.hid k19
 have K23 := Lib.hid k23
 have K24 := Lib.hid k24
 have K25 := Lib.hid k25
 have K26 := Lib.hid k26
 have K27 := Lib.hid k27
 have K28 := Lib.hid k28
 have K29 := Lib.hid k29
 clear hT0 hD0 hE1 hE2 hE3 hdN k19 k23 k24 k25 k26 k27 k28 k29
 go_wp2_with fail
 refine wp_region_plan [(0, true), (2, true), (4, true), (1, false), (3, false), (5, false), (6, false), (7, true), (8, true), (9, true), (10, true), (11, true)] w2.heap.size (by kernel_rfl) (by kernel_rfl) (Nat.le_refl _) (fun _ _ d _ _ h => by cases d <;> exact h) ?_
 have hC : Below w2.heap.size w2 w2 := Below.refl _ _
 have zhT0 : w.heap.size < w2.heap.size := (Array.getElem?_eq_some_iff.1 hT0).1
 have zhT1 : w.heap.size + 1 < w2.heap.size := (Array.getElem?_eq_some_iff.1 hT1).1
 repeat (first | (refine wpPlanA_skip _ rfl (by rfl) ?_; simp only [Act.put, List.setIfInBounds_toArray, List.set_cons_zero, List.set_cons_succ]) | (refine wpPlanA_soft _ ?_ rfl (by rfl) ?_ ?_; rotate_left; (intro wq hq hcq; go_simp; first | exact rfl | exact ⟨rfl, rfl⟩); simp only [Act.put, List.setIfInBounds_toArray, List.set_cons_zero, List.set_cons_succ]))
 clear hmd hmd2 hm30
 refine wpPlanA_hard _ rfl (by rfl) (fun w3 hS K hK => ?_)
 go_simp
 refine (c20d c r A n cap l _ hl (H.below hS)).mono ?_
 rintro e w4 ⟨B1, cb1, rfl, hr1, hb⟩
 replace hS := hS.call hb rfl
 have hB4 := hB2.call hS rfl
 replace hC := hC.call hS rfl
 replace hT0 := blkb hT0 hS
 replace hT1 := blkb hT1 hS
 replace H := H.below hS
 replace HP := HP.below hS
 replace HM := HM.below hS
 replace hst := hst.below hS
 refine hK _ _ hC ?_
 clear hS hb hB2 hK K
 try simp only [Act.put, List.setIfInBounds_toArray, List.set_cons_zero, List.set_cons_succ]
 refine wpPlanA_hard _ rfl (by rfl) (fun w5 hS K hK => ?_)
 go_simp
 refine (c21d un len most P np capp ps _ hp (HP.below hS)).mono ?_
 rintro e w6 ⟨P2, pc2, rfl, ⟨hp2, hq2⟩, hb⟩
 replace hS := hS.call hb rfl
 have hB6 := hB4.call hS rfl
 replace hC := hC.call hS rfl
 replace hT0 := blkb hT0 hS
 replace hT1 := blkb hT1 hS
 replace H := H.below hS
 replace HP := HP.below hS
 replace HM := HM.below hS
 replace hst := hst.below hS
 replace hr1 := hr1.below hS
 refine hK _ _ hC ?_
 clear hS hb hB4 hK K
 try simp only [Act.put, List.setIfInBounds_toArray, List.set_cons_zero, List.set_cons_succ]
 refine wpPlanA_hard _ rfl (by rfl) (fun w7 hS K hK => ?_)
 go_simp
 refine (c22d M mk cm ms _ hm (HM.below hS)).mono ?_
 rintro e w8 ⟨D3, dc3, rfl, hd3, hb⟩
 replace hS := hS.call hb rfl
 have hB8 := hB6.call hS rfl
 replace hC := hC.call hS rfl
 replace hT0 := blkb hT0 hS
 replace hT1 := blkb hT1 hS
 replace H := H.below hS
 replace HP := HP.below hS
 replace HM := HM.below hS
 replace hst := hst.below hS
 replace hr1 := hr1.below hS
 replace hp2 := hp2.below hS
 refine hK _ _ hC ?_
 clear hS hb hB6 hK K
 try simp only [Act.put, List.setIfInBounds_toArray, List.set_cons_zero, List.set_cons_succ]
 refine wpPlanA_hard _ rfl (by rfl) (fun w9 hS K hK => ?_)
 go_simp
 refine (K19.out _ _ _ _ _ _ _ hq2 (hr1.below hS) (hp2.below hS) (hd3.below hS) (hst.below hS)).mono ?_
 rintro e w10 ⟨X1, xc1, rfl, hX1, hb⟩
 replace hS := hS.call hb rfl
 have hB10 := hB8.call hS rfl
 replace hC := hC.call hS rfl
 replace hT0 := blkb hT0 hS
 replace hT1 := blkb hT1 hS
 replace H := H.below hS
 replace HP := HP.below hS
 replace HM := HM.below hS
 replace hst := hst.below hS
 replace hr1 := hr1.below hS
 replace hp2 := hp2.below hS
 replace hd3 := hd3.below hS
 refine hK _ _ hC ?_
 clear hS hb hB8 hK K
 try simp only [Act.put, List.setIfInBounds_toArray, List.set_cons_zero, List.set_cons_succ]
 repeat (first | (refine wpPlanA_skip _ rfl (by rfl) ?_; simp only [Act.put, List.setIfInBounds_toArray, List.set_cons_zero, List.set_cons_succ]) | (refine wpPlanA_soft _ ?_ rfl (by rfl) ?_ ?_; rotate_left; (intro wq hq hcq; go_simp; first | exact rfl | exact ⟨rfl, rfl⟩); simp only [Act.put, List.setIfInBounds_toArray, List.set_cons_zero, List.set_cons_succ]))
 clear hr1
 clear hp2
 clear hd3
 clear qhT0_0 qhT0_1 qhT0_2 qhT1_0 qhT1_1 qhT1_2 qhT1_3
 refine wpPlanA_nil (fun w11 hS => ?_)
 clear hC zhT0 zhT1
 have hB11 := hB10.call hS rfl
 replace hT0 := blkb hT0 hS
 replace hT1 := blkb hT1 hS
 replace H := H.below hS
 replace HP := HP.below hS
 replace HM := HM.below hS
 replace hst := hst.below hS
 replace hX1 := hX1.below hS
 clear hS hB10
 have qhT0_0 : w11.cell? ⟨w.heap.size, 0, none⟩ = some (.int .i64 c) := cell_at hT0 rfl
 have qhT0_1 : w11.cell? ⟨w.heap.size, 1, none⟩ = some (.int .i64 r) := cell_at hT0 rfl
 have qhT0_2 : w11.cell? ⟨w.heap.size, 2, none⟩ = some (.slice A n cap) := cell_at hT0 rfl
 have qhT1_0 : w11.cell? ⟨w.heap.size + 1, 0, none⟩ = some (.int .i64 un) := cell_at hT1 rfl
 have qhT1_1 : w11.cell? ⟨w.heap.size + 1, 1, none⟩ = some (.int .i64 len) := cell_at hT1 rfl
 have qhT1_2 : w11.cell? ⟨w.heap.size + 1, 2, none⟩ = some (.int .i64 most) := cell_at hT1 rfl
 have qhT1_3 : w11.cell? ⟨w.heap.size + 1, 3, none⟩ = some (.slice P np capp) := cell_at hT1 rfl
 go_wp2_with fail
 refine (K23.out _ _ _ _ _ _ _ H HP HM).mono ?_
 rintro e w12 ⟨rfl, hb⟩
 clear qhT0_0 qhT0_1 qhT0_2 qhT1_0 qhT1_1 qhT1_2 qhT1_3
 have hS := hb
 have hB12 := hB11.call hS rfl
 replace hT0 := blkb hT0 hS
 replace hT1 := blkb hT1 hS
 replace H := H.below hS
 replace HP := HP.below hS
 replace HM := HM.below hS
 replace hst := hst.below hS
 replace hX1 := hX1.below hS
 clear hS hB11
 have qhT0_0 : w12.cell? ⟨w.heap.size, 0, none⟩ = some (.int .i64 c) := cell_at hT0 rfl
 have qhT0_1 : w12.cell? ⟨w.heap.size, 1, none⟩ = some (.int .i64 r) := cell_at hT0 rfl
 have qhT0_2 : w12.cell? ⟨w.heap.size, 2, none⟩ = some (.slice A n cap) := cell_at hT0 rfl
 have qhT1_0 : w12.cell? ⟨w.heap.size + 1, 0, none⟩ = some (.int .i64 un) := cell_at hT1 rfl
 have qhT1_1 : w12.cell? ⟨w.heap.size + 1, 1, none⟩ = some (.int .i64 len) := cell_at hT1 rfl
 have qhT1_2 : w12.cell? ⟨w.heap.size + 1, 2, none⟩ = some (.int .i64 most) := cell_at hT1 rfl
 have qhT1_3 : w12.cell? ⟨w.heap.size + 1, 3, none⟩ = some (.slice P np capp) := cell_at hT1 rfl
 clear hb
 by_cases hE : E = 0
 focus
   subst hE
   go_wp2_with fail
   refine (K24.out (by first | rfl | trivial) _ _ _ _ _ _ _ H HP HM).mono ?_
   rintro e w13 ⟨Y1, yc1, rfl, hY1, hb⟩
   clear qhT0_0 qhT0_1 qhT0_2 qhT1_0 qhT1_1 qhT1_2 qhT1_3
   have hS := hb
   have hB13 := hB12.call hS rfl
   replace hT0 := blkb hT0 hS
   replace hT1 := blkb hT1 hS
   replace H := H.below hS
   replace HP := HP.below hS
   replace HM := HM.below hS
   replace hst := hst.below hS
   replace hX1 := hX1.below hS
   clear hS hB12
   have qhT0_0 : w13.cell? ⟨w.heap.size, 0, none⟩ = some (.int .i64 c) := cell_at hT0 rfl
   have qhT0_1 : w13.cell? ⟨w.heap.size, 1, none⟩ = some (.int .i64 r) := cell_at hT0 rfl
   have qhT0_2 : w13.cell? ⟨w.heap.size, 2, none⟩ = some (.slice A n cap) := cell_at hT0 rfl
   have qhT1_0 : w13.cell? ⟨w.heap.size + 1, 0, none⟩ = some (.int .i64 un) := cell_at hT1 rfl
   have qhT1_1 : w13.cell? ⟨w.heap.size + 1, 1, none⟩ = some (.int .i64 len) := cell_at hT1 rfl
   have qhT1_2 : w13.cell? ⟨w.heap.size + 1, 2, none⟩ = some (.int .i64 most) := cell_at hT1 rfl
   have qhT1_3 : w13.cell? ⟨w.heap.size + 1, 3, none⟩ = some (.slice P np capp) := cell_at hT1 rfl
   clear hb
   go_wp2_with fail
   clear qhT0_0 qhT0_1 qhT0_2 qhT1_0 qhT1_1 qhT1_2 qhT1_3
   obtain ⟨wM, hwM⟩ : ∃ W, W = w13 := ⟨_, rfl⟩
   subst hwM
   have hBM := hB13
   clear hB13
 rotate_left
 focus
   have hef : (E == 0) = false := by simpa using hE
   obtain ⟨rfl, rfl⟩ := HT0.out hE
   clear hE
   go_wp2_with fail
   clear hef
   clear qhT0_0 qhT0_1 qhT0_2 qhT1_0 qhT1_1 qhT1_2 qhT1_3
   have hY1 := rdD_none w12
   obtain ⟨wM, hwM⟩ : ∃ W, W = w12 := ⟨_, rfl⟩
   subst hwM
   have hBM := hB12
   clear hB12
 rotate_left
 all_goals
  obtain ⟨w100, hww⟩ : ∃ W, W = wM := ⟨_, rfl⟩
  subst hww
  have hB100 := hBM
  clear hBM
  have qhT0_0 : w100.cell? ⟨w.heap.size, 0, none⟩ = some (.int .i64 c) := cell_at hT0 rfl
  have qhT0_1 : w100.cell? ⟨w.heap.size, 1, none⟩ = some (.int .i64 r) := cell_at hT0 rfl
  have qhT0_2 : w100.cell? ⟨w.heap.size, 2, none⟩ = some (.slice A n cap) := cell_at hT0 rfl
  have qhT1_0 : w100.cell? ⟨w.heap.size + 1, 0, none⟩ = some (.int .i64 un) := cell_at hT1 rfl
  have qhT1_1 : w100.cell? ⟨w.heap.size + 1, 1, none⟩ = some (.int .i64 len) := cell_at hT1 rfl
  have qhT1_2 : w100.cell? ⟨w.heap.size + 1, 2, none⟩ = some (.int .i64 most) := cell_at hT1 rfl
  have qhT1_3 : w100.cell? ⟨w.heap.size + 1, 3, none⟩ = some (.slice P np capp) := cell_at hT1 rfl
  refine wp_region_plan [(0, true), (2, true), (5, true), (6, true), (1, false), (3, false), (4, false), (7, false), (8, true), (9, true), (10, true), (11, true), (12, false), (13, true), (14, true), (15, true), (16, true), (17, true), (18, true), (19, true)] w100.heap.size (by kernel_rfl) (by kernel_rfl) (Nat.le_refl _) (fun _ _ d _ _ h => by cases d <;> exact h) ?_
  have hC : Below w100.heap.size w100 w100 := Below.refl _ _
  have zhT0 : w.heap.size < w100.heap.size := (Array.getElem?_eq_some_iff.1 hT0).1
  have zhT1 : w.heap.size + 1 < w100.heap.size := (Array.getElem?_eq_some_iff.1 hT1).1
  repeat (first | (refine wpPlanA_skip _ rfl (by rfl) ?_; simp only [Act.put, List.setIfInBounds_toArray, List.set_cons_zero, List.set_cons_succ]) | (refine wpPlanA_soft _ ?_ rfl (by rfl) ?_ ?_; rotate_left; (intro wq hq hcq; go_simp; first | exact rfl | exact ⟨rfl, rfl⟩); simp only [Act.put, List.setIfInBounds_toArray, List.set_cons_zero, List.set_cons_succ]))
  refine wpPlanA_hard _ rfl (by rfl) (fun w101 hS K hK => ?_)
  go_simp
  refine (c20d c r A n cap l _ hl (H.below hS)).mono ?_
  rintro e w102 ⟨B4, cb4, rfl, hr4, hb⟩
  replace hS := hS.call hb rfl
  have hB102 := hB100.call hS rfl
  replace hC := hC.call hS rfl
  replace hT0 := blkb hT0 hS
  replace hT1 := blkb hT1 hS
  replace H := H.below hS
  replace HP := HP.below hS
  replace HM := HM.below hS
  replace hst := hst.below hS
  replace hX1 := hX1.below hS
  replace hY1 := hY1.below hS
  refine hK _ _ hC ?_
  clear hS hb hB100 hK K
  try simp only [Act.put, List.setIfInBounds_toArray, List.set_cons_zero, List.set_cons_succ]
  refine wpPlanA_hard _ rfl (by rfl) (fun w103 hS K hK => ?_)
  go_simp
  refine (c21d un len most P np capp ps _ hp (HP.below hS)).mono ?_
  rintro e w104 ⟨P5, pc5, rfl, ⟨hp5, hq5⟩, hb⟩
  replace hS := hS.call hb rfl
  have hB104 := hB102.call hS rfl
  replace hC := hC.call hS rfl
  replace hT0 := blkb hT0 hS
  replace hT1 := blkb hT1 hS
  replace H := H.below hS
  replace HP := HP.below hS
  replace HM := HM.below hS
  replace hst := hst.below hS
  replace hX1 := hX1.below hS
  replace hY1 := hY1.below hS
  replace hr4 := hr4.below hS
  refine hK _ _ hC ?_
  clear hS hb hB102 hK K
  try simp only [Act.put, List.setIfInBounds_toArray, List.set_cons_zero, List.set_cons_succ]
  refine wpPlanA_hard _ rfl (by rfl) (fun w105 hS K hK => ?_)
  go_simp
  refine (K25.out _ _ _ _ _ (hr4.below hS) (hp5.below hS)).mono ?_
  rintro e w106 ⟨rfl, hb⟩
  replace hS := hS.call hb rfl
  have hB106 := hB104.call hS rfl
  replace hC := hC.call hS rfl
  replace hT0 := blkb hT0 hS
  replace hT1 := blkb hT1 hS
  replace H := H.below hS
  replace HP := HP.below hS
  replace HM := HM.below hS
  replace hst := hst.below hS
  replace hX1 := hX1.below hS
  replace hY1 := hY1.below hS
  replace hr4 := hr4.below hS
  replace hp5 := hp5.below hS
  refine hK _ _ hC ?_
  clear hS hb hB104 hK K
  try simp only [Act.put, List.setIfInBounds_toArray, List.set_cons_zero, List.set_cons_succ]
  repeat (first | (refine wpPlanA_skip _ rfl (by rfl) ?_; simp only [Act.put, List.setIfInBounds_toArray, List.set_cons_zero, List.set_cons_succ]) | (refine wpPlanA_soft _ ?_ rfl (by rfl) ?_ ?_; rotate_left; (intro wq hq hcq; go_simp; first | exact rfl | exact ⟨rfl, rfl⟩); simp only [Act.put, List.setIfInBounds_toArray, List.set_cons_zero, List.set_cons_succ]))
  refine wpPlanA_hard _ rfl (by rfl) (fun w107 hS K hK => ?_)
  go_simp
  refine (K26.out _ _ _ _ _ (H.below hS) (HP.below hS)).mono ?_
  rintro e w108 ⟨rfl, hb⟩
  replace hS := hS.call hb rfl
  have hB108 := hB106.call hS rfl
  replace hC := hC.call hS rfl
  replace hT0 := blkb hT0 hS
  replace hT1 := blkb hT1 hS
  replace H := H.below hS
  replace HP := HP.below hS
  replace HM := HM.below hS
  replace hst := hst.below hS
  replace hX1 := hX1.below hS
  replace hY1 := hY1.below hS
  replace hr4 := hr4.below hS
  replace hp5 := hp5.below hS
  refine hK _ _ hC ?_
  clear hS hb hB106 hK K
  try simp only [Act.put, List.setIfInBounds_toArray, List.set_cons_zero, List.set_cons_succ]
  repeat (first | (refine wpPlanA_skip _ rfl (by rfl) ?_; simp only [Act.put, List.setIfInBounds_toArray, List.set_cons_zero, List.set_cons_succ]) | (refine wpPlanA_soft _ ?_ rfl (by rfl) ?_ ?_; rotate_left; (intro wq hq hcq; go_simp; first | exact rfl | exact ⟨rfl, rfl⟩); simp only [Act.put, List.setIfInBounds_toArray, List.set_cons_zero, List.set_cons_succ]))
  refine wpPlanA_hard _ rfl (by rfl) (fun w109 hS K hK => ?_)
  go_simp
  refine (K27.out _ _ _ _ _ (hX1.below hS) (hY1.below hS)).mono ?_
  rintro e w110 ⟨rfl, hb⟩
  replace hS := hS.call hb rfl
  have hB110 := hB108.call hS rfl
  replace hC := hC.call hS rfl
  replace hT0 := blkb hT0 hS
  replace hT1 := blkb hT1 hS
  replace H := H.below hS
  replace HP := HP.below hS
  replace HM := HM.below hS
  replace hst := hst.below hS
  replace hX1 := hX1.below hS
  replace hY1 := hY1.below hS
  replace hr4 := hr4.below hS
  replace hp5 := hp5.below hS
  refine hK _ _ hC ?_
  clear hS hb hB108 hK K
  try simp only [Act.put, List.setIfInBounds_toArray, List.set_cons_zero, List.set_cons_succ]
  repeat (first | (refine wpPlanA_skip _ rfl (by rfl) ?_; simp only [Act.put, List.setIfInBounds_toArray, List.set_cons_zero, List.set_cons_succ]) | (refine wpPlanA_soft _ ?_ rfl (by rfl) ?_ ?_; rotate_left; (intro wq hq hcq; go_simp; first | exact rfl | exact ⟨rfl, rfl⟩); simp only [Act.put, List.setIfInBounds_toArray, List.set_cons_zero, List.set_cons_succ]))
  clear hr4
  clear hp5
  clear hX1
  clear hY1
  clear qhT0_0 qhT0_1 qhT0_2 qhT1_0 qhT1_1 qhT1_2 qhT1_3
  refine wpPlanA_nil (fun w111 hS => ?_)
  clear hC zhT0 zhT1
  have hB111 := hB110.call hS rfl
  replace hT0 := blkb hT0 hS
  replace hT1 := blkb hT1 hS
  replace H := H.below hS
  replace HP := HP.below hS
  replace HM := HM.below hS
  replace hst := hst.below hS
  clear hS hB110
  have qhT0_0 : w111.cell? ⟨w.heap.size, 0, none⟩ = some (.int .i64 c) := cell_at hT0 rfl
  have qhT0_1 : w111.cell? ⟨w.heap.size, 1, none⟩ = some (.int .i64 r) := cell_at hT0 rfl
  have qhT0_2 : w111.cell? ⟨w.heap.size, 2, none⟩ = some (.slice A n cap) := cell_at hT0 rfl
  have qhT1_0 : w111.cell? ⟨w.heap.size + 1, 0, none⟩ = some (.int .i64 un) := cell_at hT1 rfl
  have qhT1_1 : w111.cell? ⟨w.heap.size + 1, 1, none⟩ = some (.int .i64 len) := cell_at hT1 rfl
  have qhT1_2 : w111.cell? ⟨w.heap.size + 1, 2, none⟩ = some (.int .i64 most) := cell_at hT1 rfl
  have qhT1_3 : w111.cell? ⟨w.heap.size + 1, 3, none⟩ = some (.slice P np capp) := cell_at hT1 rfl
  obtain ⟨m4, hm4⟩ : ∃ m, m = min (np : Int) 4 := ⟨_, rfl⟩
  have hmin : min (np : Int) 4 = m4 := hm4.symm
  have hm4a : m4 ≤ 4 := by omega
  have hm4b : 0 ≤ m4 := by omega
  clear hm4
  go_wp2_with fail
  go_loopw [11] (fun i wr => ∃ z : Int, -1 ≤ z ∧ z ≤ m4 + 1 ∧ i = .int .i64 z ∧ Below w111.heap.size w111 wr) (fun i _ => (5 - intOf i).toNat)
  case atStart => exact ⟨-1, by omega, by omega, rfl, Below.refl _ _⟩
  case round =>
   obtain ⟨z, hz1, hz2, rfl, hbr⟩ := hrel
   obtain ⟨w112, hww⟩ : ∃ W, W = wr := ⟨_, rfl⟩
   subst hww
   have hB112 := hB111.call hbr rfl
   replace hT0 := blkb hT0 hbr
   replace hT1 := blkb hT1 hbr
   replace H := H.below hbr
   replace HP := HP.below hbr
   replace HM := HM.below hbr
   replace hst := hst.below hbr
   clear hB111
   have qhT0_0 : w112.cell? ⟨w.heap.size, 0, none⟩ = some (.int .i64 c) := cell_at hT0 rfl
   have qhT0_1 : w112.cell? ⟨w.heap.size, 1, none⟩ = some (.int .i64 r) := cell_at hT0 rfl
   have qhT0_2 : w112.cell? ⟨w.heap.size, 2, none⟩ = some (.slice A n cap) := cell_at hT0 rfl
   have qhT1_0 : w112.cell? ⟨w.heap.size + 1, 0, none⟩ = some (.int .i64 un) := cell_at hT1 rfl
   have qhT1_1 : w112.cell? ⟨w.heap.size + 1, 1, none⟩ = some (.int .i64 len) := cell_at hT1 rfl
   have qhT1_2 : w112.cell? ⟨w.heap.size + 1, 2, none⟩ = some (.int .i64 most) := cell_at hT1 rfl
   have qhT1_3 : w112.cell? ⟨w.heap.size + 1, 3, none⟩ = some (.slice P np capp) := cell_at hT1 rfl
   have hwz : IntKind.i64.wrap (z + 1) = z + 1 := wrapI (by omega)
   by_cases hzm : z ≤ m4
   rotate_left
   ·
     have hzd : decide (z ≤ m4) = false := by simpa using hzm
     clear hzm
     go_wp2_with fail
     refine (c18 _ hst).mono ?_
     rintro e wz ⟨rfl, hz⟩
     go_wp2
     go_ret
     exact ⟨rfl, hB112.call hz rfl⟩
   have hzd : decide (z ≤ m4) = true := by simpa using hzm
   have K28z := Lib.hid (K28.out z)
   have K29z := Lib.hid (K29.out z)
   have hD0z := HD0.out z
   have hE1z := HE1.out z
   have hE2z := HE2.out z
   have hE3z := HE3.out z
   have hdnz := HDN.out z
   generalize dN z = dn at K28z K29z hD0z hdnz
   generalize D z = dl at K28z K29z hD0z
   generalize Ed z = ed at K28z K29z hD0z hE1z hE2z hE3z
   have HD0z := Lib.hid hD0z
   have HE1z := Lib.hid hE1z
   have HE2z := Lib.hid hE2z
   have HE3z := Lib.hid hE3z
   clear hD0z hE1z hE2z hE3z
   go_wp2_with fail
   refine wp_region_plan [(0, true), (2, true), (4, true), (1, false), (3, false), (5, false), (6, true), (7, true), (8, true), (9, true), (10, true)] w112.heap.size (by kernel_rfl) (by kernel_rfl) (Nat.le_refl _) (fun _ _ d _ _ h => by cases d <;> exact h) ?_
   have hC : Below w112.heap.size w112 w112 := Below.refl _ _
   have zhT0 : w.heap.size < w112.heap.size := (Array.getElem?_eq_some_iff.1 hT0).1
   have zhT1 : w.heap.size + 1 < w112.heap.size := (Array.getElem?_eq_some_iff.1 hT1).1
   repeat (first | (refine wpPlanA_skip _ rfl (by rfl) ?_; simp only [Act.put, List.setIfInBounds_toArray, List.set_cons_zero, List.set_cons_succ]) | (refine wpPlanA_soft _ ?_ rfl (by rfl) ?_ ?_; rotate_left; (intro wq hq hcq; go_simp; first | exact rfl | exact ⟨rfl, rfl⟩); simp only [Act.put, List.setIfInBounds_toArray, List.set_cons_zero, List.set_cons_succ]))
   refine wpPlanA_hard _ rfl (by rfl) (fun w113 hS K hK => ?_)
   go_simp
   refine (c20d c r A n cap l _ hl (H.below hS)).mono ?_
   rintro e w114 ⟨B6, cb6, rfl, hr6, hb⟩
   replace hS := hS.call hb rfl
   have hB114 := hB112.call hS rfl
   replace hC := hC.call hS rfl
   replace hT0 := blkb hT0 hS
   replace hT1 := blkb hT1 hS
   replace H := H.below hS
   replace HP := HP.below hS
   replace HM := HM.below hS
   replace hst := hst.below hS
   replace hbr := hbr.call hS rfl
   refine hK _ _ hC ?_
   clear hS hb hB112 hK K
   try simp only [Act.put, List.setIfInBounds_toArray, List.set_cons_zero, List.set_cons_succ]
   refine wpPlanA_hard _ rfl (by rfl) (fun w115 hS K hK => ?_)
   go_simp
   refine (c21d un len most P np capp ps _ hp (HP.below hS)).mono ?_
   rintro e w116 ⟨P7, pc7, rfl, ⟨hp7, hq7⟩, hb⟩
   replace hS := hS.call hb rfl
   have hB116 := hB114.call hS rfl
   replace hC := hC.call hS rfl
   replace hT0 := blkb hT0 hS
   replace hT1 := blkb hT1 hS
   replace H := H.below hS
   replace HP := HP.below hS
   replace HM := HM.below hS
   replace hst := hst.below hS
   replace hbr := hbr.call hS rfl
   replace hr6 := hr6.below hS
   refine hK _ _ hC ?_
   clear hS hb hB114 hK K
   try simp only [Act.put, List.setIfInBounds_toArray, List.set_cons_zero, List.set_cons_succ]
   refine wpPlanA_hard _ rfl (by rfl) (fun w117 hS K hK => ?_)
   go_simp
   refine (K28z.out _ _ _ _ _ (hr6.below hS) (hp7.below hS) (hst.below hS)).mono ?_
   rintro e w118 ⟨F1, fc1, rfl, hF, hb⟩
   replace hS := hS.call hb rfl
   have hB118 := hB116.call hS rfl
   replace hC := hC.call hS rfl
   replace hT0 := blkb hT0 hS
   replace hT1 := blkb hT1 hS
   replace H := H.below hS
   replace HP := HP.below hS
   replace HM := HM.below hS
   replace hst := hst.below hS
   replace hbr := hbr.call hS rfl
   replace hr6 := hr6.below hS
   replace hp7 := hp7.below hS
   refine hK _ _ hC ?_
   clear hS hb hB116 hK K
   try simp only [Act.put, List.setIfInBounds_toArray, List.set_cons_zero, List.set_cons_succ]
   repeat (first | (refine wpPlanA_skip _ rfl (by rfl) ?_; simp only [Act.put, List.setIfInBounds_toArray, List.set_cons_zero, List.set_cons_succ]) | (refine wpPlanA_soft _ ?_ rfl (by rfl) ?_ ?_; rotate_left; (intro wq hq hcq; go_simp; first | exact rfl | exact ⟨rfl, rfl⟩); simp only [Act.put, List.setIfInBounds_toArray, List.set_cons_zero, List.set_cons_succ]))
   clear hr6
   clear hp7
   clear qhT0_0 qhT0_1 qhT0_2 qhT1_0 qhT1_1 qhT1_2 qhT1_3
   refine wpPlanA_nil (fun w119 hS => ?_)
   clear hC zhT0 zhT1
   have hB119 := hB118.call hS rfl
   replace hT0 := blkb hT0 hS
   replace hT1 := blkb hT1 hS
   replace H := H.below hS
   replace HP := HP.below hS
   replace HM := HM.below hS
   replace hst := hst.below hS
   replace hbr := hbr.call hS rfl
   replace hF := hF.below hS
   clear hS hB118
   have qhT0_0 : w119.cell? ⟨w.heap.size, 0, none⟩ = some (.int .i64 c) := cell_at hT0 rfl
   have qhT0_1 : w119.cell? ⟨w.heap.size, 1, none⟩ = some (.int .i64 r) := cell_at hT0 rfl
   have qhT0_2 : w119.cell? ⟨w.heap.size, 2, none⟩ = some (.slice A n cap) := cell_at hT0 rfl
   have qhT1_0 : w119.cell? ⟨w.heap.size + 1, 0, none⟩ = some (.int .i64 un) := cell_at hT1 rfl
   have qhT1_1 : w119.cell? ⟨w.heap.size + 1, 1, none⟩ = some (.int .i64 len) := cell_at hT1 rfl
   have qhT1_2 : w119.cell? ⟨w.heap.size + 1, 2, none⟩ = some (.int .i64 most) := cell_at hT1 rfl
   have qhT1_3 : w119.cell? ⟨w.heap.size + 1, 3, none⟩ = some (.slice P np capp) := cell_at hT1 rfl
   go_wp2_with fail
   refine (K26.out _ _ _ _ _ H HP).mono ?_
   rintro e w120 ⟨rfl, hb⟩
   clear qhT0_0 qhT0_1 qhT0_2 qhT1_0 qhT1_1 qhT1_2 qhT1_3
   have hS := hb
   have hB120 := hB119.call hS rfl
   replace hT0 := blkb hT0 hS
   replace hT1 := blkb hT1 hS
   replace H := H.below hS
   replace HP := HP.below hS
   replace HM := HM.below hS
   replace hst := hst.below hS
   replace hbr := hbr.call hS rfl
   replace hF := hF.below hS
   clear hS hB119
   have qhT0_0 : w120.cell? ⟨w.heap.size, 0, none⟩ = some (.int .i64 c) := cell_at hT0 rfl
   have qhT0_1 : w120.cell? ⟨w.heap.size, 1, none⟩ = some (.int .i64 r) := cell_at hT0 rfl
   have qhT0_2 : w120.cell? ⟨w.heap.size, 2, none⟩ = some (.slice A n cap) := cell_at hT0 rfl
   have qhT1_0 : w120.cell? ⟨w.heap.size + 1, 0, none⟩ = some (.int .i64 un) := cell_at hT1 rfl
   have qhT1_1 : w120.cell? ⟨w.heap.size + 1, 1, none⟩ = some (.int .i64 len) := cell_at hT1 rfl
   have qhT1_2 : w120.cell? ⟨w.heap.size + 1, 2, none⟩ = some (.int .i64 most) := cell_at hT1 rfl
   have qhT1_3 : w120.cell? ⟨w.heap.size + 1, 3, none⟩ = some (.slice P np capp) := cell_at hT1 rfl
   clear hb
   by_cases hS : S = 0
   rotate_left
   ·
     have hsf : (S == 0) = false := by simpa using hS
     obtain rfl : ed = S := HE1z.out hS
     obtain ⟨rfl, rfl⟩ := HD0z.out hS
     clear hS
     go_wp2_with fail
     refine (c30q (Nat.zero_le _) hF (rd_none _)).mono ?_
     rintro e w121 ⟨rfl, hb⟩
     clear qhT0_0 qhT0_1 qhT0_2 qhT1_0 qhT1_1 qhT1_2 qhT1_3
     have hS := hb
     have hB121 := hB120.call hS rfl
     replace hT0 := blkb hT0 hS
     replace hT1 := blkb hT1 hS
     replace H := H.below hS
     replace HP := HP.below hS
     replace HM := HM.below hS
     replace hst := hst.below hS
     replace hbr := hbr.call hS rfl
     replace hF := hF.below hS
     clear hS hB120
     have qhT0_0 : w121.cell? ⟨w.heap.size, 0, none⟩ = some (.int .i64 c) := cell_at hT0 rfl
     have qhT0_1 : w121.cell? ⟨w.heap.size, 1, none⟩ = some (.int .i64 r) := cell_at hT0 rfl
     have qhT0_2 : w121.cell? ⟨w.heap.size, 2, none⟩ = some (.slice A n cap) := cell_at hT0 rfl
     have qhT1_0 : w121.cell? ⟨w.heap.size + 1, 0, none⟩ = some (.int .i64 un) := cell_at hT1 rfl
     have qhT1_1 : w121.cell? ⟨w.heap.size + 1, 1, none⟩ = some (.int .i64 len) := cell_at hT1 rfl
     have qhT1_2 : w121.cell? ⟨w.heap.size + 1, 2, none⟩ = some (.int .i64 most) := cell_at hT1 rfl
     have qhT1_3 : w121.cell? ⟨w.heap.size + 1, 3, none⟩ = some (.slice P np capp) := cell_at hT1 rfl
     clear hb
     have HBN := Lib.hid hbr
     clear hbr
     go_wp2
     go_roundw
     case rel => exact ⟨z + 1, by omega, by omega, by go_num, HBN.out⟩
     case measure => simp [intOf]; omega
   subst hS
   by_cases hz0 : z < 0
   ·
     have hd1 : decide (z < 0) = true := by simpa using hz0
     obtain rfl : ed = 10 := HE2z.out rfl (.inl hz0)
     obtain ⟨rfl, rfl⟩ := HD0z.out (by decide)
     clear hz0
     go_wp2_with fail
     refine (c30q (Nat.zero_le _) hF (rd_none _)).mono ?_
     rintro e w121 ⟨rfl, hb⟩
     clear qhT0_0 qhT0_1 qhT0_2 qhT1_0 qhT1_1 qhT1_2 qhT1_3
     have hS := hb
     have hB121 := hB120.call hS rfl
     replace hT0 := blkb hT0 hS
     replace hT1 := blkb hT1 hS
     replace H := H.below hS
     replace HP := HP.below hS
     replace HM := HM.below hS
     replace hst := hst.below hS
     replace hbr := hbr.call hS rfl
     replace hF := hF.below hS
     clear hS hB120
     have qhT0_0 : w121.cell? ⟨w.heap.size, 0, none⟩ = some (.int .i64 c) := cell_at hT0 rfl
     have qhT0_1 : w121.cell? ⟨w.heap.size, 1, none⟩ = some (.int .i64 r) := cell_at hT0 rfl
     have qhT0_2 : w121.cell? ⟨w.heap.size, 2, none⟩ = some (.slice A n cap) := cell_at hT0 rfl
     have qhT1_0 : w121.cell? ⟨w.heap.size + 1, 0, none⟩ = some (.int .i64 un) := cell_at hT1 rfl
     have qhT1_1 : w121.cell? ⟨w.heap.size + 1, 1, none⟩ = some (.int .i64 len) := cell_at hT1 rfl
     have qhT1_2 : w121.cell? ⟨w.heap.size + 1, 2, none⟩ = some (.int .i64 most) := cell_at hT1 rfl
     have qhT1_3 : w121.cell? ⟨w.heap.size + 1, 3, none⟩ = some (.slice P np capp) := cell_at hT1 rfl
     clear hb
     have HBN := Lib.hid hbr
     clear hbr
     go_wp2
     go_roundw
     case rel => exact ⟨z + 1, by omega, by omega, by go_num, HBN.out⟩
     case measure => simp [intOf]; omega
   by_cases hzn : (np : Int) ≤ z
   ·
     have hd1 : decide (z < 0) = false := by simpa using hz0
     have hd2 : decide ((np : Int) ≤ z) = true := by simpa using hzn
     obtain rfl : ed = 10 := HE2z.out rfl (.inr hzn)
     obtain ⟨rfl, rfl⟩ := HD0z.out (by decide)
     clear hz0 hzn
     go_wp2_with fail
     refine (c30q (Nat.zero_le _) hF (rd_none _)).mono ?_
     rintro e w121 ⟨rfl, hb⟩
     clear qhT0_0 qhT0_1 qhT0_2 qhT1_0 qhT1_1 qhT1_2 qhT1_3
     have hS := hb
     have hB121 := hB120.call hS rfl
     replace hT0 := blkb hT0 hS
     replace hT1 := blkb hT1 hS
     replace H := H.below hS
     replace HP := HP.below hS
     replace HM := HM.below hS
     replace hst := hst.below hS
     replace hbr := hbr.call hS rfl
     replace hF := hF.below hS
     clear hS hB120
     have qhT0_0 : w121.cell? ⟨w.heap.size, 0, none⟩ = some (.int .i64 c) := cell_at hT0 rfl
     have qhT0_1 : w121.cell? ⟨w.heap.size, 1, none⟩ = some (.int .i64 r) := cell_at hT0 rfl
     have qhT0_2 : w121.cell? ⟨w.heap.size, 2, none⟩ = some (.slice A n cap) := cell_at hT0 rfl
     have qhT1_0 : w121.cell? ⟨w.heap.size + 1, 0, none⟩ = some (.int .i64 un) := cell_at hT1 rfl
     have qhT1_1 : w121.cell? ⟨w.heap.size + 1, 1, none⟩ = some (.int .i64 len) := cell_at hT1 rfl
     have qhT1_2 : w121.cell? ⟨w.heap.size + 1, 2, none⟩ = some (.int .i64 most) := cell_at hT1 rfl
     have qhT1_3 : w121.cell? ⟨w.heap.size + 1, 3, none⟩ = some (.slice P np capp) := cell_at hT1 rfl
     clear hb
     have HBN := Lib.hid hbr
     clear hbr
     go_wp2
     go_roundw
     case rel => exact ⟨z + 1, by omega, by omega, by go_num, HBN.out⟩
     case measure => simp [intOf]; omega
   have hd1 : decide (z < 0) = false := by simpa using hz0
   have hd2 : decide ((np : Int) ≤ z) = false := by simpa using hzn
   obtain rfl : ed = 0 := HE3z.out rfl (by omega) (by omega)
   clear hz0 hzn
   go_wp2_with fail
   refine (K29z.out (by first | rfl | trivial) _ _ _ _ _ H HP).mono ?_
   rintro e w121 ⟨Y2, yc2, rfl, hY2, hb⟩
   clear qhT0_0 qhT0_1 qhT0_2 qhT1_0 qhT1_1 qhT1_2 qhT1_3
   have hS := hb
   have hB121 := hB120.call hS rfl
   replace hT0 := blkb hT0 hS
   replace hT1 := blkb hT1 hS
   replace H := H.below hS
   replace HP := HP.below hS
   replace HM := HM.below hS
   replace hst := hst.below hS
   replace hbr := hbr.call hS rfl
   replace hF := hF.below hS
   clear hS hB120
   have qhT0_0 : w121.cell? ⟨w.heap.size, 0, none⟩ = some (.int .i64 c) := cell_at hT0 rfl
   have qhT0_1 : w121.cell? ⟨w.heap.size, 1, none⟩ = some (.int .i64 r) := cell_at hT0 rfl
   have qhT0_2 : w121.cell? ⟨w.heap.size, 2, none⟩ = some (.slice A n cap) := cell_at hT0 rfl
   have qhT1_0 : w121.cell? ⟨w.heap.size + 1, 0, none⟩ = some (.int .i64 un) := cell_at hT1 rfl
   have qhT1_1 : w121.cell? ⟨w.heap.size + 1, 1, none⟩ = some (.int .i64 len) := cell_at hT1 rfl
   have qhT1_2 : w121.cell? ⟨w.heap.size + 1, 2, none⟩ = some (.int .i64 most) := cell_at hT1 rfl
   have qhT1_3 : w121.cell? ⟨w.heap.size + 1, 3, none⟩ = some (.slice P np capp) := cell_at hT1 rfl
   clear hb
   go_wp2_with fail
   refine (c30q hdnz hF hY2).mono ?_
   rintro e w122 ⟨rfl, hb⟩
   clear qhT0_0 qhT0_1 qhT0_2 qhT1_0 qhT1_1 qhT1_2 qhT1_3
   have hS := hb
   have hB122 := hB121.call hS rfl
   replace hT0 := blkb hT0 hS
   replace hT1 := blkb hT1 hS
   replace H := H.below hS
   replace HP := HP.below hS
   replace HM := HM.below hS
   replace hst := hst.below hS
   replace hbr := hbr.call hS rfl
   replace hF := hF.below hS
   replace hY2 := hY2.below hS
   clear hS hB121
   have qhT0_0 : w122.cell? ⟨w.heap.size, 0, none⟩ = some (.int .i64 c) := cell_at hT0 rfl
   have qhT0_1 : w122.cell? ⟨w.heap.size, 1, none⟩ = some (.int .i64 r) := cell_at hT0 rfl
   have qhT0_2 : w122.cell? ⟨w.heap.size, 2, none⟩ = some (.slice A n cap) := cell_at hT0 rfl
   have qhT1_0 : w122.cell? ⟨w.heap.size + 1, 0, none⟩ = some (.int .i64 un) := cell_at hT1 rfl
   have qhT1_1 : w122.cell? ⟨w.heap.size + 1, 1, none⟩ = some (.int .i64 len) := cell_at hT1 rfl
   have qhT1_2 : w122.cell? ⟨w.heap.size + 1, 2, none⟩ = some (.int .i64 most) := cell_at hT1 rfl
   have qhT1_3 : w122.cell? ⟨w.heap.size + 1, 3, none⟩ = some (.slice P np capp) := cell_at hT1 rfl
   clear hb
   have HBN := Lib.hid hbr
   clear hbr
   go_wp2
   go_roundw
   case rel => exact ⟨z + 1, by omega, by omega, by go_num, HBN.out⟩
   case measure => simp [intOf]; omega

end Go.Proofs.YtdimmlljjmmdbaaGreatDoor
