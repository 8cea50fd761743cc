/- A part of the proofs about chapter 7 (image): contracts of functions and plain laws (V108). -/
import Derived.Test.YtdimmlljjmmdbaaGreatDoorZ15k
set_option linter.all false
namespace Go.Proofs.YtdimmlljjmmdbaaGreatDoor
open Go.RowKit Go.Shelf
set_option maxHeartbeats 16000000
set_option maxRecDepth 100000
theorem l15 (c r : Int) (A : Option Addr) (n cap : Nat) (l : List Int) (s : ByteArray) (m : Int) (w : World) (H : RdI w A n l) (hst : Steps w) (hm : MaxL m w) (hpw : Pow w) :
  Calls Tryz.prog 15 #[.agg #[.int .i64 c, .int .i64 r, .slice A n cap], .string s] w fun en w' => en = .returned (.bool true) ∧ Below w.heap.size w w' := by
 obtain ⟨w0, hW⟩ : ∃ W, W = w.alloc (Obj.cells #[.int .i64 c, .int .i64 r, .slice A n cap] 24) := ⟨_, rfl⟩
 have hT0 : w0.heap[w.heap.size]? = some (.cells #[.int .i64 c, .int .i64 r, .slice A n cap] 24 (0, 0)) := by rw [hW]; exact heap_new (by simp)
 have hB0 : Below w.heap.size w w0 := by rw [hW]; exact ((Below.refl _ _).alloc (by first | omega | (simp <;> omega)) _)
 replace H := H.below hB0
 replace hst := hst.below hB0
 replace hm := hm.below hB0
 replace hpw := hpw.below hB0
 go_enter Tryz.func15, Tryz.ntmps15
 go_wp2_with fail
 rw [← hW]
 clear hW
 have qhT0_0 : w0.cell? ⟨w.heap.size, 0, none⟩ = some (.int .i64 c) := cell_at hT0 rfl
 have qhT0_1 : w0.cell? ⟨w.heap.size, 1, none⟩ = some (.int .i64 r) := cell_at hT0 rfl
 have qhT0_2 : w0.cell? ⟨w.heap.size, 2, none⟩ = some (.slice A n cap) := cell_at hT0 rfl
 go_wp2_with fail
 refine (c16 c r A n cap _).mono ?_
 rintro e w1 ⟨⟨b, rfl, hg1⟩, hb⟩
 clear qhT0_0 qhT0_1 qhT0_2
 have hS := hb
 have hB1 := hB0.call hS rfl
 replace hT0 := blkb hT0 hS
 replace H := H.below hS
 replace hst := hst.below hS
 replace hm := hm.below hS
 replace hpw := hpw.below hS
 clear hS hB0
 have qhT0_0 : w1.cell? ⟨w.heap.size, 0, none⟩ = some (.int .i64 c) := cell_at hT0 rfl
 have qhT0_1 : w1.cell? ⟨w.heap.size, 1, none⟩ = some (.int .i64 r) := cell_at hT0 rfl
 have qhT0_2 : w1.cell? ⟨w.heap.size, 2, none⟩ = some (.slice A n cap) := cell_at hT0 rfl
 clear hb
 have HG1 := Lib.hid hg1
 clear hg1
 cases b
 ·
   go_wp2_with fail
   refine (c18 _ hst).mono ?_
   rintro e wz ⟨rfl, hz⟩
   go_wp2
   go_ret
   exact ⟨rfl, hB1.call hz rfl⟩
 have hn30 : n ≤ 30 := (by first | exact HG1.out rfl | exact HG1.out trivial)
 have hln := H.len
 clear HG1
 go_wp2_with fail
 refine (c65 c r A n cap l _ (by omega) H).mono ?_
 rintro e w2 ⟨rfl, hb⟩
 clear qhT0_0 qhT0_1 qhT0_2
 have hS := hb
 have hB2 := hB1.call hS rfl
 replace hT0 := blkb hT0 hS
 replace H := H.below hS
 replace hst := hst.below hS
 replace hm := hm.below hS
 replace hpw := hpw.below hS
 clear hS hB1
 have qhT0_0 : w2.cell? ⟨w.heap.size, 0, none⟩ = some (.int .i64 c) := cell_at hT0 rfl
 have qhT0_1 : w2.cell? ⟨w.heap.size, 1, none⟩ = some (.int .i64 r) := cell_at hT0 rfl
 have qhT0_2 : w2.cell? ⟨w.heap.size, 2, none⟩ = some (.slice A n cap) := cell_at hT0 rfl
 clear hb
 by_cases hE : Mo.ground c r l = 0
 rotate_left
 ·
   have hEb : (Mo.ground c r l != 0) = true := by simpa using hE
   clear hE
   go_wp2_with fail
   refine (c18 _ hst).mono ?_
   rintro e wz ⟨rfl, hz⟩
   go_wp2
   go_ret
   exact ⟨rfl, hB2.call hz rfl⟩
 obtain ⟨c, r, rfl, rfl, hc, hr, g⟩ := Mo.ground_ok hE
 rw [hE]
 clear hE
 obtain ⟨T, U, N, pc, pr, pn, pl, pi, pe, hpn, hTN, hN, hU, k81, k82, k85, k82s, k81s, k82u⟩ := back_calls c r n l s m g hc hr hln
 have K81 := Lib.hid k81
 have K82 := Lib.hid k82
 have K85 := Lib.hid k85
 have K82s := Lib.hid k82s
 have K81s := Lib.hid k81s
 have K82u := Lib.hid k82u
 have K20 : Hid (∀ A cap W, RdI W A n l → Calls Tryz.prog 20 #[.agg #[.int .i64 c, .int .i64 r, .slice A n cap]] W fun en w' => ∃ B cb, en = .returned (.agg #[.int .i64 c, .int .i64 r, .slice B n cb]) ∧ RdI w' B n l ∧ n ≤ cb ∧ Below W.heap.size W w') := Lib.hid (fun A cap W h => c20p c r A n cap l W (by omega) h)
 have K71 : Hid (∀ A cap W, RdI W A n l → Calls Tryz.prog 71 #[.agg #[.int .i64 c, .int .i64 r, .slice A n cap]] W fun en w' => ∃ B cb, en = .returned (.agg #[.int .i64 c, .int .i64 r, .slice B n cb]) ∧ RdI w' B n l ∧ Below W.heap.size W w') := Lib.hid (fun A cap W h => c71p c r A n cap l W (by omega) h)
 have K70 : Hid (∀ A B cap cap2 W, RdI W A n l → RdI W B n l → Calls Tryz.prog 70 #[.agg #[.int .i64 c, .int .i64 r, .slice A n cap], .agg #[.int .i64 c, .int .i64 r, .slice B n cap2]] W fun en w' => en = .returned (.bool true) ∧ Below W.heap.size W w') := Lib.hid (fun A B cap cap2 W h1 h2 => c70_eq c r A B n cap cap2 l W (by omega) h1 h2)
 have hw1 : IntKind.i64.wrap ((r : Int) + 2) = (r : Int) + 2 := by rw [wrapI (by omega)]
 have hw2 : IntKind.i64.wrap ((T.size : Int) - 1) = (N : Int) := by rw [wrapI (by omega)]; omega
 have hr2 : ((r + 2 : Nat) : Int) = (r : Int) + 2 := by simp
 have hNT : N ≤ T.size := by omega
 have HU := Lib.hid hU
 clear k81 k82 k85 k82s k81s k82u hn30 hln hpn g hc hr hTN hN hU
 by_cases h1 : s.size ≤ 300
 rotate_left
 ·
   have hd1 : decide ((300 : Int) < (s.size : Int)) = true := by simp; omega
   have hd2 : decide (300 < s.size) = true := by simp; omega
   clear h1
   go_wp2_with fail
   refine (c18 _ hst).mono ?_
   rintro e wz ⟨rfl, hz⟩
   go_wp2
   go_ret
   exact ⟨rfl, hB2.call hz rfl⟩
 have hs : s.size ≤ 1000000 := by omega
 have hd1 : decide ((300 : Int) < (s.size : Int)) = false := by simp; omega
 have hd2 : decide (300 < s.size) = false := by simp; omega
 clear h1
 go_wp2_with fail
 refine (K20.out _ _ _ H).mono ?_
 rintro e w3 ⟨B1, cb1, rfl, hr1, hcb1, hb⟩
 clear qhT0_0 qhT0_1 qhT0_2
 have hS := hb
 have hB3 := hB2.call hS rfl
 replace hT0 := blkb hT0 hS
 replace H := H.below hS
 replace hst := hst.below hS
 replace hm := hm.below hS
 replace hpw := hpw.below hS
 clear hS hB2
 have qhT0_0 : w3.cell? ⟨w.heap.size, 0, none⟩ = some (.int .i64 c) := cell_at hT0 rfl
 have qhT0_1 : w3.cell? ⟨w.heap.size, 1, none⟩ = some (.int .i64 r) := cell_at hT0 rfl
 have qhT0_2 : w3.cell? ⟨w.heap.size, 2, none⟩ = some (.slice A n cap) := cell_at hT0 rfl
 clear hb
 go_wp2_with fail
 refine (K81.out _ _ _ hcb1 hr1 hpw).mono ?_
 rintro e w4 ⟨rfl, hb⟩
 clear qhT0_0 qhT0_1 qhT0_2
 have hS := hb
 have hB4 := hB3.call hS rfl
 replace hT0 := blkb hT0 hS
 replace H := H.below hS
 replace hst := hst.below hS
 replace hm := hm.below hS
 replace hpw := hpw.below hS
 replace hr1 := hr1.below hS
 clear hS hB3
 have qhT0_0 : w4.cell? ⟨w.heap.size, 0, none⟩ = some (.int .i64 c) := cell_at hT0 rfl
 have qhT0_1 : w4.cell? ⟨w.heap.size, 1, none⟩ = some (.int .i64 r) := cell_at hT0 rfl
 have qhT0_2 : w4.cell? ⟨w.heap.size, 2, none⟩ = some (.slice A n cap) := cell_at hT0 rfl
 clear hb
 clear hr1
 clear hcb1
 go_wp2_with fail
 refine (K82.out _ hm).mono ?_
 rintro e w5 ⟨X1, xc1, rfl, hX1, hxc1, hb⟩
 clear qhT0_0 qhT0_1 qhT0_2
 have hS := hb
 have hB5 := hB4.call hS rfl
 replace hT0 := blkb hT0 hS
 replace H := H.below hS
 replace hst := hst.below hS
 replace hm := hm.below hS
 replace hpw := hpw.below hS
 clear hS hB4
 have qhT0_0 : w5.cell? ⟨w.heap.size, 0, none⟩ = some (.int .i64 c) := cell_at hT0 rfl
 have qhT0_1 : w5.cell? ⟨w.heap.size, 1, none⟩ = some (.int .i64 r) := cell_at hT0 rfl
 have qhT0_2 : w5.cell? ⟨w.heap.size, 2, none⟩ = some (.slice A n cap) := cell_at hT0 rfl
 clear hb
 have hz : (w5.alloc (Obj.cells #[.int .i64 0, .int .i64 0, .slice none 0 0] 35)).heap[w5.heap.size]? = some (Obj.cells #[.int .i64 0, .int .i64 0, .slice none 0 0] 35) := heap_new rfl
 go_wp2_with (refine wpList_store_blk rfl 35 _ _ rfl w5.heap.size _ rfl rfl hz ?s1 ?s2 ?s3 ?_)
 case s1 => rfl
 case s2 => kernel_rfl
 case s3 => simp [Value.oneCell']
 intro w6 hP1 hg3 hs3
 clear qhT0_0 qhT0_1 qhT0_2
 have hS := ((Below.refl _ _).alloc (Nat.le_refl _) _).grown hg3 (by simp) (fun j hj => by cases hj; exact Nat.le_refl _)
 have hB6 := hB5.call hS rfl
 replace hT0 := blkb hT0 hS
 replace H := H.below hS
 replace hst := hst.below hS
 replace hm := hm.below hS
 replace hpw := hpw.below hS
 replace hX1 := hX1.below hS
 clear hS hB5
 have qhT0_0 : w6.cell? ⟨w.heap.size, 0, none⟩ = some (.int .i64 c) := cell_at hT0 rfl
 have qhT0_1 : w6.cell? ⟨w.heap.size, 1, none⟩ = some (.int .i64 r) := cell_at hT0 rfl
 have qhT0_2 : w6.cell? ⟨w.heap.size, 2, none⟩ = some (.slice A n cap) := cell_at hT0 rfl
 clear hz hg3 hs3
 obtain ⟨bhP1, hbhP1⟩ : ∃ b, b = w5.heap.size := ⟨_, rfl⟩
 rw [← hbhP1] at hP1 ⊢
 clear hbhP1
 have qhP1_0 : w6.cell? ⟨bhP1, 0, none⟩ = some (.int .i64 c) := cell_at hP1 rfl
 have qhP1_1 : w6.cell? ⟨bhP1, 1, none⟩ = some (.int .i64 r) := cell_at hP1 rfl
 have qhP1_2 : w6.cell? ⟨bhP1, 2, none⟩ = some (.slice X1 n xc1) := cell_at hP1 rfl
 go_wp2_with fail
 refine wp_region_plan [(0, true), (1, true), (2, true), (3, true), (4, true), (5, true), (6, true), (7, true), (8, true), (9, true), (10, true), (11, true), (13, true), (12, false), (14, false), (15, true), (16, true), (17, true), (18, true), (21, true), (22, true), (23, true), (19, false), (20, true), (24, true), (25, true)] w6.heap.size (by kernel_rfl) (by kernel_rfl) (Nat.le_refl _) (fun _ _ d _ _ h => by cases d <;> exact h) ?_
 have hC : Below w6.heap.size w6 w6 := Below.refl _ _
 have zhT0 : w.heap.size < w6.heap.size := (Array.getElem?_eq_some_iff.1 hT0).1
 have zhP1 : bhP1 < w6.heap.size := (Array.getElem?_eq_some_iff.1 hP1).1
 repeat (first | (refine wpPlanA_skip _ rfl (by rfl) ?_; simp only [Act.put, List.setIfInBounds_toArray, List.set_cons_zero, List.set_cons_succ]) | (refine wpPlanA_soft _ ?_ rfl (by rfl) ?_ ?_; rotate_left; (intro wq hq hcq; go_simp; first | exact rfl | exact ⟨rfl, rfl⟩); simp only [Act.put, List.setIfInBounds_toArray, List.set_cons_zero, List.set_cons_succ]))
 refine wpPlanA_hard _ rfl (by rfl) (fun w7 hS K hK => ?_)
 go_simp
 refine (K71.out _ _ _ (hX1.below hS)).mono ?_
 rintro e w8 ⟨B9, cb9, rfl, hr9, hb⟩
 replace hS := hS.call hb rfl
 have hB8 := hB6.call hS rfl
 replace hC := hC.call hS rfl
 replace hT0 := blkb hT0 hS
 replace H := H.below hS
 replace hst := hst.below hS
 replace hm := hm.below hS
 replace hpw := hpw.below hS
 replace hX1 := hX1.below hS
 replace hP1 := blkb hP1 hS
 refine hK _ _ hC ?_
 clear hS hb hB6 hK K
 try simp only [Act.put, List.setIfInBounds_toArray, List.set_cons_zero, List.set_cons_succ]
 repeat (first | (refine wpPlanA_skip _ rfl (by rfl) ?_; simp only [Act.put, List.setIfInBounds_toArray, List.set_cons_zero, List.set_cons_succ]) | (refine wpPlanA_soft _ ?_ rfl (by rfl) ?_ ?_; rotate_left; (intro wq hq hcq; go_simp; first | exact rfl | exact ⟨rfl, rfl⟩); simp only [Act.put, List.setIfInBounds_toArray, List.set_cons_zero, List.set_cons_succ]))
 refine wpPlanA_hard _ rfl (by rfl) (fun w9 hS K hK => ?_)
 go_simp
 refine (K70.out _ _ _ _ _ (hr9.below hS) (H.below hS)).mono ?_
 rintro e w10 ⟨rfl, hb⟩
 replace hS := hS.call hb rfl
 have hB10 := hB8.call hS rfl
 replace hC := hC.call hS rfl
 replace hT0 := blkb hT0 hS
 replace H := H.below hS
 replace hst := hst.below hS
 replace hm := hm.below hS
 replace hpw := hpw.below hS
 replace hX1 := hX1.below hS
 replace hP1 := blkb hP1 hS
 replace hr9 := hr9.below hS
 refine hK _ _ hC ?_
 clear hS hb hB8 hK K
 try simp only [Act.put, List.setIfInBounds_toArray, List.set_cons_zero, List.set_cons_succ]
 repeat (first | (refine wpPlanA_skip _ rfl (by rfl) ?_; simp only [Act.put, List.setIfInBounds_toArray, List.set_cons_zero, List.set_cons_succ]) | (refine wpPlanA_soft _ ?_ rfl (by rfl) ?_ ?_; rotate_left; (intro wq hq hcq; go_simp; first | exact rfl | exact ⟨rfl, rfl⟩); simp only [Act.put, List.setIfInBounds_toArray, List.set_cons_zero, List.set_cons_succ]))
 refine wpPlanA_hard _ rfl (by rfl) (fun w11 hS K hK => ?_)
 go_simp
 refine (K85.out _).mono ?_
 rintro e w12 ⟨A8, c8, rfl, hb⟩
 replace hS := hS.call hb rfl
 have hB12 := hB10.call hS rfl
 replace hC := hC.call hS rfl
 replace hT0 := blkb hT0 hS
 replace H := H.below hS
 replace hst := hst.below hS
 replace hm := hm.below hS
 replace hpw := hpw.below hS
 replace hX1 := hX1.below hS
 replace hP1 := blkb hP1 hS
 replace hr9 := hr9.below hS
 refine hK _ _ hC ?_
 clear hS hb hB10 hK K
 try simp only [Act.put, List.setIfInBounds_toArray, List.set_cons_zero, List.set_cons_succ]
 repeat (first | (refine wpPlanA_skip _ rfl (by rfl) ?_; simp only [Act.put, List.setIfInBounds_toArray, List.set_cons_zero, List.set_cons_succ]) | (refine wpPlanA_soft _ ?_ rfl (by rfl) ?_ ?_; rotate_left; (intro wq hq hcq; go_simp; first | exact rfl | exact ⟨rfl, rfl⟩); simp only [Act.put, List.setIfInBounds_toArray, List.set_cons_zero, List.set_cons_succ]))
 clear hr9
 clear hX1
 clear qhT0_0 qhT0_1 qhT0_2 qhP1_0 qhP1_1 qhP1_2
 refine wpPlanA_nil (fun w13 hS => ?_)
 clear hC zhT0 zhP1
 have hB13 := hB12.call hS rfl
 replace hT0 := blkb hT0 hS
 replace H := H.below hS
 replace hst := hst.below hS
 replace hm := hm.below hS
 replace hpw := hpw.below hS
 replace hP1 := blkb hP1 hS
 clear hS hB12
 have qhT0_0 : w13.cell? ⟨w.heap.size, 0, none⟩ = some (.int .i64 c) := cell_at hT0 rfl
 have qhT0_1 : w13.cell? ⟨w.heap.size, 1, none⟩ = some (.int .i64 r) := cell_at hT0 rfl
 have qhT0_2 : w13.cell? ⟨w.heap.size, 2, none⟩ = some (.slice A n cap) := cell_at hT0 rfl
 have qhP1_0 : w13.cell? ⟨bhP1, 0, none⟩ = some (.int .i64 c) := cell_at hP1 rfl
 have qhP1_1 : w13.cell? ⟨bhP1, 1, none⟩ = some (.int .i64 r) := cell_at hP1 rfl
 have qhP1_2 : w13.cell? ⟨bhP1, 2, none⟩ = some (.slice X1 n xc1) := cell_at hP1 rfl
 clear qhP1_0 qhP1_1 qhP1_2 hP1
 go_wp2_with fail
 refine (K82s.out hs _ hm).mono ?_
 rintro e w14 ⟨X3, xc3, rfl, hX3, hxc3, hb⟩
 clear qhT0_0 qhT0_1 qhT0_2
 have hS := hb
 have hB14 := hB13.call hS rfl
 replace hT0 := blkb hT0 hS
 replace H := H.below hS
 replace hst := hst.below hS
 replace hm := hm.below hS
 replace hpw := hpw.below hS
 clear hS hB13
 have qhT0_0 : w14.cell? ⟨w.heap.size, 0, none⟩ = some (.int .i64 c) := cell_at hT0 rfl
 have qhT0_1 : w14.cell? ⟨w.heap.size, 1, none⟩ = some (.int .i64 r) := cell_at hT0 rfl
 have qhT0_2 : w14.cell? ⟨w.heap.size, 2, none⟩ = some (.slice A n cap) := cell_at hT0 rfl
 clear hb
 have hz : (w14.alloc (Obj.cells #[.int .i64 0, .int .i64 0, .slice none 0 0] 35)).heap[w14.heap.size]? = some (Obj.cells #[.int .i64 0, .int .i64 0, .slice none 0 0] 35) := heap_new rfl
 go_wp2_with (refine wpList_store_blk rfl 35 _ _ rfl w14.heap.size _ rfl rfl hz ?s1 ?s2 ?s3 ?_)
 case s1 => rfl
 case s2 => kernel_rfl
 case s3 => simp [Value.oneCell']
 intro w15 hP3 hg3 hs3
 clear qhT0_0 qhT0_1 qhT0_2
 have hS := ((Below.refl _ _).alloc (Nat.le_refl _) _).grown hg3 (by simp) (fun j hj => by cases hj; exact Nat.le_refl _)
 have hB15 := hB14.call hS rfl
 replace hT0 := blkb hT0 hS
 replace H := H.below hS
 replace hst := hst.below hS
 replace hm := hm.below hS
 replace hpw := hpw.below hS
 replace hX3 := hX3.below hS
 clear hS hB14
 have qhT0_0 : w15.cell? ⟨w.heap.size, 0, none⟩ = some (.int .i64 c) := cell_at hT0 rfl
 have qhT0_1 : w15.cell? ⟨w.heap.size, 1, none⟩ = some (.int .i64 r) := cell_at hT0 rfl
 have qhT0_2 : w15.cell? ⟨w.heap.size, 2, none⟩ = some (.slice A n cap) := cell_at hT0 rfl
 clear hz hg3 hs3
 obtain ⟨bhP3, hbhP3⟩ : ∃ b, b = w14.heap.size := ⟨_, rfl⟩
 rw [← hbhP3] at hP3 ⊢
 clear hbhP3
 have qhP3_0 : w15.cell? ⟨bhP3, 0, none⟩ = some (.int .i64 pc) := cell_at hP3 rfl
 have qhP3_1 : w15.cell? ⟨bhP3, 1, none⟩ = some (.int .i64 pr) := cell_at hP3 rfl
 have qhP3_2 : w15.cell? ⟨bhP3, 2, none⟩ = some (.slice X3 pn xc3) := cell_at hP3 rfl
 by_cases hpe : pe = 0
 ·
   have hpb : (pe == 0) = true := by simp [hpe]
   have K81E := Lib.hid (K81s.out hpe)
   clear hpe
   go_wp2_with fail
   refine (K81E.out _ _ _ hxc3 hX3 hpw).mono ?_
   rintro e w16 ⟨rfl, hb⟩
   clear qhT0_0 qhT0_1 qhT0_2 qhP3_0 qhP3_1 qhP3_2
   have hS := hb
   have hB16 := hB15.call hS rfl
   replace hT0 := blkb hT0 hS
   replace H := H.below hS
   replace hst := hst.below hS
   replace hm := hm.below hS
   replace hpw := hpw.below hS
   replace hX3 := hX3.below hS
   replace hP3 := blkb hP3 hS
   clear hS hB15
   have qhT0_0 : w16.cell? ⟨w.heap.size, 0, none⟩ = some (.int .i64 c) := cell_at hT0 rfl
   have qhT0_1 : w16.cell? ⟨w.heap.size, 1, none⟩ = some (.int .i64 r) := cell_at hT0 rfl
   have qhT0_2 : w16.cell? ⟨w.heap.size, 2, none⟩ = some (.slice A n cap) := cell_at hT0 rfl
   have qhP3_0 : w16.cell? ⟨bhP3, 0, none⟩ = some (.int .i64 pc) := cell_at hP3 rfl
   have qhP3_1 : w16.cell? ⟨bhP3, 1, none⟩ = some (.int .i64 pr) := cell_at hP3 rfl
   have qhP3_2 : w16.cell? ⟨bhP3, 2, none⟩ = some (.slice X3 pn xc3) := cell_at hP3 rfl
   clear hb
   clear qhP3_0 qhP3_1 qhP3_2 hP3
   clear hX3
   clear H
   go_wp2_with fail
   rw [← HU.out]
   go_wp2_with fail
   refine (K82u.out _ hm).mono ?_
   rintro e w17 ⟨X4, xc4, rfl, hX4, hxc4, hb⟩
   clear qhT0_0 qhT0_1 qhT0_2
   have hS := hb
   have hB17 := hB16.call hS rfl
   replace hT0 := blkb hT0 hS
   replace hst := hst.below hS
   replace hm := hm.below hS
   replace hpw := hpw.below hS
   clear hS hB16
   have qhT0_0 : w17.cell? ⟨w.heap.size, 0, none⟩ = some (.int .i64 c) := cell_at hT0 rfl
   have qhT0_1 : w17.cell? ⟨w.heap.size, 1, none⟩ = some (.int .i64 r) := cell_at hT0 rfl
   have qhT0_2 : w17.cell? ⟨w.heap.size, 2, none⟩ = some (.slice A n cap) := cell_at hT0 rfl
   clear hb
   have hz : (w17.alloc (Obj.cells #[.int .i64 0, .int .i64 0, .slice none 0 0] 35)).heap[w17.heap.size]? = some (Obj.cells #[.int .i64 0, .int .i64 0, .slice none 0 0] 35) := heap_new rfl
   go_wp2_with (refine wpList_store_blk rfl 35 _ _ rfl w17.heap.size _ rfl rfl hz ?s1 ?s2 ?s3 ?_)
   case s1 => rfl
   case s2 => kernel_rfl
   case s3 => simp [Value.oneCell']
   intro w18 hP4 hg3 hs3
   clear qhT0_0 qhT0_1 qhT0_2
   have hS := ((Below.refl _ _).alloc (Nat.le_refl _) _).grown hg3 (by simp) (fun j hj => by cases hj; exact Nat.le_refl _)
   have hB18 := hB17.call hS rfl
   replace hT0 := blkb hT0 hS
   replace hst := hst.below hS
   replace hm := hm.below hS
   replace hpw := hpw.below hS
   clear hS hB17
   have qhT0_0 : w18.cell? ⟨w.heap.size, 0, none⟩ = some (.int .i64 c) := cell_at hT0 rfl
   have qhT0_1 : w18.cell? ⟨w.heap.size, 1, none⟩ = some (.int .i64 r) := cell_at hT0 rfl
   have qhT0_2 : w18.cell? ⟨w.heap.size, 2, none⟩ = some (.slice A n cap) := cell_at hT0 rfl
   clear hz hg3 hs3
   obtain ⟨bhP4, hbhP4⟩ : ∃ b, b = w17.heap.size := ⟨_, rfl⟩
   rw [← hbhP4] at hP4 ⊢
   clear hbhP4
   go_wp2_with fail
   refine (c18 _ hst).mono ?_
   rintro e wz ⟨rfl, hz⟩
   go_wp2
   go_ret
   exact ⟨rfl, hB18.call hz rfl⟩
 have hpb : (pe == 0) = false := by simp [hpe]
 clear hpe
 clear qhP3_0 qhP3_1 qhP3_2 hP3
 clear hX3
 clear H
 go_wp2_with fail
 rw [← HU.out]
 go_wp2_with fail
 refine (K82u.out _ hm).mono ?_
 rintro e w16 ⟨X4, xc4, rfl, hX4, hxc4, hb⟩
 clear qhT0_0 qhT0_1 qhT0_2
 have hS := hb
 have hB16 := hB15.call hS rfl
 replace hT0 := blkb hT0 hS
 replace hst := hst.below hS
 replace hm := hm.below hS
 replace hpw := hpw.below hS
 clear hS hB15
 have qhT0_0 : w16.cell? ⟨w.heap.size, 0, none⟩ = some (.int .i64 c) := cell_at hT0 rfl
 have qhT0_1 : w16.cell? ⟨w.heap.size, 1, none⟩ = some (.int .i64 r) := cell_at hT0 rfl
 have qhT0_2 : w16.cell? ⟨w.heap.size, 2, none⟩ = some (.slice A n cap) := cell_at hT0 rfl
 clear hb
 have hz : (w16.alloc (Obj.cells #[.int .i64 0, .int .i64 0, .slice none 0 0] 35)).heap[w16.heap.size]? = some (Obj.cells #[.int .i64 0, .int .i64 0, .slice none 0 0] 35) := heap_new rfl
 go_wp2_with (refine wpList_store_blk rfl 35 _ _ rfl w16.heap.size _ rfl rfl hz ?s1 ?s2 ?s3 ?_)
 case s1 => rfl
 case s2 => kernel_rfl
 case s3 => simp [Value.oneCell']
 intro w17 hP4 hg3 hs3
 clear qhT0_0 qhT0_1 qhT0_2
 have hS := ((Below.refl _ _).alloc (Nat.le_refl _) _).grown hg3 (by simp) (fun j hj => by cases hj; exact Nat.le_refl _)
 have hB17 := hB16.call hS rfl
 replace hT0 := blkb hT0 hS
 replace hst := hst.below hS
 replace hm := hm.below hS
 replace hpw := hpw.below hS
 clear hS hB16
 have qhT0_0 : w17.cell? ⟨w.heap.size, 0, none⟩ = some (.int .i64 c) := cell_at hT0 rfl
 have qhT0_1 : w17.cell? ⟨w.heap.size, 1, none⟩ = some (.int .i64 r) := cell_at hT0 rfl
 have qhT0_2 : w17.cell? ⟨w.heap.size, 2, none⟩ = some (.slice A n cap) := cell_at hT0 rfl
 clear hz hg3 hs3
 obtain ⟨bhP4, hbhP4⟩ : ∃ b, b = w16.heap.size := ⟨_, rfl⟩
 rw [← hbhP4] at hP4 ⊢
 clear hbhP4
 go_wp2_with fail
 refine (c18 _ hst).mono ?_
 rintro e wz ⟨rfl, hz⟩
 go_wp2
 go_ret
 exact ⟨rfl, hB17.call hz rfl⟩
end Go.Proofs.YtdimmlljjmmdbaaGreatDoor
