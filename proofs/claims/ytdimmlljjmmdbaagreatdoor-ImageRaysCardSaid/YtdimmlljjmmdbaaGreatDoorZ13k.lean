/- A part of the proofs about chapter 7 (image): contracts of functions and plain laws (V78). -/
import Derived.Test.YtdimmlljjmmdbaaGreatDoorZ13j
set_option linter.all false
namespace Go.Proofs.YtdimmlljjmmdbaaGreatDoor
open Go.RowKit Go.Shelf
set_option maxHeartbeats 16000000
set_option maxRecDepth 100000
theorem c22r (A : Option Addr) (n cap : Nat) (l : List Int) (w : World) (hn : n ≤ 1000000) (H : RdI w A n l) :
  Calls Tryz.prog 22 #[.slice A n cap] w fun en w' => ∃ B cb, en = .returned (.slice B n cb) ∧ RdI w' B n l ∧ Below w.heap.size w w' := by
 refine (c22 A n cap l w hn H).mono ?_
 rintro e w' ⟨v, rfl, ho, hb⟩
 obtain ⟨B, cb, rfl, hr, _⟩ := own_form ho
 exact ⟨B, cb, rfl, hr, hb⟩
theorem c20r (c r : Int) (A : Option Addr) (n cap : Nat) (l : List Int) (w : World) (hl : n ≤ 1000000) (H : RdI w A n l) :
  Calls Tryz.prog 20 #[.agg #[.int .i64 c, .int .i64 r, .slice A n cap]] w fun en w' => ∃ B cb, en = .returned (.agg #[.int .i64 c, .int .i64 r, .slice B n cb]) ∧ RdI w' B n l ∧ Below w.heap.size w w' := by
 refine (c20 c r A n cap l w hl H).mono ?_
 rintro e w' ⟨B, cb, h1, h2, _, _, h3⟩
 exact ⟨B, cb, h1, h2, h3⟩
theorem c71e (c r : Int) (A : Option Addr) (n cap : Nat) (l : List Int) (w : World) (hl : n ≤ 1000000) (H : RdI w A n l) :
  Calls Tryz.prog 71 #[.agg #[.int .i64 c, .int .i64 r, .slice A n cap]] w fun en w' => ∃ B cb, en = .returned (.agg #[.int .i64 c, .int .i64 r, .slice B n cb]) ∧ RdI w' B n l ∧ Below w.heap.size w w' := by
 refine (c71 c r A n cap l w hl H).mono ?_
 rintro e w' ⟨B, cb, h1, h2, _, _, h3⟩
 exact ⟨B, cb, h1, h2, h3⟩
theorem bl2 (w : World) (o : Obj) : Below w.heap.size w (w.alloc o) := (Below.refl _ _).alloc (Nat.le_refl _) _
theorem c22o (A : Option Addr) (n cap : Nat) (l : List Int) (w : World) (hn0 : 0 < n) (hn : n ≤ 1000000) (H : RdI w A n l) :
  Calls Tryz.prog 22 #[.slice A n cap] w fun en w' => ∃ g gc, en = .returned (.slice (some ⟨g, 0, none⟩) n gc) ∧ RowI w' w.heap.size g gc n l ∧ Below w.heap.size w w' := by
 refine (c22 A n cap l w hn H).mono ?_
 rintro e w' ⟨v, rfl, ho, hb⟩
 obtain ⟨g, gc, rfl, hr⟩ := RowI.of_own hn0 ho
 exact ⟨g, gc, rfl, hr, hb⟩
theorem rd2z (w : World) (a b : Int) : RdI (w.alloc (Obj.cells #[.int .i64 a, .int .i64 b] 3)) (some ⟨w.heap.size, 0, none⟩) 2 [a, b] := RdS.of_new (cs := encI [a, b]) rfl rfl
theorem l13 (c r : Int) (A : Option Addr) (n cap : Nat) (l : List Int) (s d : Int) (WA PA TA : Option Addr) (wn wc pn pc tn tc : Nat) (wl pl tl : List Int) (w : World) (H : RdI w A n l) (HW : RdI w WA wn wl) (hst : Steps w) :
  Calls Tryz.prog 13 #[.agg #[.int .i64 c, .int .i64 r, .slice A n cap], .agg #[.int .i64 s, .int .i64 d, .slice WA wn wc, .slice PA pn pc, .slice TA tn tc]] w fun en w' => en = .returned (.bool true) ∧ Below w.heap.size w w' := by
 obtain ⟨w0, hW⟩ : ∃ W, W = (w.alloc (Obj.cells #[.int .i64 c, .int .i64 r, .slice A n cap] 24)).alloc (Obj.cells #[.int .i64 s, .int .i64 d, .slice WA wn wc, .slice PA pn pc, .slice TA tn tc] 123) := ⟨_, rfl⟩
 have hT0 : w0.heap[w.heap.size]? = some (.cells #[.int .i64 c, .int .i64 r, .slice A n cap] 24 (0, 0)) := by rw [hW]; exact heap_old (by simp <;> omega) (heap_new (by simp))
 have hT1 : w0.heap[w.heap.size + 1]? = some (.cells #[.int .i64 s, .int .i64 d, .slice WA wn wc, .slice PA pn pc, .slice TA tn tc] 123 (0, 0)) := by rw [hW]; exact heap_new (by simp)
 have hB0 : Below w.heap.size w w0 := by rw [hW]; exact (((Below.refl _ _).alloc (by first | omega | (simp <;> omega)) _).alloc (by first | omega | (simp <;> omega)) _)
 replace H := H.below hB0
 replace HW := HW.below hB0
 replace hst := hst.below hB0
 go_enter Tryz.func13, Tryz.ntmps13
 go_wp2_with fail
 rw [← hW]
 clear hW
 have qhT0_0 : w0.cell? ⟨w.heap.size, 0, none⟩ = some (.int .i64 c) := cell_at hT0 rfl
 have qhT0_1 : w0.cell? ⟨w.heap.size, 1, none⟩ = some (.int .i64 r) := cell_at hT0 rfl
 have qhT0_2 : w0.cell? ⟨w.heap.size, 2, none⟩ = some (.slice A n cap) := cell_at hT0 rfl
 have qhT1_0 : w0.cell? ⟨w.heap.size + 1, 0, none⟩ = some (.int .i64 s) := cell_at hT1 rfl
 have qhT1_1 : w0.cell? ⟨w.heap.size + 1, 1, none⟩ = some (.int .i64 d) := cell_at hT1 rfl
 have qhT1_2 : w0.cell? ⟨w.heap.size + 1, 2, none⟩ = some (.slice WA wn wc) := cell_at hT1 rfl
 have qhT1_3 : w0.cell? ⟨w.heap.size + 1, 3, none⟩ = some (.slice PA pn pc) := cell_at hT1 rfl
 have qhT1_4 : w0.cell? ⟨w.heap.size + 1, 4, none⟩ = some (.slice TA tn tc) := cell_at hT1 rfl
 go_wp2_with fail
 refine (c16 c r A n cap _).mono ?_
 rintro e w1 ⟨⟨b1, rfl, hG⟩, hb⟩
 clear qhT0_0 qhT0_1 qhT0_2 qhT1_0 qhT1_1 qhT1_2 qhT1_3 qhT1_4
 have hS := hb
 have hB1 := hB0.call hS rfl
 replace hT0 := blkb hT0 hS
 replace hT1 := blkb hT1 hS
 replace H := H.below hS
 replace HW := HW.below hS
 replace hst := hst.below hS
 clear hS hB0
 have qhT0_0 : w1.cell? ⟨w.heap.size, 0, none⟩ = some (.int .i64 c) := cell_at hT0 rfl
 have qhT0_1 : w1.cell? ⟨w.heap.size, 1, none⟩ = some (.int .i64 r) := cell_at hT0 rfl
 have qhT0_2 : w1.cell? ⟨w.heap.size, 2, none⟩ = some (.slice A n cap) := cell_at hT0 rfl
 have qhT1_0 : w1.cell? ⟨w.heap.size + 1, 0, none⟩ = some (.int .i64 s) := cell_at hT1 rfl
 have qhT1_1 : w1.cell? ⟨w.heap.size + 1, 1, none⟩ = some (.int .i64 d) := cell_at hT1 rfl
 have qhT1_2 : w1.cell? ⟨w.heap.size + 1, 2, none⟩ = some (.slice WA wn wc) := cell_at hT1 rfl
 have qhT1_3 : w1.cell? ⟨w.heap.size + 1, 3, none⟩ = some (.slice PA pn pc) := cell_at hT1 rfl
 have qhT1_4 : w1.cell? ⟨w.heap.size + 1, 4, none⟩ = some (.slice TA tn tc) := cell_at hT1 rfl
 clear hb
 have HG := Lib.hid hG
 clear hG
 cases b1
 ·
   go_wp2_with fail
   refine (c18 _ hst).mono ?_
   rintro e wz ⟨rfl, hz⟩
   go_wp2
   go_ret
   exact ⟨rfl, hB1.call hz rfl⟩
 have hn30 : n ≤ 30 := (by first | exact HG.out rfl | exact HG.out trivial)
 have hl : n ≤ 1000000 := by omega
 clear HG
 go_wp2_with fail
 refine (c72 s d WA PA TA wn pn tn wc pc tc _).mono ?_
 rintro e w2 ⟨⟨b2, rfl, hG⟩, hb⟩
 clear qhT0_0 qhT0_1 qhT0_2 qhT1_0 qhT1_1 qhT1_2 qhT1_3 qhT1_4
 have hS := hb
 have hB2 := hB1.call hS rfl
 replace hT0 := blkb hT0 hS
 replace hT1 := blkb hT1 hS
 replace H := H.below hS
 replace HW := HW.below hS
 replace hst := hst.below hS
 clear hS hB1
 have qhT0_0 : w2.cell? ⟨w.heap.size, 0, none⟩ = some (.int .i64 c) := cell_at hT0 rfl
 have qhT0_1 : w2.cell? ⟨w.heap.size, 1, none⟩ = some (.int .i64 r) := cell_at hT0 rfl
 have qhT0_2 : w2.cell? ⟨w.heap.size, 2, none⟩ = some (.slice A n cap) := cell_at hT0 rfl
 have qhT1_0 : w2.cell? ⟨w.heap.size + 1, 0, none⟩ = some (.int .i64 s) := cell_at hT1 rfl
 have qhT1_1 : w2.cell? ⟨w.heap.size + 1, 1, none⟩ = some (.int .i64 d) := cell_at hT1 rfl
 have qhT1_2 : w2.cell? ⟨w.heap.size + 1, 2, none⟩ = some (.slice WA wn wc) := cell_at hT1 rfl
 have qhT1_3 : w2.cell? ⟨w.heap.size + 1, 3, none⟩ = some (.slice PA pn pc) := cell_at hT1 rfl
 have qhT1_4 : w2.cell? ⟨w.heap.size + 1, 4, none⟩ = some (.slice TA tn tc) := cell_at hT1 rfl
 clear hb
 have HG := Lib.hid hG
 clear hG
 cases b2
 ·
   go_wp2_with fail
   refine (c18 _ hst).mono ?_
   rintro e wz ⟨rfl, hz⟩
   go_wp2
   go_ret
   exact ⟨rfl, hB2.call hz rfl⟩
 have hlen : (wn ≤ 30 ∨ wn = 257) ∧ pn ≤ 30 ∧ tn ≤ 30 := by first | exact HG.out rfl | exact HG.out trivial
 have hwn : wn ≤ 1000000 := by omega
 clear HG hlen
 have zg := cell_lt qhT0_0
 have zp := cell_lt qhT1_0
 go_wp2_with fail
 refine (c60 c r A n cap l _ 2 2 [s, d] _ hl (by omega) (H.below (bl2 _ _)) (rd2z _ _ _)).mono ?_
 rintro e w3 ⟨rfl, hb⟩
 clear qhT0_0 qhT0_1 qhT0_2 qhT1_0 qhT1_1 qhT1_2 qhT1_3 qhT1_4
 have hS := ((Below.refl _ _).alloc (by first | exact Nat.le_refl _ | (simp <;> omega)) _).call hb rfl
 have hB3 := hB2.call hS rfl
 replace hT0 := blkb hT0 hS
 replace hT1 := blkb hT1 hS
 replace H := H.below hS
 replace HW := HW.below hS
 replace hst := hst.below hS
 clear hS hB2
 have qhT0_0 : w3.cell? ⟨w.heap.size, 0, none⟩ = some (.int .i64 c) := cell_at hT0 rfl
 have qhT0_1 : w3.cell? ⟨w.heap.size, 1, none⟩ = some (.int .i64 r) := cell_at hT0 rfl
 have qhT0_2 : w3.cell? ⟨w.heap.size, 2, none⟩ = some (.slice A n cap) := cell_at hT0 rfl
 have qhT1_0 : w3.cell? ⟨w.heap.size + 1, 0, none⟩ = some (.int .i64 s) := cell_at hT1 rfl
 have qhT1_1 : w3.cell? ⟨w.heap.size + 1, 1, none⟩ = some (.int .i64 d) := cell_at hT1 rfl
 have qhT1_2 : w3.cell? ⟨w.heap.size + 1, 2, none⟩ = some (.slice WA wn wc) := cell_at hT1 rfl
 have qhT1_3 : w3.cell? ⟨w.heap.size + 1, 3, none⟩ = some (.slice PA pn pc) := cell_at hT1 rfl
 have qhT1_4 : w3.cell? ⟨w.heap.size + 1, 4, none⟩ = some (.slice TA tn tc) := cell_at hT1 rfl
 clear hb
 clear zg zp
 obtain ⟨E0, hE0⟩ : ∃ E, E = Mo.cells c r l n [s, d] := ⟨_, rfl⟩
 rw [← hE0]
 have HE0 := Lib.hid hE0
 clear hE0
 by_cases hz : E0 = 0
 rotate_left
 ·
   have hef : (E0 != 0) = true := by simpa using hz
   clear hz
   go_wp2_with fail
   refine (c18 _ hst).mono ?_
   rintro e wz ⟨rfl, hz⟩
   go_wp2
   go_ret
   exact ⟨rfl, hB3.call hz rfl⟩
 subst hz
 have hF : Mo.first [Mo.ground c r l, Mo.cell n s, Mo.cell n d] = 0 := by rw [← Mo.cells2]; exact HE0.out.symm
 have hg0 := Mo.first_zero hF (Mo.ground c r l) (by simp)
 have h1 := Mo.cell_ok.1 (Mo.first_zero hF (Mo.cell n s) (by simp))
 have h2 := Mo.cell_ok.1 (Mo.first_zero hF (Mo.cell n d) (by simp))
 obtain ⟨c, r, rfl, rfl, hc, hr, g⟩ := Mo.ground_ok hg0
 obtain ⟨s, rfl⟩ : ∃ k : Nat, s = k := ⟨s.toNat, by omega⟩
 obtain ⟨d, rfl⟩ : ∃ k : Nat, d = k := ⟨d.toNat, by omega⟩
 have hs : s < n := by omega
 have hd : d < n := by omega
 have hln := H.len
 have hc1 := g.c1
 have hs300 : s < 300 := by omega
 clear hF hg0 h1 h2 HE0
 as_aux_lemma =>
  go_wp2_with fail
  refine wp_region_plan [(0, true), (2, true), (3, true), (1, false), (4, false), (5, true), (6, true), (7, true), (8, true), (9, true)] w3.heap.size (by kernel_rfl) (by kernel_rfl) (Nat.le_refl _) (fun _ _ d _ _ h => by cases d <;> exact h) ?_
  have hC : Below w3.heap.size w3 w3 := Below.refl _ _
  have zhT0 : w.heap.size < w3.heap.size := (Array.getElem?_eq_some_iff.1 hT0).1
  have zhT1 : w.heap.size + 1 < w3.heap.size := (Array.getElem?_eq_some_iff.1 hT1).1
  repeat (first | (refine wpPlanA_skip _ rfl (by rfl) ?_; simp only [Act.put, List.setIfInBounds_toArray, List.set_cons_zero, List.set_cons_succ]) | (refine wpPlanA_soft _ ?_ rfl (by rfl) ?_ ?_; rotate_left; (intro wq hq hcq; go_simp; first | exact rfl | exact ⟨rfl, rfl⟩); simp only [Act.put, List.setIfInBounds_toArray, List.set_cons_zero, List.set_cons_succ]))
  refine wpPlanA_hard _ rfl (by rfl) (fun w4 hS K hK => ?_)
  go_simp
  refine (c20r c r A n cap l _ hl (H.below hS)).mono ?_
  rintro e w5 ⟨B1, cb1, rfl, hr1, hb⟩
  replace hS := hS.call hb rfl
  have hB5 := hB3.call hS rfl
  replace hC := hC.call hS rfl
  replace hT0 := blkb hT0 hS
  replace hT1 := blkb hT1 hS
  replace H := H.below hS
  replace HW := HW.below hS
  replace hst := hst.below hS
  refine hK _ _ hC ?_
  clear hS hb hB3 hK K
  try simp only [Act.put, List.setIfInBounds_toArray, List.set_cons_zero, List.set_cons_succ]
  refine wpPlanA_hard _ rfl (by rfl) (fun w6 hS K hK => ?_)
  go_simp
  refine (k58x hc hr g hln hs _ _ _ (hr1.below hS) (hst.below hS)).mono ?_
  rintro e w7 ⟨T1, tc1, t, rfl, hTs, hIT, hb⟩
  replace hS := hS.call hb rfl
  have hB7 := hB5.call hS rfl
  replace hC := hC.call hS rfl
  replace hT0 := blkb hT0 hS
  replace hT1 := blkb hT1 hS
  replace H := H.below hS
  replace HW := HW.below hS
  replace hst := hst.below hS
  replace hr1 := hr1.below hS
  refine hK _ _ hC ?_
  clear hS hb hB5 hK K
  try simp only [Act.put, List.setIfInBounds_toArray, List.set_cons_zero, List.set_cons_succ]
  repeat (first | (refine wpPlanA_skip _ rfl (by rfl) ?_; simp only [Act.put, List.setIfInBounds_toArray, List.set_cons_zero, List.set_cons_succ]) | (refine wpPlanA_soft _ ?_ rfl (by rfl) ?_ ?_; rotate_left; (intro wq hq hcq; go_simp; first | exact rfl | exact ⟨rfl, rfl⟩); simp only [Act.put, List.setIfInBounds_toArray, List.set_cons_zero, List.set_cons_succ]))
  clear hr1
  clear qhT0_0 qhT0_1 qhT0_2 qhT1_0 qhT1_1 qhT1_2 qhT1_3 qhT1_4
  refine wpPlanA_nil (fun w8 hS => ?_)
  clear hC zhT0 zhT1
  have hB8 := hB7.call hS rfl
  replace hT0 := blkb hT0 hS
  replace hT1 := blkb hT1 hS
  replace H := H.below hS
  replace HW := HW.below hS
  replace hst := hst.below hS
  replace hTs := hTs.below hS
  clear hS hB7
  have qhT0_0 : w8.cell? ⟨w.heap.size, 0, none⟩ = some (.int .i64 c) := cell_at hT0 rfl
  have qhT0_1 : w8.cell? ⟨w.heap.size, 1, none⟩ = some (.int .i64 r) := cell_at hT0 rfl
  have qhT0_2 : w8.cell? ⟨w.heap.size, 2, none⟩ = some (.slice A n cap) := cell_at hT0 rfl
  have qhT1_0 : w8.cell? ⟨w.heap.size + 1, 0, none⟩ = some (.int .i64 s) := cell_at hT1 rfl
  have qhT1_1 : w8.cell? ⟨w.heap.size + 1, 1, none⟩ = some (.int .i64 d) := cell_at hT1 rfl
  have qhT1_2 : w8.cell? ⟨w.heap.size + 1, 2, none⟩ = some (.slice WA wn wc) := cell_at hT1 rfl
  have qhT1_3 : w8.cell? ⟨w.heap.size + 1, 3, none⟩ = some (.slice PA pn pc) := cell_at hT1 rfl
  have qhT1_4 : w8.cell? ⟨w.heap.size + 1, 4, none⟩ = some (.slice TA tn tc) := cell_at hT1 rfl
  as_aux_lemma =>
   go_wp2_with fail
   refine wp_region_plan [(0, true), (2, true), (3, true), (1, false), (4, false), (5, true), (6, true), (7, true), (8, true), (9, true)] w8.heap.size (by kernel_rfl) (by kernel_rfl) (Nat.le_refl _) (fun _ _ d _ _ h => by cases d <;> exact h) ?_
   have hC : Below w8.heap.size w8 w8 := Below.refl _ _
   have zhT0 : w.heap.size < w8.heap.size := (Array.getElem?_eq_some_iff.1 hT0).1
   have zhT1 : w.heap.size + 1 < w8.heap.size := (Array.getElem?_eq_some_iff.1 hT1).1
   repeat (first | (refine wpPlanA_skip _ rfl (by rfl) ?_; simp only [Act.put, List.setIfInBounds_toArray, List.set_cons_zero, List.set_cons_succ]) | (refine wpPlanA_soft _ ?_ rfl (by rfl) ?_ ?_; rotate_left; (intro wq hq hcq; go_simp; first | exact rfl | exact ⟨rfl, rfl⟩); simp only [Act.put, List.setIfInBounds_toArray, List.set_cons_zero, List.set_cons_succ]))
   refine wpPlanA_hard _ rfl (by rfl) (fun w9 hS K hK => ?_)
   go_simp
   refine (c20r c r A n cap l _ hl (H.below hS)).mono ?_
   rintro e w10 ⟨B2, cb2, rfl, hr2, hb⟩
   replace hS := hS.call hb rfl
   have hB10 := hB8.call hS rfl
   replace hC := hC.call hS rfl
   replace hT0 := blkb hT0 hS
   replace hT1 := blkb hT1 hS
   replace H := H.below hS
   replace HW := HW.below hS
   replace hst := hst.below hS
   replace hTs := hTs.below hS
   refine hK _ _ hC ?_
   clear hS hb hB8 hK K
   try simp only [Act.put, List.setIfInBounds_toArray, List.set_cons_zero, List.set_cons_succ]
   refine wpPlanA_hard _ rfl (by rfl) (fun w11 hS K hK => ?_)
   go_simp
   refine (k58x hc hr g hln hd _ _ _ (hr2.below hS) (hst.below hS)).mono ?_
   rintro e w12 ⟨O1, oc1, o, rfl, hOd, hIO, hb⟩
   replace hS := hS.call hb rfl
   have hB12 := hB10.call hS rfl
   replace hC := hC.call hS rfl
   replace hT0 := blkb hT0 hS
   replace hT1 := blkb hT1 hS
   replace H := H.below hS
   replace HW := HW.below hS
   replace hst := hst.below hS
   replace hTs := hTs.below hS
   replace hr2 := hr2.below hS
   refine hK _ _ hC ?_
   clear hS hb hB10 hK K
   try simp only [Act.put, List.setIfInBounds_toArray, List.set_cons_zero, List.set_cons_succ]
   repeat (first | (refine wpPlanA_skip _ rfl (by rfl) ?_; simp only [Act.put, List.setIfInBounds_toArray, List.set_cons_zero, List.set_cons_succ]) | (refine wpPlanA_soft _ ?_ rfl (by rfl) ?_ ?_; rotate_left; (intro wq hq hcq; go_simp; first | exact rfl | exact ⟨rfl, rfl⟩); simp only [Act.put, List.setIfInBounds_toArray, List.set_cons_zero, List.set_cons_succ]))
   clear hr2
   clear qhT0_0 qhT0_1 qhT0_2 qhT1_0 qhT1_1 qhT1_2 qhT1_3 qhT1_4
   refine wpPlanA_nil (fun w13 hS => ?_)
   clear hC zhT0 zhT1
   have hB13 := hB12.call hS rfl
   replace hT0 := blkb hT0 hS
   replace hT1 := blkb hT1 hS
   replace H := H.below hS
   replace HW := HW.below hS
   replace hst := hst.below hS
   replace hTs := hTs.below hS
   replace hOd := hOd.below hS
   clear hS hB12
   have qhT0_0 : w13.cell? ⟨w.heap.size, 0, none⟩ = some (.int .i64 c) := cell_at hT0 rfl
   have qhT0_1 : w13.cell? ⟨w.heap.size, 1, none⟩ = some (.int .i64 r) := cell_at hT0 rfl
   have qhT0_2 : w13.cell? ⟨w.heap.size, 2, none⟩ = some (.slice A n cap) := cell_at hT0 rfl
   have qhT1_0 : w13.cell? ⟨w.heap.size + 1, 0, none⟩ = some (.int .i64 s) := cell_at hT1 rfl
   have qhT1_1 : w13.cell? ⟨w.heap.size + 1, 1, none⟩ = some (.int .i64 d) := cell_at hT1 rfl
   have qhT1_2 : w13.cell? ⟨w.heap.size + 1, 2, none⟩ = some (.slice WA wn wc) := cell_at hT1 rfl
   have qhT1_3 : w13.cell? ⟨w.heap.size + 1, 3, none⟩ = some (.slice PA pn pc) := cell_at hT1 rfl
   have qhT1_4 : w13.cell? ⟨w.heap.size + 1, 4, none⟩ = some (.slice TA tn tc) := cell_at hT1 rfl
   obtain ⟨N, V, E, wy, ml, rl, k, f1, f2, f3, f4, f5, f6, f7, f8, f9, k59, k75, k75w, k73, k74, k73g, kg, k66, k67, k65m, k65t, k58m, k58t⟩ := rays_calls c r n s d wn l t o wl hc hr g hln hn30 hs hd hIT hIO HW.len hwn
   have HTR := Lib.hid f9
   have K59 := Lib.hid k59
   have K75 := Lib.hid k75
   have K75w := Lib.hid k75w
   have K73 := Lib.hid k73
   have K74 := Lib.hid k74
   have K73g := Lib.hid k73g
   have KG := Lib.hid kg
   have K66 := Lib.hid k66
   have K67 := Lib.hid k67
   have K65m := Lib.hid k65m
   have K65t := Lib.hid k65t
   have K58m := Lib.hid k58m
   have K58t := Lib.hid k58t
   clear f9 k59 k75 k75w k73 k74 k73g kg k66 k67 k65m k65t k58m k58t hIT hIO
   as_aux_lemma =>
    go_wp2_with fail
    refine wp_region_plan [(0, true), (2, true), (3, true), (4, true), (5, true), (1, false), (6, false), (7, true), (8, true), (9, true), (10, true), (11, true), (12, true), (13, true)] w13.heap.size (by kernel_rfl) (by kernel_rfl) (Nat.le_refl _) (fun _ _ d _ _ h => by cases d <;> exact h) ?_
    have hC : Below w13.heap.size w13 w13 := Below.refl _ _
    have zhT0 : w.heap.size < w13.heap.size := (Array.getElem?_eq_some_iff.1 hT0).1
    have zhT1 : w.heap.size + 1 < w13.heap.size := (Array.getElem?_eq_some_iff.1 hT1).1
    repeat (first | (refine wpPlanA_skip _ rfl (by rfl) ?_; simp only [Act.put, List.setIfInBounds_toArray, List.set_cons_zero, List.set_cons_succ]) | (refine wpPlanA_soft _ ?_ rfl (by rfl) ?_ ?_; rotate_left; (intro wq hq hcq; go_simp; first | exact rfl | exact ⟨rfl, rfl⟩); simp only [Act.put, List.setIfInBounds_toArray, List.set_cons_zero, List.set_cons_succ]))
    refine wpPlanA_hard _ rfl (by rfl) (fun w14 hS K hK => ?_)
    go_simp
    refine (c20r c r A n cap l _ hl (H.below hS)).mono ?_
    rintro e w15 ⟨B3, cb3, rfl, hr3, hb⟩
    replace hS := hS.call hb rfl
    have hB15 := hB13.call hS rfl
    replace hC := hC.call hS rfl
    replace hT0 := blkb hT0 hS
    replace hT1 := blkb hT1 hS
    replace H := H.below hS
    replace HW := HW.below hS
    replace hst := hst.below hS
    replace hTs := hTs.below hS
    replace hOd := hOd.below hS
    refine hK _ _ hC ?_
    clear hS hb hB13 hK K
    try simp only [Act.put, List.setIfInBounds_toArray, List.set_cons_zero, List.set_cons_succ]
    refine wpPlanA_hard _ rfl (by rfl) (fun w16 hS K hK => ?_)
    go_simp
    refine (K59.out _ _ _ (hr3.below hS) (hst.below hS)).mono ?_
    rintro e w17 ⟨Y1, yc1, rfl, hY1, hb⟩
    replace hS := hS.call hb rfl
    have hB17 := hB15.call hS rfl
    replace hC := hC.call hS rfl
    replace hT0 := blkb hT0 hS
    replace hT1 := blkb hT1 hS
    replace H := H.below hS
    replace HW := HW.below hS
    replace hst := hst.below hS
    replace hTs := hTs.below hS
    replace hOd := hOd.below hS
    replace hr3 := hr3.below hS
    refine hK _ _ hC ?_
    clear hS hb hB15 hK K
    try simp only [Act.put, List.setIfInBounds_toArray, List.set_cons_zero, List.set_cons_succ]
    repeat (first | (refine wpPlanA_skip _ rfl (by rfl) ?_; simp only [Act.put, List.setIfInBounds_toArray, List.set_cons_zero, List.set_cons_succ]) | (refine wpPlanA_soft _ ?_ rfl (by rfl) ?_ ?_; rotate_left; (intro wq hq hcq; go_simp; first | exact rfl | exact ⟨rfl, rfl⟩); simp only [Act.put, List.setIfInBounds_toArray, List.set_cons_zero, List.set_cons_succ]))
    clear hr3
    clear qhT0_0 qhT0_1 qhT0_2 qhT1_0 qhT1_1 qhT1_2 qhT1_3 qhT1_4
    refine wpPlanA_nil (fun w18 hS => ?_)
    clear hC zhT0 zhT1
    have hB18 := hB17.call hS rfl
    replace hT0 := blkb hT0 hS
    replace hT1 := blkb hT1 hS
    replace H := H.below hS
    replace HW := HW.below hS
    replace hst := hst.below hS
    replace hTs := hTs.below hS
    replace hOd := hOd.below hS
    replace hY1 := hY1.below hS
    clear hS hB17
    have qhT0_0 : w18.cell? ⟨w.heap.size, 0, none⟩ = some (.int .i64 c) := cell_at hT0 rfl
    have qhT0_1 : w18.cell? ⟨w.heap.size, 1, none⟩ = some (.int .i64 r) := cell_at hT0 rfl
    have qhT0_2 : w18.cell? ⟨w.heap.size, 2, none⟩ = some (.slice A n cap) := cell_at hT0 rfl
    have qhT1_0 : w18.cell? ⟨w.heap.size + 1, 0, none⟩ = some (.int .i64 s) := cell_at hT1 rfl
    have qhT1_1 : w18.cell? ⟨w.heap.size + 1, 1, none⟩ = some (.int .i64 d) := cell_at hT1 rfl
    have qhT1_2 : w18.cell? ⟨w.heap.size + 1, 2, none⟩ = some (.slice WA wn wc) := cell_at hT1 rfl
    have qhT1_3 : w18.cell? ⟨w.heap.size + 1, 3, none⟩ = some (.slice PA pn pc) := cell_at hT1 rfl
    have qhT1_4 : w18.cell? ⟨w.heap.size + 1, 4, none⟩ = some (.slice TA tn tc) := cell_at hT1 rfl
    obtain ⟨tb, tof, rfl, zt⟩ := hTs.form (by omega)
    obtain ⟨ob, oo, rfl, zo⟩ := hOd.form (by omega)
    obtain ⟨yb, yo, rfl, zy⟩ := hY1.form (by omega)
    have qts := hTs.get hs
    have qtd := hTs.get hd
    have qos := hOd.get hs
    have qy0 := hY1.get (k := 0) (by omega)
    have qyk := hY1.get (k := k - 1) (by omega)
    rw [f2] at qts
    rw [f1] at qtd
    rw [f3] at qos
    rw [f6, Nat.add_zero] at qy0
    rw [f7] at qyk
    obtain ⟨kk, hkk⟩ : ∃ j, j = k - 1 := ⟨_, rfl⟩
    rw [← hkk] at qyk
    have hwk : IntKind.i64.wrap ((k : Int) - 1) = (kk : Int) := by rw [wrapI (by omega)]; omega
    have hs2 : (s : Int) < (n : Int) := by omega
    have hs0 : (0 : Int) ≤ (s : Int) := by omega
    have hd2 : (d : Int) < (n : Int) := by omega
    have hd0 : (0 : Int) ≤ (d : Int) := by omega
    have hk2 : (kk : Int) < (k : Int) := by omega
    have hk0 : (0 : Int) ≤ (kk : Int) := by omega
    have hk1 : (0 : Int) < (k : Int) := by omega
    have hk1n : 0 < k := by omega
    have hk2n : kk < k := by omega
    have hne : ((n : Int) != (n : Int)) = false := by simp
    have hkz : ((k : Int) == 0) = false := by simp; omega
    have hkn : decide ((n : Int) < (k : Int)) = false := by simp; omega
    have hkn2 : decide (n < k) = false := by simp; omega
    have hkn3 : ¬ (n < k) := by omega
    have hkn4 : ¬ ((n : Int) < (k : Int)) := by omega
    have hss : ((s : Int) != (s : Int)) = false := by simp
    have hdd : ((d : Int) != (d : Int)) = false := by simp
    have hNN : (N != N) = false := by simp
    clear hkk f6 f7
    as_aux_lemma =>
     go_wp2_with fail
     refine wp_region_plan [(0, true), (1, true), (2, true), (3, true), (4, true), (5, true), (6, true), (7, true), (8, true), (9, true), (10, true), (11, true), (12, true), (13, true), (14, true), (15, true), (16, true), (17, true), (18, true), (19, true), (20, true), (21, true), (22, true), (23, true), (24, true), (25, true), (26, true), (27, true), (28, true), (29, true), (30, true), (31, true), (32, true), (33, true), (34, true), (35, true), (36, true), (37, true), (38, true), (39, true), (40, true), (41, true), (42, true), (43, true), (44, true), (45, true), (46, true), (47, true), (48, true), (49, true), (50, true), (51, true), (52, true), (53, true), (54, true), (55, true), (56, true), (57, true), (58, true), (59, true), (60, true), (61, true), (62, true), (63, true), (64, true), (65, true), (66, true), (67, true), (68, true), (69, true), (70, true), (71, true), (72, true), (73, true), (74, true), (75, true), (76, true), (77, true), (78, true), (79, true), (81, true), (82, true), (83, true), (80, false), (84, false), (85, false), (86, true), (87, true)] w18.heap.size (by kernel_rfl) (by kernel_rfl) (Nat.le_refl _) (fun _ _ d _ _ h => by cases d <;> exact h) ?_
     have hC : Below w18.heap.size w18 w18 := Below.refl _ _
     have zhT0 : w.heap.size < w18.heap.size := (Array.getElem?_eq_some_iff.1 hT0).1
     have zhT1 : w.heap.size + 1 < w18.heap.size := (Array.getElem?_eq_some_iff.1 hT1).1
     iterate 14 (first | (refine wpPlanA_skip _ rfl (by rfl) ?_; simp only [Act.put, List.setIfInBounds_toArray, List.set_cons_zero, List.set_cons_succ]) | (refine wpPlanA_soft _ ?_ rfl (by rfl) ?_ ?_; rotate_left; (intro wq hq hcq; go_simp; first | exact rfl | exact ⟨rfl, rfl⟩); simp only [Act.put, List.setIfInBounds_toArray, List.set_cons_zero, List.set_cons_succ]))
     as_aux_lemma =>
      iterate 14 (first | (refine wpPlanA_skip _ rfl (by rfl) ?_; simp only [Act.put, List.setIfInBounds_toArray, List.set_cons_zero, List.set_cons_succ]) | (refine wpPlanA_soft _ ?_ rfl (by rfl) ?_ ?_; rotate_left; (intro wq hq hcq; go_simp; first | exact rfl | exact ⟨rfl, rfl⟩); simp only [Act.put, List.setIfInBounds_toArray, List.set_cons_zero, List.set_cons_succ]))
      as_aux_lemma =>
       iterate 14 (first | (refine wpPlanA_skip _ rfl (by rfl) ?_; simp only [Act.put, List.setIfInBounds_toArray, List.set_cons_zero, List.set_cons_succ]) | (refine wpPlanA_soft _ ?_ rfl (by rfl) ?_ ?_; rotate_left; (intro wq hq hcq; go_simp; first | exact rfl | exact ⟨rfl, rfl⟩); simp only [Act.put, List.setIfInBounds_toArray, List.set_cons_zero, List.set_cons_succ]))
       as_aux_lemma =>
        iterate 14 (first | (refine wpPlanA_skip _ rfl (by rfl) ?_; simp only [Act.put, List.setIfInBounds_toArray, List.set_cons_zero, List.set_cons_succ]) | (refine wpPlanA_soft _ ?_ rfl (by rfl) ?_ ?_; rotate_left; (intro wq hq hcq; go_simp; first | exact rfl | exact ⟨rfl, rfl⟩); simp only [Act.put, List.setIfInBounds_toArray, List.set_cons_zero, List.set_cons_succ]))
        as_aux_lemma =>
         iterate 14 (first | (refine wpPlanA_skip _ rfl (by rfl) ?_; simp only [Act.put, List.setIfInBounds_toArray, List.set_cons_zero, List.set_cons_succ]) | (refine wpPlanA_soft _ ?_ rfl (by rfl) ?_ ?_; rotate_left; (intro wq hq hcq; go_simp; first | exact rfl | exact ⟨rfl, rfl⟩); simp only [Act.put, List.setIfInBounds_toArray, List.set_cons_zero, List.set_cons_succ]))
         as_aux_lemma =>
          repeat (first | (refine wpPlanA_skip _ rfl (by rfl) ?_; simp only [Act.put, List.setIfInBounds_toArray, List.set_cons_zero, List.set_cons_succ]) | (refine wpPlanA_soft _ ?_ rfl (by rfl) ?_ ?_; rotate_left; (intro wq hq hcq; go_simp; first | exact rfl | exact ⟨rfl, rfl⟩); simp only [Act.put, List.setIfInBounds_toArray, List.set_cons_zero, List.set_cons_succ]))
          clear qts qtd qos qy0 qyk
          refine wpPlanA_hard _ rfl (by rfl) (fun w19 hS K hK => ?_)
          go_simp
          refine (c20r c r A n cap l _ hl (H.below hS)).mono ?_
          rintro e w20 ⟨B4, cb4, rfl, hr4, hb⟩
          replace hS := hS.call hb rfl
          have hB20 := hB18.call hS rfl
          replace hC := hC.call hS rfl
          replace hT0 := blkb hT0 hS
          replace hT1 := blkb hT1 hS
          replace H := H.below hS
          replace HW := HW.below hS
          replace hst := hst.below hS
          replace hTs := hTs.below hS
          replace hOd := hOd.below hS
          replace hY1 := hY1.below hS
          refine hK _ _ hC ?_
          clear hS hb hB18 hK K
          try simp only [Act.put, List.setIfInBounds_toArray, List.set_cons_zero, List.set_cons_succ]
          refine wpPlanA_hard _ rfl (by rfl) (fun w21 hS K hK => ?_)
          go_simp
          refine (c22r _ n _ t _ hl (hTs.below hS)).mono ?_
          rintro e w22 ⟨D5, dc5, rfl, hd5, hb⟩
          replace hS := hS.call hb rfl
          have hB22 := hB20.call hS rfl
          replace hC := hC.call hS rfl
          replace hT0 := blkb hT0 hS
          replace hT1 := blkb hT1 hS
          replace H := H.below hS
          replace HW := HW.below hS
          replace hst := hst.below hS
          replace hTs := hTs.below hS
          replace hOd := hOd.below hS
          replace hY1 := hY1.below hS
          replace hr4 := hr4.below hS
          refine hK _ _ hC ?_
          clear hS hb hB20 hK K
          try simp only [Act.put, List.setIfInBounds_toArray, List.set_cons_zero, List.set_cons_succ]
          refine wpPlanA_hard _ rfl (by rfl) (fun w23 hS K hK => ?_)
          go_simp
          refine (K75.out _ _ _ _ _ (hr4.below hS) (hd5.below hS) (hst.below hS)).mono ?_
          rintro e w24 ⟨rfl, hb⟩
          replace hS := hS.call hb rfl
          have hB24 := hB22.call hS rfl
          replace hC := hC.call hS rfl
          replace hT0 := blkb hT0 hS
          replace hT1 := blkb hT1 hS
          replace H := H.below hS
          replace HW := HW.below hS
          replace hst := hst.below hS
          replace hTs := hTs.below hS
          replace hOd := hOd.below hS
          replace hY1 := hY1.below hS
          replace hr4 := hr4.below hS
          replace hd5 := hd5.below hS
          refine hK _ _ hC ?_
          clear hS hb hB22 hK K
          try simp only [Act.put, List.setIfInBounds_toArray, List.set_cons_zero, List.set_cons_succ]
          repeat (first | (refine wpPlanA_skip _ rfl (by rfl) ?_; simp only [Act.put, List.setIfInBounds_toArray, List.set_cons_zero, List.set_cons_succ]) | (refine wpPlanA_soft _ ?_ rfl (by rfl) ?_ ?_; rotate_left; (intro wq hq hcq; go_simp; first | exact rfl | exact ⟨rfl, rfl⟩); simp only [Act.put, List.setIfInBounds_toArray, List.set_cons_zero, List.set_cons_succ]))
          clear hr4
          clear hd5
          clear qhT0_0 qhT0_1 qhT0_2 qhT1_0 qhT1_1 qhT1_2 qhT1_3 qhT1_4
          refine wpPlanA_nil (fun w25 hS => ?_)
          clear hC zhT0 zhT1
          have hB25 := hB24.call hS rfl
          replace hT0 := blkb hT0 hS
          replace hT1 := blkb hT1 hS
          replace H := H.below hS
          replace HW := HW.below hS
          replace hst := hst.below hS
          replace hTs := hTs.below hS
          replace hOd := hOd.below hS
          replace hY1 := hY1.below hS
          clear hS hB24
          have qhT0_0 : w25.cell? ⟨w.heap.size, 0, none⟩ = some (.int .i64 c) := cell_at hT0 rfl
          have qhT0_1 : w25.cell? ⟨w.heap.size, 1, none⟩ = some (.int .i64 r) := cell_at hT0 rfl
          have qhT0_2 : w25.cell? ⟨w.heap.size, 2, none⟩ = some (.slice A n cap) := cell_at hT0 rfl
          have qhT1_0 : w25.cell? ⟨w.heap.size + 1, 0, none⟩ = some (.int .i64 s) := cell_at hT1 rfl
          have qhT1_1 : w25.cell? ⟨w.heap.size + 1, 1, none⟩ = some (.int .i64 d) := cell_at hT1 rfl
          have qhT1_2 : w25.cell? ⟨w.heap.size + 1, 2, none⟩ = some (.slice WA wn wc) := cell_at hT1 rfl
          have qhT1_3 : w25.cell? ⟨w.heap.size + 1, 3, none⟩ = some (.slice PA pn pc) := cell_at hT1 rfl
          have qhT1_4 : w25.cell? ⟨w.heap.size + 1, 4, none⟩ = some (.slice TA tn tc) := cell_at hT1 rfl
          as_aux_lemma =>
           go_wp2_with fail
           refine (c20r c r A n cap l _ hl H).mono ?_
           rintro e w26 ⟨B6, cb6, rfl, hr6, hb⟩
           clear qhT0_0 qhT0_1 qhT0_2 qhT1_0 qhT1_1 qhT1_2 qhT1_3 qhT1_4
           have hS := hb
           have hB26 := hB25.call hS rfl
           replace hT0 := blkb hT0 hS
           replace hT1 := blkb hT1 hS
           replace H := H.below hS
           replace HW := HW.below hS
           replace hst := hst.below hS
           replace hTs := hTs.below hS
           replace hOd := hOd.below hS
           replace hY1 := hY1.below hS
           clear hS hB25
           have qhT0_0 : w26.cell? ⟨w.heap.size, 0, none⟩ = some (.int .i64 c) := cell_at hT0 rfl
           have qhT0_1 : w26.cell? ⟨w.heap.size, 1, none⟩ = some (.int .i64 r) := cell_at hT0 rfl
           have qhT0_2 : w26.cell? ⟨w.heap.size, 2, none⟩ = some (.slice A n cap) := cell_at hT0 rfl
           have qhT1_0 : w26.cell? ⟨w.heap.size + 1, 0, none⟩ = some (.int .i64 s) := cell_at hT1 rfl
           have qhT1_1 : w26.cell? ⟨w.heap.size + 1, 1, none⟩ = some (.int .i64 d) := cell_at hT1 rfl
           have qhT1_2 : w26.cell? ⟨w.heap.size + 1, 2, none⟩ = some (.slice WA wn wc) := cell_at hT1 rfl
           have qhT1_3 : w26.cell? ⟨w.heap.size + 1, 3, none⟩ = some (.slice PA pn pc) := cell_at hT1 rfl
           have qhT1_4 : w26.cell? ⟨w.heap.size + 1, 4, none⟩ = some (.slice TA tn tc) := cell_at hT1 rfl
           clear hb
           go_wp2_with fail
           refine (c22r _ k _ wy _ (by omega) hY1).mono ?_
           rintro e w27 ⟨D7, dc7, rfl, hd7, hb⟩
           clear qhT0_0 qhT0_1 qhT0_2 qhT1_0 qhT1_1 qhT1_2 qhT1_3 qhT1_4
           have hS := hb
           have hB27 := hB26.call hS rfl
           replace hT0 := blkb hT0 hS
           replace hT1 := blkb hT1 hS
           replace H := H.below hS
           replace HW := HW.below hS
           replace hst := hst.below hS
           replace hTs := hTs.below hS
           replace hOd := hOd.below hS
           replace hY1 := hY1.below hS
           replace hr6 := hr6.below hS
           clear hS hB26
           have qhT0_0 : w27.cell? ⟨w.heap.size, 0, none⟩ = some (.int .i64 c) := cell_at hT0 rfl
           have qhT0_1 : w27.cell? ⟨w.heap.size, 1, none⟩ = some (.int .i64 r) := cell_at hT0 rfl
           have qhT0_2 : w27.cell? ⟨w.heap.size, 2, none⟩ = some (.slice A n cap) := cell_at hT0 rfl
           have qhT1_0 : w27.cell? ⟨w.heap.size + 1, 0, none⟩ = some (.int .i64 s) := cell_at hT1 rfl
           have qhT1_1 : w27.cell? ⟨w.heap.size + 1, 1, none⟩ = some (.int .i64 d) := cell_at hT1 rfl
           have qhT1_2 : w27.cell? ⟨w.heap.size + 1, 2, none⟩ = some (.slice WA wn wc) := cell_at hT1 rfl
           have qhT1_3 : w27.cell? ⟨w.heap.size + 1, 3, none⟩ = some (.slice PA pn pc) := cell_at hT1 rfl
           have qhT1_4 : w27.cell? ⟨w.heap.size + 1, 4, none⟩ = some (.slice TA tn tc) := cell_at hT1 rfl
           clear hb
           go_wp2_with fail
           refine (K73.out _ _ _ _ _ hr6 hd7 hst).mono ?_
           rintro e w28 ⟨rfl, hb⟩
           clear qhT0_0 qhT0_1 qhT0_2 qhT1_0 qhT1_1 qhT1_2 qhT1_3 qhT1_4
           have hS := hb
           have hB28 := hB27.call hS rfl
           replace hT0 := blkb hT0 hS
           replace hT1 := blkb hT1 hS
           replace H := H.below hS
           replace HW := HW.below hS
           replace hst := hst.below hS
           replace hTs := hTs.below hS
           replace hOd := hOd.below hS
           replace hY1 := hY1.below hS
           replace hr6 := hr6.below hS
           replace hd7 := hd7.below hS
           clear hS hB27
           have qhT0_0 : w28.cell? ⟨w.heap.size, 0, none⟩ = some (.int .i64 c) := cell_at hT0 rfl
           have qhT0_1 : w28.cell? ⟨w.heap.size, 1, none⟩ = some (.int .i64 r) := cell_at hT0 rfl
           have qhT0_2 : w28.cell? ⟨w.heap.size, 2, none⟩ = some (.slice A n cap) := cell_at hT0 rfl
           have qhT1_0 : w28.cell? ⟨w.heap.size + 1, 0, none⟩ = some (.int .i64 s) := cell_at hT1 rfl
           have qhT1_1 : w28.cell? ⟨w.heap.size + 1, 1, none⟩ = some (.int .i64 d) := cell_at hT1 rfl
           have qhT1_2 : w28.cell? ⟨w.heap.size + 1, 2, none⟩ = some (.slice WA wn wc) := cell_at hT1 rfl
           have qhT1_3 : w28.cell? ⟨w.heap.size + 1, 3, none⟩ = some (.slice PA pn pc) := cell_at hT1 rfl
           have qhT1_4 : w28.cell? ⟨w.heap.size + 1, 4, none⟩ = some (.slice TA tn tc) := cell_at hT1 rfl
           clear hb
           clear hr6
           clear hd7
           go_wp2_with fail
           refine wp_region_plan [(0, true), (2, true), (3, true), (4, true), (5, true), (6, true), (1, false), (7, false), (8, false), (9, true), (10, true), (11, true), (12, true), (13, true)] w28.heap.size (by kernel_rfl) (by kernel_rfl) (Nat.le_refl _) (fun _ _ d _ _ h => by cases d <;> exact h) ?_
           have hC : Below w28.heap.size w28 w28 := Below.refl _ _
           have zhT0 : w.heap.size < w28.heap.size := (Array.getElem?_eq_some_iff.1 hT0).1
           have zhT1 : w.heap.size + 1 < w28.heap.size := (Array.getElem?_eq_some_iff.1 hT1).1
           repeat (first | (refine wpPlanA_skip _ rfl (by rfl) ?_; simp only [Act.put, List.setIfInBounds_toArray, List.set_cons_zero, List.set_cons_succ]) | (refine wpPlanA_soft _ ?_ rfl (by rfl) ?_ ?_; rotate_left; (intro wq hq hcq; go_simp; first | exact rfl | exact ⟨rfl, rfl⟩); simp only [Act.put, List.setIfInBounds_toArray, List.set_cons_zero, List.set_cons_succ]))
           refine wpPlanA_hard _ rfl (by rfl) (fun w29 hS K hK => ?_)
           go_simp
           refine (c20r c r A n cap l _ hl (H.below hS)).mono ?_
           rintro e w30 ⟨B8, cb8, rfl, hr8, hb⟩
           replace hS := hS.call hb rfl
           have hB30 := hB28.call hS rfl
           replace hC := hC.call hS rfl
           replace hT0 := blkb hT0 hS
           replace hT1 := blkb hT1 hS
           replace H := H.below hS
           replace HW := HW.below hS
           replace hst := hst.below hS
           replace hTs := hTs.below hS
           replace hOd := hOd.below hS
           replace hY1 := hY1.below hS
           refine hK _ _ hC ?_
           clear hS hb hB28 hK K
           try simp only [Act.put, List.setIfInBounds_toArray, List.set_cons_zero, List.set_cons_succ]
           refine wpPlanA_hard _ rfl (by rfl) (fun w31 hS K hK => ?_)
           go_simp
           refine (c22r _ n _ t _ hl (hTs.below hS)).mono ?_
           rintro e w32 ⟨D9, dc9, rfl, hd9, hb⟩
           replace hS := hS.call hb rfl
           have hB32 := hB30.call hS rfl
           replace hC := hC.call hS rfl
           replace hT0 := blkb hT0 hS
           replace hT1 := blkb hT1 hS
           replace H := H.below hS
           replace HW := HW.below hS
           replace hst := hst.below hS
           replace hTs := hTs.below hS
           replace hOd := hOd.below hS
           replace hY1 := hY1.below hS
           replace hr8 := hr8.below hS
           refine hK _ _ hC ?_
           clear hS hb hB30 hK K
           try simp only [Act.put, List.setIfInBounds_toArray, List.set_cons_zero, List.set_cons_succ]
           refine wpPlanA_hard _ rfl (by rfl) (fun w33 hS K hK => ?_)
           go_simp
           refine (K74.out _ _ _ _ _ (hr8.below hS) (hd9.below hS) (hst.below hS)).mono ?_
           rintro e w34 ⟨rfl, hb⟩
           replace hS := hS.call hb rfl
           have hB34 := hB32.call hS rfl
           replace hC := hC.call hS rfl
           replace hT0 := blkb hT0 hS
           replace hT1 := blkb hT1 hS
           replace H := H.below hS
           replace HW := HW.below hS
           replace hst := hst.below hS
           replace hTs := hTs.below hS
           replace hOd := hOd.below hS
           replace hY1 := hY1.below hS
           replace hr8 := hr8.below hS
           replace hd9 := hd9.below hS
           refine hK _ _ hC ?_
           clear hS hb hB32 hK K
           try simp only [Act.put, List.setIfInBounds_toArray, List.set_cons_zero, List.set_cons_succ]
           repeat (first | (refine wpPlanA_skip _ rfl (by rfl) ?_; simp only [Act.put, List.setIfInBounds_toArray, List.set_cons_zero, List.set_cons_succ]) | (refine wpPlanA_soft _ ?_ rfl (by rfl) ?_ ?_; rotate_left; (intro wq hq hcq; go_simp; first | exact rfl | exact ⟨rfl, rfl⟩); simp only [Act.put, List.setIfInBounds_toArray, List.set_cons_zero, List.set_cons_succ]))
           clear hr8
           clear hd9
           clear qhT0_0 qhT0_1 qhT0_2 qhT1_0 qhT1_1 qhT1_2 qhT1_3 qhT1_4
           refine wpPlanA_nil (fun w35 hS => ?_)
           clear hC zhT0 zhT1
           have hB35 := hB34.call hS rfl
           replace hT0 := blkb hT0 hS
           replace hT1 := blkb hT1 hS
           replace H := H.below hS
           replace HW := HW.below hS
           replace hst := hst.below hS
           replace hTs := hTs.below hS
           replace hOd := hOd.below hS
           replace hY1 := hY1.below hS
           clear hS hB34
           have qhT0_0 : w35.cell? ⟨w.heap.size, 0, none⟩ = some (.int .i64 c) := cell_at hT0 rfl
           have qhT0_1 : w35.cell? ⟨w.heap.size, 1, none⟩ = some (.int .i64 r) := cell_at hT0 rfl
           have qhT0_2 : w35.cell? ⟨w.heap.size, 2, none⟩ = some (.slice A n cap) := cell_at hT0 rfl
           have qhT1_0 : w35.cell? ⟨w.heap.size + 1, 0, none⟩ = some (.int .i64 s) := cell_at hT1 rfl
           have qhT1_1 : w35.cell? ⟨w.heap.size + 1, 1, none⟩ = some (.int .i64 d) := cell_at hT1 rfl
           have qhT1_2 : w35.cell? ⟨w.heap.size + 1, 2, none⟩ = some (.slice WA wn wc) := cell_at hT1 rfl
           have qhT1_3 : w35.cell? ⟨w.heap.size + 1, 3, none⟩ = some (.slice PA pn pc) := cell_at hT1 rfl
           have qhT1_4 : w35.cell? ⟨w.heap.size + 1, 4, none⟩ = some (.slice TA tn tc) := cell_at hT1 rfl
           go_wp2_with fail
           refine wp_region_plan [(0, true), (2, true), (3, true), (1, false), (4, false), (5, false), (6, true), (7, true), (8, true), (9, true), (10, true)] w35.heap.size (by kernel_rfl) (by kernel_rfl) (Nat.le_refl _) (fun _ _ d _ _ h => by cases d <;> exact h) ?_
           have hC : Below w35.heap.size w35 w35 := Below.refl _ _
           have zhT0 : w.heap.size < w35.heap.size := (Array.getElem?_eq_some_iff.1 hT0).1
           have zhT1 : w.heap.size + 1 < w35.heap.size := (Array.getElem?_eq_some_iff.1 hT1).1
           repeat (first | (refine wpPlanA_skip _ rfl (by rfl) ?_; simp only [Act.put, List.setIfInBounds_toArray, List.set_cons_zero, List.set_cons_succ]) | (refine wpPlanA_soft _ ?_ rfl (by rfl) ?_ ?_; rotate_left; (intro wq hq hcq; go_simp; first | exact rfl | exact ⟨rfl, rfl⟩); simp only [Act.put, List.setIfInBounds_toArray, List.set_cons_zero, List.set_cons_succ]))
           refine wpPlanA_hard _ rfl (by rfl) (fun w36 hS K hK => ?_)
           go_simp
           refine (c20r c r A n cap l _ hl (H.below hS)).mono ?_
           rintro e w37 ⟨B10, cb10, rfl, hr10, hb⟩
           replace hS := hS.call hb rfl
           have hB37 := hB35.call hS rfl
           replace hC := hC.call hS rfl
           replace hT0 := blkb hT0 hS
           replace hT1 := blkb hT1 hS
           replace H := H.below hS
           replace HW := HW.below hS
           replace hst := hst.below hS
           replace hTs := hTs.below hS
           replace hOd := hOd.below hS
           replace hY1 := hY1.below hS
           refine hK _ _ hC ?_
           clear hS hb hB35 hK K
           try simp only [Act.put, List.setIfInBounds_toArray, List.set_cons_zero, List.set_cons_succ]
           refine wpPlanA_hard _ rfl (by rfl) (fun w38 hS K hK => ?_)
           go_simp
           refine (c22r WA wn wc wl _ hwn (HW.below hS)).mono ?_
           rintro e w39 ⟨D11, dc11, rfl, hd11, hb⟩
           replace hS := hS.call hb rfl
           have hB39 := hB37.call hS rfl
           replace hC := hC.call hS rfl
           replace hT0 := blkb hT0 hS
           replace hT1 := blkb hT1 hS
           replace H := H.below hS
           replace HW := HW.below hS
           replace hst := hst.below hS
           replace hTs := hTs.below hS
           replace hOd := hOd.below hS
           replace hY1 := hY1.below hS
           replace hr10 := hr10.below hS
           refine hK _ _ hC ?_
           clear hS hb hB37 hK K
           try simp only [Act.put, List.setIfInBounds_toArray, List.set_cons_zero, List.set_cons_succ]
           refine wpPlanA_hard _ rfl (by rfl) (fun w40 hS K hK => ?_)
           go_simp
           refine (K73g.out _ _ _ _ _ (hr10.below hS) (hd11.below hS) (hst.below hS)).mono ?_
           rintro e w41 ⟨rfl, hb⟩
           replace hS := hS.call hb rfl
           have hB41 := hB39.call hS rfl
           replace hC := hC.call hS rfl
           replace hT0 := blkb hT0 hS
           replace hT1 := blkb hT1 hS
           replace H := H.below hS
           replace HW := HW.below hS
           replace hst := hst.below hS
           replace hTs := hTs.below hS
           replace hOd := hOd.below hS
           replace hY1 := hY1.below hS
           replace hr10 := hr10.below hS
           replace hd11 := hd11.below hS
           refine hK _ _ hC ?_
           clear hS hb hB39 hK K
           try simp only [Act.put, List.setIfInBounds_toArray, List.set_cons_zero, List.set_cons_succ]
           repeat (first | (refine wpPlanA_skip _ rfl (by rfl) ?_; simp only [Act.put, List.setIfInBounds_toArray, List.set_cons_zero, List.set_cons_succ]) | (refine wpPlanA_soft _ ?_ rfl (by rfl) ?_ ?_; rotate_left; (intro wq hq hcq; go_simp; first | exact rfl | exact ⟨rfl, rfl⟩); simp only [Act.put, List.setIfInBounds_toArray, List.set_cons_zero, List.set_cons_succ]))
           clear hr10
           clear hd11
           clear qhT0_0 qhT0_1 qhT0_2 qhT1_0 qhT1_1 qhT1_2 qhT1_3 qhT1_4
           refine wpPlanA_nil (fun w42 hS => ?_)
           clear hC zhT0 zhT1
           have hB42 := hB41.call hS rfl
           replace hT0 := blkb hT0 hS
           replace hT1 := blkb hT1 hS
           replace H := H.below hS
           replace HW := HW.below hS
           replace hst := hst.below hS
           replace hTs := hTs.below hS
           replace hOd := hOd.below hS
           replace hY1 := hY1.below hS
           clear hS hB41
           have qhT0_0 : w42.cell? ⟨w.heap.size, 0, none⟩ = some (.int .i64 c) := cell_at hT0 rfl
           have qhT0_1 : w42.cell? ⟨w.heap.size, 1, none⟩ = some (.int .i64 r) := cell_at hT0 rfl
           have qhT0_2 : w42.cell? ⟨w.heap.size, 2, none⟩ = some (.slice A n cap) := cell_at hT0 rfl
           have qhT1_0 : w42.cell? ⟨w.heap.size + 1, 0, none⟩ = some (.int .i64 s) := cell_at hT1 rfl
           have qhT1_1 : w42.cell? ⟨w.heap.size + 1, 1, none⟩ = some (.int .i64 d) := cell_at hT1 rfl
           have qhT1_2 : w42.cell? ⟨w.heap.size + 1, 2, none⟩ = some (.slice WA wn wc) := cell_at hT1 rfl
           have qhT1_3 : w42.cell? ⟨w.heap.size + 1, 3, none⟩ = some (.slice PA pn pc) := cell_at hT1 rfl
           have qhT1_4 : w42.cell? ⟨w.heap.size + 1, 4, none⟩ = some (.slice TA tn tc) := cell_at hT1 rfl
           as_aux_lemma =>
            by_cases hE : E = 0
            focus
              have hgz := KG.out hE
              subst hE
              obtain ⟨hm1, a, z, ha, hz, hua, huz, kb⟩ := hgz
              have KB := Lib.hid kb
              clear kb
              obtain ⟨wb, wo, hWA, zw⟩ := HW.form (by omega)
              have HWA := Lib.hid hWA
              rw [hWA] at hT1
              have HWf := HW
              rw [hWA] at HWf
              clear hWA zw
              have ha2 : (a : Int) < (n : Int) := by omega
              have hz2 : (z : Int) < (n : Int) := by omega
              have hz0 : (0 : Int) ≤ (z : Int) := by omega
              obtain ⟨kw, hkw⟩ : ∃ j, j = wn - 1 := ⟨_, rfl⟩
              rw [← hkw] at huz
              have hwn0 : 0 < wn := by omega
              have hwn1 : (0 : Int) < (wn : Int) := by omega
              have hkwn : kw < wn := by omega
              have hkwi : (kw : Int) < (wn : Int) := by omega
              have hkw0 : (0 : Int) ≤ (kw : Int) := by omega
              have hwkw : IntKind.i64.wrap ((wn : Int) - 1) = (kw : Int) := by rw [wrapI (by omega)]; omega
              have HUA := Lib.hid hua
              have HUZ := Lib.hid huz
              clear hua huz hkw
              clear qhT0_0 qhT0_1 qhT0_2 qhT1_0 qhT1_1 qhT1_2 qhT1_3 qhT1_4
              have qhT0_0 : w42.cell? ⟨w.heap.size, 0, none⟩ = some (.int .i64 c) := cell_at hT0 rfl
              have qhT0_1 : w42.cell? ⟨w.heap.size, 1, none⟩ = some (.int .i64 r) := cell_at hT0 rfl
              have qhT0_2 : w42.cell? ⟨w.heap.size, 2, none⟩ = some (.slice A n cap) := cell_at hT0 rfl
              have qhT1_0 : w42.cell? ⟨w.heap.size + 1, 0, none⟩ = some (.int .i64 s) := cell_at hT1 rfl
              have qhT1_1 : w42.cell? ⟨w.heap.size + 1, 1, none⟩ = some (.int .i64 d) := cell_at hT1 rfl
              have qhT1_2 : w42.cell? ⟨w.heap.size + 1, 2, none⟩ = some (.slice (some ⟨wb, wo, none⟩) wn wc) := cell_at hT1 rfl
              have qhT1_3 : w42.cell? ⟨w.heap.size + 1, 3, none⟩ = some (.slice PA pn pc) := cell_at hT1 rfl
              have qhT1_4 : w42.cell? ⟨w.heap.size + 1, 4, none⟩ = some (.slice TA tn tc) := cell_at hT1 rfl
              have qwa := HWf.get (k := 0) hwn0
              have zwa := cell_lt qwa
              rw [HUA.out, Nat.add_zero] at qwa
              go_wp2_with fail
              refine wp_region_plan [(0, true), (2, true), (3, true), (4, true), (5, true), (1, false), (6, false), (7, true), (8, true), (9, true), (10, true), (11, true)] w42.heap.size (by kernel_rfl) (by kernel_rfl) (Nat.le_refl _) (fun _ _ d _ _ h => by cases d <;> exact h) ?_
              have hC : Below w42.heap.size w42 w42 := Below.refl _ _
              have zhT0 : w.heap.size < w42.heap.size := (Array.getElem?_eq_some_iff.1 hT0).1
              have zhT1 : w.heap.size + 1 < w42.heap.size := (Array.getElem?_eq_some_iff.1 hT1).1
              repeat (first | (refine wpPlanA_skip _ rfl (by rfl) ?_; simp only [Act.put, List.setIfInBounds_toArray, List.set_cons_zero, List.set_cons_succ]) | (refine wpPlanA_soft _ ?_ rfl (by rfl) ?_ ?_; rotate_left; (intro wq hq hcq; go_simp; first | exact rfl | exact ⟨rfl, rfl⟩); simp only [Act.put, List.setIfInBounds_toArray, List.set_cons_zero, List.set_cons_succ]))
              clear qwa zwa
              refine wpPlanA_hard _ rfl (by rfl) (fun w43 hS K hK => ?_)
              go_simp
              refine (c20r c r A n cap l _ hl (H.below hS)).mono ?_
              rintro e w44 ⟨B12, cb12, rfl, hr12, hb⟩
              replace hS := hS.call hb rfl
              have hB44 := hB42.call hS rfl
              replace hC := hC.call hS rfl
              replace hT0 := blkb hT0 hS
              replace hT1 := blkb hT1 hS
              replace H := H.below hS
              replace HW := HW.below hS
              replace hst := hst.below hS
              replace hTs := hTs.below hS
              replace hOd := hOd.below hS
              replace hY1 := hY1.below hS
              replace HWf := HWf.below hS
              refine hK _ _ hC ?_
              clear hS hb hB42 hK K
              try simp only [Act.put, List.setIfInBounds_toArray, List.set_cons_zero, List.set_cons_succ]
              refine wpPlanA_hard _ rfl (by rfl) (fun w45 hS K hK => ?_)
              go_simp
              refine (KB.out _ _ _ (hr12.below hS) (hst.below hS)).mono ?_
              rintro e w46 ⟨FB, fbc, bl, rfl, hBl, hbz, hb⟩
              replace hS := hS.call hb rfl
              have hB46 := hB44.call hS rfl
              replace hC := hC.call hS rfl
              replace hT0 := blkb hT0 hS
              replace hT1 := blkb hT1 hS
              replace H := H.below hS
              replace HW := HW.below hS
              replace hst := hst.below hS
              replace hTs := hTs.below hS
              replace hOd := hOd.below hS
              replace hY1 := hY1.below hS
              replace HWf := HWf.below hS
              replace hr12 := hr12.below hS
              refine hK _ _ hC ?_
              clear hS hb hB44 hK K
              try simp only [Act.put, List.setIfInBounds_toArray, List.set_cons_zero, List.set_cons_succ]
              repeat (first | (refine wpPlanA_skip _ rfl (by rfl) ?_; simp only [Act.put, List.setIfInBounds_toArray, List.set_cons_zero, List.set_cons_succ]) | (refine wpPlanA_soft _ ?_ rfl (by rfl) ?_ ?_; rotate_left; (intro wq hq hcq; go_simp; first | exact rfl | exact ⟨rfl, rfl⟩); simp only [Act.put, List.setIfInBounds_toArray, List.set_cons_zero, List.set_cons_succ]))
              clear hr12
              clear qhT0_0 qhT0_1 qhT0_2 qhT1_0 qhT1_1 qhT1_2 qhT1_3 qhT1_4
              refine wpPlanA_nil (fun w47 hS => ?_)
              clear hC zhT0 zhT1
              have hB47 := hB46.call hS rfl
              replace hT0 := blkb hT0 hS
              replace hT1 := blkb hT1 hS
              replace H := H.below hS
              replace HW := HW.below hS
              replace hst := hst.below hS
              replace hTs := hTs.below hS
              replace hOd := hOd.below hS
              replace hY1 := hY1.below hS
              replace HWf := HWf.below hS
              replace hBl := hBl.below hS
              clear hS hB46
              have qhT0_0 : w47.cell? ⟨w.heap.size, 0, none⟩ = some (.int .i64 c) := cell_at hT0 rfl
              have qhT0_1 : w47.cell? ⟨w.heap.size, 1, none⟩ = some (.int .i64 r) := cell_at hT0 rfl
              have qhT0_2 : w47.cell? ⟨w.heap.size, 2, none⟩ = some (.slice A n cap) := cell_at hT0 rfl
              have qhT1_0 : w47.cell? ⟨w.heap.size + 1, 0, none⟩ = some (.int .i64 s) := cell_at hT1 rfl
              have qhT1_1 : w47.cell? ⟨w.heap.size + 1, 1, none⟩ = some (.int .i64 d) := cell_at hT1 rfl
              have qhT1_2 : w47.cell? ⟨w.heap.size + 1, 2, none⟩ = some (.slice (some ⟨wb, wo, none⟩) wn wc) := cell_at hT1 rfl
              have qhT1_3 : w47.cell? ⟨w.heap.size + 1, 3, none⟩ = some (.slice PA pn pc) := cell_at hT1 rfl
              have qhT1_4 : w47.cell? ⟨w.heap.size + 1, 4, none⟩ = some (.slice TA tn tc) := cell_at hT1 rfl
              obtain ⟨fb, fo, rfl, zf⟩ := hBl.form (by omega)
              have qbz := hBl.get hz
              have qwz := HWf.get (k := kw) hkwn
              rw [HUZ.out] at qwz
              generalize Im.at0 bl z = bz at qbz hbz
              have hVb : decide (V < bz) = false := by simpa using hbz
              clear hbz
              go_wp2_with fail
              clear qhT0_0 qhT0_1 qhT0_2 qhT1_0 qhT1_1 qhT1_2 qhT1_3 qhT1_4
              clear qbz qwz hVb zf hBl HWf
              rw [← HWA.out] at hT1
              clear HWA HUA HUZ KB
              obtain ⟨wM, hwM⟩ : ∃ W, W = w47 := ⟨_, rfl⟩
              subst hwM
              have hBM := hB47
              clear hB47
            rotate_left
            focus
              have hef : (E == 0) = false := by simpa using hE
              clear hE
              go_wp2_with fail
              clear qhT0_0 qhT0_1 qhT0_2 qhT1_0 qhT1_1 qhT1_2 qhT1_3 qhT1_4
              clear hef
              obtain ⟨wM, hwM⟩ : ∃ W, W = w42 := ⟨_, rfl⟩
              subst hwM
              have hBM := hB42
              clear hB42
            rotate_left
            all_goals
             as_aux_lemma =>
              obtain ⟨w100, hww⟩ : ∃ W, W = wM := ⟨_, rfl⟩
              subst hww
              have hB100 := hBM
              clear hBM
              have qhT0_0 : w100.cell? ⟨w.heap.size, 0, none⟩ = some (.int .i64 c) := cell_at hT0 rfl
              have qhT0_1 : w100.cell? ⟨w.heap.size, 1, none⟩ = some (.int .i64 r) := cell_at hT0 rfl
              have qhT0_2 : w100.cell? ⟨w.heap.size, 2, none⟩ = some (.slice A n cap) := cell_at hT0 rfl
              have qhT1_0 : w100.cell? ⟨w.heap.size + 1, 0, none⟩ = some (.int .i64 s) := cell_at hT1 rfl
              have qhT1_1 : w100.cell? ⟨w.heap.size + 1, 1, none⟩ = some (.int .i64 d) := cell_at hT1 rfl
              have qhT1_2 : w100.cell? ⟨w.heap.size + 1, 2, none⟩ = some (.slice WA wn wc) := cell_at hT1 rfl
              have qhT1_3 : w100.cell? ⟨w.heap.size + 1, 3, none⟩ = some (.slice PA pn pc) := cell_at hT1 rfl
              have qhT1_4 : w100.cell? ⟨w.heap.size + 1, 4, none⟩ = some (.slice TA tn tc) := cell_at hT1 rfl
              go_loopw [250] (fun i wr => ∃ j : Nat, j ≤ n ∧ i = .int .i64 j ∧ Below w100.heap.size w100 wr) (fun i _ => n - (intOf i).toNat)
              case atStart => exact ⟨0, Nat.zero_le _, rfl, Below.refl _ _⟩
              case round =>
               obtain ⟨j, hj, rfl, hbr⟩ := hrel
               obtain ⟨w101, hww⟩ : ∃ W, W = wr := ⟨_, rfl⟩
               subst hww
               have hB101 := hB100.call hbr rfl
               replace hT0 := blkb hT0 hbr
               replace hT1 := blkb hT1 hbr
               replace H := H.below hbr
               replace HW := HW.below hbr
               replace hst := hst.below hbr
               replace hTs := hTs.below hbr
               replace hOd := hOd.below hbr
               replace hY1 := hY1.below hbr
               clear hB100
               have qhT0_0 : w101.cell? ⟨w.heap.size, 0, none⟩ = some (.int .i64 c) := cell_at hT0 rfl
               have qhT0_1 : w101.cell? ⟨w.heap.size, 1, none⟩ = some (.int .i64 r) := cell_at hT0 rfl
               have qhT0_2 : w101.cell? ⟨w.heap.size, 2, none⟩ = some (.slice A n cap) := cell_at hT0 rfl
               have qhT1_0 : w101.cell? ⟨w.heap.size + 1, 0, none⟩ = some (.int .i64 s) := cell_at hT1 rfl
               have qhT1_1 : w101.cell? ⟨w.heap.size + 1, 1, none⟩ = some (.int .i64 d) := cell_at hT1 rfl
               have qhT1_2 : w101.cell? ⟨w.heap.size + 1, 2, none⟩ = some (.slice WA wn wc) := cell_at hT1 rfl
               have qhT1_3 : w101.cell? ⟨w.heap.size + 1, 3, none⟩ = some (.slice PA pn pc) := cell_at hT1 rfl
               have qhT1_4 : w101.cell? ⟨w.heap.size + 1, 4, none⟩ = some (.slice TA tn tc) := cell_at hT1 rfl
               have hwk : IntKind.i64.wrap ((j : Int) + 1) = ((j + 1 : Nat) : Int) := by rw [wrapI (by omega)]; simp
               by_cases hlt : j < n
               ·
                 have hlt2 : (j : Int) < (n : Int) := by omega
                 have hj0 : (0 : Int) ≤ (j : Int) := by omega
                 have qtj := hTs.get hlt
                 have qoj := hOd.get hlt
                 have zt2 := cell_lt qtj
                 have zo2 := cell_lt qoj
                 have hxy := HTR.out j hlt
                 have KW := Lib.hid (K75w.out j hlt)
                 generalize hX : Im.at0 t j = x at qtj hxy KW
                 have HX := Lib.hid hX
                 generalize Im.at0 o j = y at qoj hxy
                 have hw1 : IntKind.i64.wrap (N + y) = N + y := wrapI (by omega)
                 have hw2 : IntKind.i64.wrap (x + y) = x + y := wrapI (by omega)
                 have hd1 : decide (x < 0) = false := by simp; omega
                 have hd2 : decide (N + y < x) = false := by simp; omega
                 have hd3 : decide (x + y < N) = false := by simp; omega
                 have HXR : Hid (0 ≤ x ∧ x ≤ 20000) := Lib.hid (by omega)
                 clear hX hxy
                 go_wp2_with fail
                 refine wp_region_plan [(0, true), (1, true), (2, true), (3, true), (4, true), (5, true), (6, true), (7, true), (8, true), (9, true), (10, true), (11, true), (12, true), (13, true), (14, true), (15, true), (16, true), (17, true), (18, true), (19, true), (20, true), (21, true), (22, true), (23, true), (24, true), (25, true), (26, true), (27, true), (28, true), (29, true), (30, true)] w101.heap.size (by kernel_rfl) (by kernel_rfl) (Nat.le_refl _) (fun _ _ d _ _ h => by cases d <;> exact h) ?_
                 have hC : Below w101.heap.size w101 w101 := Below.refl _ _
                 have zhT0 : w.heap.size < w101.heap.size := (Array.getElem?_eq_some_iff.1 hT0).1
                 have zhT1 : w.heap.size + 1 < w101.heap.size := (Array.getElem?_eq_some_iff.1 hT1).1
                 repeat (first | (refine wpPlanA_skip _ rfl (by rfl) ?_; simp only [Act.put, List.setIfInBounds_toArray, List.set_cons_zero, List.set_cons_succ]) | (refine wpPlanA_soft _ ?_ rfl (by rfl) ?_ ?_; rotate_left; (intro wq hq hcq; go_simp; first | exact rfl | exact ⟨rfl, rfl⟩); simp only [Act.put, List.setIfInBounds_toArray, List.set_cons_zero, List.set_cons_succ]))
                 clear qtj qoj zt2 zo2
                 clear qhT0_0 qhT0_1 qhT0_2 qhT1_0 qhT1_1 qhT1_2 qhT1_3 qhT1_4
                 refine wpPlanA_nil (fun w102 hS => ?_)
                 clear hC zhT0 zhT1
                 have hB102 := hB101.call hS rfl
                 replace hT0 := blkb hT0 hS
                 replace hT1 := blkb hT1 hS
                 replace H := H.below hS
                 replace HW := HW.below hS
                 replace hst := hst.below hS
                 replace hTs := hTs.below hS
                 replace hOd := hOd.below hS
                 replace hY1 := hY1.below hS
                 replace hbr := hbr.call hS rfl
                 clear hS hB101
                 have qhT0_0 : w102.cell? ⟨w.heap.size, 0, none⟩ = some (.int .i64 c) := cell_at hT0 rfl
                 have qhT0_1 : w102.cell? ⟨w.heap.size, 1, none⟩ = some (.int .i64 r) := cell_at hT0 rfl
                 have qhT0_2 : w102.cell? ⟨w.heap.size, 2, none⟩ = some (.slice A n cap) := cell_at hT0 rfl
                 have qhT1_0 : w102.cell? ⟨w.heap.size + 1, 0, none⟩ = some (.int .i64 s) := cell_at hT1 rfl
                 have qhT1_1 : w102.cell? ⟨w.heap.size + 1, 1, none⟩ = some (.int .i64 d) := cell_at hT1 rfl
                 have qhT1_2 : w102.cell? ⟨w.heap.size + 1, 2, none⟩ = some (.slice WA wn wc) := cell_at hT1 rfl
                 have qhT1_3 : w102.cell? ⟨w.heap.size + 1, 3, none⟩ = some (.slice PA pn pc) := cell_at hT1 rfl
                 have qhT1_4 : w102.cell? ⟨w.heap.size + 1, 4, none⟩ = some (.slice TA tn tc) := cell_at hT1 rfl
                 clear hw1 hw2 hd1 hd2 hd3
                 go_wp2_with fail
                 obtain ⟨wQ, hwn⟩ : ∃ V, V = w102.alloc (Obj.cells #[.int .i64 (-1), .int .i64 1] 3) := ⟨_, rfl⟩
                 have hbn : Below w102.heap.size w102 wQ := by rw [hwn]; exact bl2 _ _
                 have hqq : wQ.heap[w102.heap.size]? = some (Obj.cells #[.int .i64 (-1), .int .i64 1] 3) := by rw [hwn]; exact heap_new rfl
                 rw [← hwn]
                 clear hwn
                 obtain ⟨bq, hbq⟩ : ∃ b, b = w102.heap.size := ⟨_, rfl⟩
                 rw [← hbq] at hqq ⊢
                 clear qhT0_0 qhT0_1 qhT0_2 qhT1_0 qhT1_1 qhT1_2 qhT1_3 qhT1_4
                 obtain ⟨w103, hww⟩ : ∃ W, W = wQ := ⟨_, rfl⟩
                 subst hww
                 have hB103 := hB102.call hbn rfl
                 replace hT0 := blkb hT0 hbn
                 replace hT1 := blkb hT1 hbn
                 replace H := H.below hbn
                 replace HW := HW.below hbn
                 replace hst := hst.below hbn
                 replace hTs := hTs.below hbn
                 replace hOd := hOd.below hbn
                 replace hY1 := hY1.below hbn
                 replace hbr := hbr.call hbn rfl
                 clear hbn hbq hB102
                 have qhT0_0 : w103.cell? ⟨w.heap.size, 0, none⟩ = some (.int .i64 c) := cell_at hT0 rfl
                 have qhT0_1 : w103.cell? ⟨w.heap.size, 1, none⟩ = some (.int .i64 r) := cell_at hT0 rfl
                 have qhT0_2 : w103.cell? ⟨w.heap.size, 2, none⟩ = some (.slice A n cap) := cell_at hT0 rfl
                 have qhT1_0 : w103.cell? ⟨w.heap.size + 1, 0, none⟩ = some (.int .i64 s) := cell_at hT1 rfl
                 have qhT1_1 : w103.cell? ⟨w.heap.size + 1, 1, none⟩ = some (.int .i64 d) := cell_at hT1 rfl
                 have qhT1_2 : w103.cell? ⟨w.heap.size + 1, 2, none⟩ = some (.slice WA wn wc) := cell_at hT1 rfl
                 have qhT1_3 : w103.cell? ⟨w.heap.size + 1, 3, none⟩ = some (.slice PA pn pc) := cell_at hT1 rfl
                 have qhT1_4 : w103.cell? ⟨w.heap.size + 1, 4, none⟩ = some (.slice TA tn tc) := cell_at hT1 rfl
                 have qhqq_0 : w103.cell? ⟨bq, 0, none⟩ = some (.int .i64 (-1)) := cell_at hqq rfl
                 have qhqq_1 : w103.cell? ⟨bq, 1, none⟩ = some (.int .i64 1) := cell_at hqq rfl
                 go_loopw [286] (fun i wr => ∃ (k : Nat) (z : Int), k ≤ 2 ∧ i = .int .i64 z ∧ z = k ∧ Below w103.heap.size w103 wr) (fun i _ => 2 - (intOf i).toNat)
                 case atStart => exact ⟨0, 0, Nat.zero_le _, rfl, rfl, Below.refl _ _⟩
                 case round =>
                  obtain ⟨k2, zz, hk2, rfl, hzz, hbs⟩ := hrel
                  obtain ⟨w104, hww⟩ : ∃ W, W = wr := ⟨_, rfl⟩
                  subst hww
                  have hB104 := hB103.call hbs rfl
                  replace hT0 := blkb hT0 hbs
                  replace hT1 := blkb hT1 hbs
                  replace H := H.below hbs
                  replace HW := HW.below hbs
                  replace hst := hst.below hbs
                  replace hTs := hTs.below hbs
                  replace hOd := hOd.below hbs
                  replace hY1 := hY1.below hbs
                  replace hbr := hbr.call hbs rfl
                  replace hqq := blkb hqq hbs
                  clear hB103
                  have qhT0_0 : w104.cell? ⟨w.heap.size, 0, none⟩ = some (.int .i64 c) := cell_at hT0 rfl
                  have qhT0_1 : w104.cell? ⟨w.heap.size, 1, none⟩ = some (.int .i64 r) := cell_at hT0 rfl
                  have qhT0_2 : w104.cell? ⟨w.heap.size, 2, none⟩ = some (.slice A n cap) := cell_at hT0 rfl
                  have qhT1_0 : w104.cell? ⟨w.heap.size + 1, 0, none⟩ = some (.int .i64 s) := cell_at hT1 rfl
                  have qhT1_1 : w104.cell? ⟨w.heap.size + 1, 1, none⟩ = some (.int .i64 d) := cell_at hT1 rfl
                  have qhT1_2 : w104.cell? ⟨w.heap.size + 1, 2, none⟩ = some (.slice WA wn wc) := cell_at hT1 rfl
                  have qhT1_3 : w104.cell? ⟨w.heap.size + 1, 3, none⟩ = some (.slice PA pn pc) := cell_at hT1 rfl
                  have qhT1_4 : w104.cell? ⟨w.heap.size + 1, 4, none⟩ = some (.slice TA tn tc) := cell_at hT1 rfl
                  have qhqq_0 : w104.cell? ⟨bq, 0, none⟩ = some (.int .i64 (-1)) := cell_at hqq rfl
                  have qhqq_1 : w104.cell? ⟨bq, 1, none⟩ = some (.int .i64 1) := cell_at hqq rfl
                  have hk3 : k2 = 2 ∨ k2 = 0 ∨ k2 = 1 := by omega
                  rcases hk3 with rfl | rfl | rfl
                  ·
                    obtain rfl : zz = 2 := by simpa using hzz
                    have HBN := Lib.hid (hbr)
                    clear hzz hk2 hbr hbs
                    go_wp2
                    go_roundw
                    case rel => exact ⟨j + 1, by omega, by go_num, HBN.out⟩
                    case measure => simp [intOf]; omega
                  ·
                    obtain rfl : zz = 0 := by simpa using hzz
                    clear hzz hk2
                    have hwq : IntKind.i64.wrap (x + (-1)) = x + (-1) := wrapI (by have := HXR.out; omega)
                    go_wp2_with fail
                    refine (c22o (some ⟨tb, tof, none⟩) n tc1 t _ (by omega) hl hTs).mono ?_
                    rintro e wz ⟨gr, gc, rfl, hrow, hb⟩
                    have qr := (hrow.cell hlt).1
                    have qf := (hrow.cell hlt).2.1
                    have ql := (hrow.cell hlt).2.2
                    have hgr : w104.heap.size ≤ gr := by obtain ⟨_, _, _, _, _, _, _, h⟩ := hrow; exact h
                    rw [HX.out] at qr
                    go_wp2_with fail
                    obtain ⟨wY, hwn⟩ : ∃ V, V = wz.setCell ⟨gr, j, none⟩ (.int .i64 (x + (-1))) := ⟨_, rfl⟩
                    have hrw2 := (hrow.set j (x + (-1))).rd
                    have hbn : Below w104.heap.size w104 wY := by rw [hwn]; exact hb.setCell (p := ⟨gr, j, none⟩) hgr _
                    rw [← hwn] at hrw2 ⊢
                    clear hwn hrow hb qr qf ql
                    clear qhT0_0 qhT0_1 qhT0_2 qhT1_0 qhT1_1 qhT1_2 qhT1_3 qhT1_4 qhqq_0 qhqq_1
                    obtain ⟨w105, hww⟩ : ∃ W, W = wY := ⟨_, rfl⟩
                    subst hww
                    have hB105 := hB104.call hbn rfl
                    replace hT0 := blkb hT0 hbn
                    replace hT1 := blkb hT1 hbn
                    replace H := H.below hbn
                    replace HW := HW.below hbn
                    replace hst := hst.below hbn
                    replace hTs := hTs.below hbn
                    replace hOd := hOd.below hbn
                    replace hY1 := hY1.below hbn
                    replace hbr := hbr.call hbn rfl
                    replace hqq := blkb hqq hbn
                    replace hbs := hbs.call hbn rfl
                    clear hbn hB104 hgr
                    have qhT0_0 : w105.cell? ⟨w.heap.size, 0, none⟩ = some (.int .i64 c) := cell_at hT0 rfl
                    have qhT0_1 : w105.cell? ⟨w.heap.size, 1, none⟩ = some (.int .i64 r) := cell_at hT0 rfl
                    have qhT0_2 : w105.cell? ⟨w.heap.size, 2, none⟩ = some (.slice A n cap) := cell_at hT0 rfl
                    have qhT1_0 : w105.cell? ⟨w.heap.size + 1, 0, none⟩ = some (.int .i64 s) := cell_at hT1 rfl
                    have qhT1_1 : w105.cell? ⟨w.heap.size + 1, 1, none⟩ = some (.int .i64 d) := cell_at hT1 rfl
                    have qhT1_2 : w105.cell? ⟨w.heap.size + 1, 2, none⟩ = some (.slice WA wn wc) := cell_at hT1 rfl
                    have qhT1_3 : w105.cell? ⟨w.heap.size + 1, 3, none⟩ = some (.slice PA pn pc) := cell_at hT1 rfl
                    have qhT1_4 : w105.cell? ⟨w.heap.size + 1, 4, none⟩ = some (.slice TA tn tc) := cell_at hT1 rfl
                    have qhqq_0 : w105.cell? ⟨bq, 0, none⟩ = some (.int .i64 (-1)) := cell_at hqq rfl
                    have qhqq_1 : w105.cell? ⟨bq, 1, none⟩ = some (.int .i64 1) := cell_at hqq rfl
                    go_wp2_with fail
                    refine wp_region_plan [(0, true), (2, true), (3, true), (4, true), (1, false), (5, false), (6, true)] w105.heap.size (by kernel_rfl) (by kernel_rfl) (Nat.le_refl _) (fun _ _ d _ _ h => by cases d <;> exact h) ?_
                    have hC : Below w105.heap.size w105 w105 := Below.refl _ _
                    have zhT0 : w.heap.size < w105.heap.size := (Array.getElem?_eq_some_iff.1 hT0).1
                    have zhT1 : w.heap.size + 1 < w105.heap.size := (Array.getElem?_eq_some_iff.1 hT1).1
                    have zhqq : bq < w105.heap.size := (Array.getElem?_eq_some_iff.1 hqq).1
                    repeat (first | (refine wpPlanA_skip _ rfl (by rfl) ?_; simp only [Act.put, List.setIfInBounds_toArray, List.set_cons_zero, List.set_cons_succ]) | (refine wpPlanA_soft _ ?_ rfl (by rfl) ?_ ?_; rotate_left; (intro wq hq hcq; go_simp; first | exact rfl | exact ⟨rfl, rfl⟩); simp only [Act.put, List.setIfInBounds_toArray, List.set_cons_zero, List.set_cons_succ]))
                    refine wpPlanA_hard _ rfl (by rfl) (fun w106 hS K hK => ?_)
                    go_simp
                    refine (c20r c r A n cap l _ hl (H.below hS)).mono ?_
                    rintro e w107 ⟨B13, cb13, rfl, hr13, hb⟩
                    replace hS := hS.call hb rfl
                    have hB107 := hB105.call hS rfl
                    replace hC := hC.call hS rfl
                    replace hT0 := blkb hT0 hS
                    replace hT1 := blkb hT1 hS
                    replace H := H.below hS
                    replace HW := HW.below hS
                    replace hst := hst.below hS
                    replace hTs := hTs.below hS
                    replace hOd := hOd.below hS
                    replace hY1 := hY1.below hS
                    replace hbr := hbr.call hS rfl
                    replace hqq := blkb hqq hS
                    replace hbs := hbs.call hS rfl
                    replace hrw2 := hrw2.below hS
                    refine hK _ _ hC ?_
                    clear hS hb hB105 hK K
                    try simp only [Act.put, List.setIfInBounds_toArray, List.set_cons_zero, List.set_cons_succ]
                    refine wpPlanA_hard _ rfl (by rfl) (fun w108 hS K hK => ?_)
                    go_simp
                    refine (KW.out (-1) (by decide) _ _ _ _ _ (hr13.below hS) (hrw2.below hS) (hst.below hS)).mono ?_
                    rintro e w109 ⟨rfl, hb⟩
                    replace hS := hS.call hb rfl
                    have hB109 := hB107.call hS rfl
                    replace hC := hC.call hS rfl
                    replace hT0 := blkb hT0 hS
                    replace hT1 := blkb hT1 hS
                    replace H := H.below hS
                    replace HW := HW.below hS
                    replace hst := hst.below hS
                    replace hTs := hTs.below hS
                    replace hOd := hOd.below hS
                    replace hY1 := hY1.below hS
                    replace hbr := hbr.call hS rfl
                    replace hqq := blkb hqq hS
                    replace hbs := hbs.call hS rfl
                    replace hrw2 := hrw2.below hS
                    replace hr13 := hr13.below hS
                    refine hK _ _ hC ?_
                    clear hS hb hB107 hK K
                    try simp only [Act.put, List.setIfInBounds_toArray, List.set_cons_zero, List.set_cons_succ]
                    repeat (first | (refine wpPlanA_skip _ rfl (by rfl) ?_; simp only [Act.put, List.setIfInBounds_toArray, List.set_cons_zero, List.set_cons_succ]) | (refine wpPlanA_soft _ ?_ rfl (by rfl) ?_ ?_; rotate_left; (intro wq hq hcq; go_simp; first | exact rfl | exact ⟨rfl, rfl⟩); simp only [Act.put, List.setIfInBounds_toArray, List.set_cons_zero, List.set_cons_succ]))
                    clear hr13
                    clear hrw2
                    clear qhT0_0 qhT0_1 qhT0_2 qhT1_0 qhT1_1 qhT1_2 qhT1_3 qhT1_4 qhqq_0 qhqq_1
                    refine wpPlanA_nil (fun w110 hS => ?_)
                    clear hC zhT0 zhT1 zhqq
                    have hB110 := hB109.call hS rfl
                    replace hT0 := blkb hT0 hS
                    replace hT1 := blkb hT1 hS
                    replace H := H.below hS
                    replace HW := HW.below hS
                    replace hst := hst.below hS
                    replace hTs := hTs.below hS
                    replace hOd := hOd.below hS
                    replace hY1 := hY1.below hS
                    replace hbr := hbr.call hS rfl
                    replace hqq := blkb hqq hS
                    replace hbs := hbs.call hS rfl
                    clear hS hB109
                    have qhT0_0 : w110.cell? ⟨w.heap.size, 0, none⟩ = some (.int .i64 c) := cell_at hT0 rfl
                    have qhT0_1 : w110.cell? ⟨w.heap.size, 1, none⟩ = some (.int .i64 r) := cell_at hT0 rfl
                    have qhT0_2 : w110.cell? ⟨w.heap.size, 2, none⟩ = some (.slice A n cap) := cell_at hT0 rfl
                    have qhT1_0 : w110.cell? ⟨w.heap.size + 1, 0, none⟩ = some (.int .i64 s) := cell_at hT1 rfl
                    have qhT1_1 : w110.cell? ⟨w.heap.size + 1, 1, none⟩ = some (.int .i64 d) := cell_at hT1 rfl
                    have qhT1_2 : w110.cell? ⟨w.heap.size + 1, 2, none⟩ = some (.slice WA wn wc) := cell_at hT1 rfl
                    have qhT1_3 : w110.cell? ⟨w.heap.size + 1, 3, none⟩ = some (.slice PA pn pc) := cell_at hT1 rfl
                    have qhT1_4 : w110.cell? ⟨w.heap.size + 1, 4, none⟩ = some (.slice TA tn tc) := cell_at hT1 rfl
                    have qhqq_0 : w110.cell? ⟨bq, 0, none⟩ = some (.int .i64 (-1)) := cell_at hqq rfl
                    have qhqq_1 : w110.cell? ⟨bq, 1, none⟩ = some (.int .i64 1) := cell_at hqq rfl
                    have HBN := Lib.hid hbs
                    clear hbs hbr
                    go_wp2
                    go_roundw
                    case rel => exact ⟨0+1, 0+1, by omega, by go_num, rfl, HBN.out⟩
                    case measure => simp [intOf]
                  ·
                    obtain rfl : zz = 1 := by simpa using hzz
                    clear hzz hk2
                    have hwq : IntKind.i64.wrap (x + 1) = x + 1 := wrapI (by have := HXR.out; omega)
                    go_wp2_with fail
                    refine (c22o (some ⟨tb, tof, none⟩) n tc1 t _ (by omega) hl hTs).mono ?_
                    rintro e wz ⟨gr, gc, rfl, hrow, hb⟩
                    have qr := (hrow.cell hlt).1
                    have qf := (hrow.cell hlt).2.1
                    have ql := (hrow.cell hlt).2.2
                    have hgr : w104.heap.size ≤ gr := by obtain ⟨_, _, _, _, _, _, _, h⟩ := hrow; exact h
                    rw [HX.out] at qr
                    go_wp2_with fail
                    obtain ⟨wY, hwn⟩ : ∃ V, V = wz.setCell ⟨gr, j, none⟩ (.int .i64 (x + 1)) := ⟨_, rfl⟩
                    have hrw2 := (hrow.set j (x + 1)).rd
                    have hbn : Below w104.heap.size w104 wY := by rw [hwn]; exact hb.setCell (p := ⟨gr, j, none⟩) hgr _
                    rw [← hwn] at hrw2 ⊢
                    clear hwn hrow hb qr qf ql
                    clear qhT0_0 qhT0_1 qhT0_2 qhT1_0 qhT1_1 qhT1_2 qhT1_3 qhT1_4 qhqq_0 qhqq_1
                    obtain ⟨w105, hww⟩ : ∃ W, W = wY := ⟨_, rfl⟩
                    subst hww
                    have hB105 := hB104.call hbn rfl
                    replace hT0 := blkb hT0 hbn
                    replace hT1 := blkb hT1 hbn
                    replace H := H.below hbn
                    replace HW := HW.below hbn
                    replace hst := hst.below hbn
                    replace hTs := hTs.below hbn
                    replace hOd := hOd.below hbn
                    replace hY1 := hY1.below hbn
                    replace hbr := hbr.call hbn rfl
                    replace hqq := blkb hqq hbn
                    replace hbs := hbs.call hbn rfl
                    clear hbn hB104 hgr
                    have qhT0_0 : w105.cell? ⟨w.heap.size, 0, none⟩ = some (.int .i64 c) := cell_at hT0 rfl
                    have qhT0_1 : w105.cell? ⟨w.heap.size, 1, none⟩ = some (.int .i64 r) := cell_at hT0 rfl
                    have qhT0_2 : w105.cell? ⟨w.heap.size, 2, none⟩ = some (.slice A n cap) := cell_at hT0 rfl
                    have qhT1_0 : w105.cell? ⟨w.heap.size + 1, 0, none⟩ = some (.int .i64 s) := cell_at hT1 rfl
                    have qhT1_1 : w105.cell? ⟨w.heap.size + 1, 1, none⟩ = some (.int .i64 d) := cell_at hT1 rfl
                    have qhT1_2 : w105.cell? ⟨w.heap.size + 1, 2, none⟩ = some (.slice WA wn wc) := cell_at hT1 rfl
                    have qhT1_3 : w105.cell? ⟨w.heap.size + 1, 3, none⟩ = some (.slice PA pn pc) := cell_at hT1 rfl
                    have qhT1_4 : w105.cell? ⟨w.heap.size + 1, 4, none⟩ = some (.slice TA tn tc) := cell_at hT1 rfl
                    have qhqq_0 : w105.cell? ⟨bq, 0, none⟩ = some (.int .i64 (-1)) := cell_at hqq rfl
                    have qhqq_1 : w105.cell? ⟨bq, 1, none⟩ = some (.int .i64 1) := cell_at hqq rfl
                    go_wp2_with fail
                    refine wp_region_plan [(0, true), (2, true), (3, true), (4, true), (1, false), (5, false), (6, true)] w105.heap.size (by kernel_rfl) (by kernel_rfl) (Nat.le_refl _) (fun _ _ d _ _ h => by cases d <;> exact h) ?_
                    have hC : Below w105.heap.size w105 w105 := Below.refl _ _
                    have zhT0 : w.heap.size < w105.heap.size := (Array.getElem?_eq_some_iff.1 hT0).1
                    have zhT1 : w.heap.size + 1 < w105.heap.size := (Array.getElem?_eq_some_iff.1 hT1).1
                    have zhqq : bq < w105.heap.size := (Array.getElem?_eq_some_iff.1 hqq).1
                    repeat (first | (refine wpPlanA_skip _ rfl (by rfl) ?_; simp only [Act.put, List.setIfInBounds_toArray, List.set_cons_zero, List.set_cons_succ]) | (refine wpPlanA_soft _ ?_ rfl (by rfl) ?_ ?_; rotate_left; (intro wq hq hcq; go_simp; first | exact rfl | exact ⟨rfl, rfl⟩); simp only [Act.put, List.setIfInBounds_toArray, List.set_cons_zero, List.set_cons_succ]))
                    refine wpPlanA_hard _ rfl (by rfl) (fun w106 hS K hK => ?_)
                    go_simp
                    refine (c20r c r A n cap l _ hl (H.below hS)).mono ?_
                    rintro e w107 ⟨B14, cb14, rfl, hr14, hb⟩
                    replace hS := hS.call hb rfl
                    have hB107 := hB105.call hS rfl
                    replace hC := hC.call hS rfl
                    replace hT0 := blkb hT0 hS
                    replace hT1 := blkb hT1 hS
                    replace H := H.below hS
                    replace HW := HW.below hS
                    replace hst := hst.below hS
                    replace hTs := hTs.below hS
                    replace hOd := hOd.below hS
                    replace hY1 := hY1.below hS
                    replace hbr := hbr.call hS rfl
                    replace hqq := blkb hqq hS
                    replace hbs := hbs.call hS rfl
                    replace hrw2 := hrw2.below hS
                    refine hK _ _ hC ?_
                    clear hS hb hB105 hK K
                    try simp only [Act.put, List.setIfInBounds_toArray, List.set_cons_zero, List.set_cons_succ]
                    refine wpPlanA_hard _ rfl (by rfl) (fun w108 hS K hK => ?_)
                    go_simp
                    refine (KW.out 1 (by decide) _ _ _ _ _ (hr14.below hS) (hrw2.below hS) (hst.below hS)).mono ?_
                    rintro e w109 ⟨rfl, hb⟩
                    replace hS := hS.call hb rfl
                    have hB109 := hB107.call hS rfl
                    replace hC := hC.call hS rfl
                    replace hT0 := blkb hT0 hS
                    replace hT1 := blkb hT1 hS
                    replace H := H.below hS
                    replace HW := HW.below hS
                    replace hst := hst.below hS
                    replace hTs := hTs.below hS
                    replace hOd := hOd.below hS
                    replace hY1 := hY1.below hS
                    replace hbr := hbr.call hS rfl
                    replace hqq := blkb hqq hS
                    replace hbs := hbs.call hS rfl
                    replace hrw2 := hrw2.below hS
                    replace hr14 := hr14.below hS
                    refine hK _ _ hC ?_
                    clear hS hb hB107 hK K
                    try simp only [Act.put, List.setIfInBounds_toArray, List.set_cons_zero, List.set_cons_succ]
                    repeat (first | (refine wpPlanA_skip _ rfl (by rfl) ?_; simp only [Act.put, List.setIfInBounds_toArray, List.set_cons_zero, List.set_cons_succ]) | (refine wpPlanA_soft _ ?_ rfl (by rfl) ?_ ?_; rotate_left; (intro wq hq hcq; go_simp; first | exact rfl | exact ⟨rfl, rfl⟩); simp only [Act.put, List.setIfInBounds_toArray, List.set_cons_zero, List.set_cons_succ]))
                    clear hr14
                    clear hrw2
                    clear qhT0_0 qhT0_1 qhT0_2 qhT1_0 qhT1_1 qhT1_2 qhT1_3 qhT1_4 qhqq_0 qhqq_1
                    refine wpPlanA_nil (fun w110 hS => ?_)
                    clear hC zhT0 zhT1 zhqq
                    have hB110 := hB109.call hS rfl
                    replace hT0 := blkb hT0 hS
                    replace hT1 := blkb hT1 hS
                    replace H := H.below hS
                    replace HW := HW.below hS
                    replace hst := hst.below hS
                    replace hTs := hTs.below hS
                    replace hOd := hOd.below hS
                    replace hY1 := hY1.below hS
                    replace hbr := hbr.call hS rfl
                    replace hqq := blkb hqq hS
                    replace hbs := hbs.call hS rfl
                    clear hS hB109
                    have qhT0_0 : w110.cell? ⟨w.heap.size, 0, none⟩ = some (.int .i64 c) := cell_at hT0 rfl
                    have qhT0_1 : w110.cell? ⟨w.heap.size, 1, none⟩ = some (.int .i64 r) := cell_at hT0 rfl
                    have qhT0_2 : w110.cell? ⟨w.heap.size, 2, none⟩ = some (.slice A n cap) := cell_at hT0 rfl
                    have qhT1_0 : w110.cell? ⟨w.heap.size + 1, 0, none⟩ = some (.int .i64 s) := cell_at hT1 rfl
                    have qhT1_1 : w110.cell? ⟨w.heap.size + 1, 1, none⟩ = some (.int .i64 d) := cell_at hT1 rfl
                    have qhT1_2 : w110.cell? ⟨w.heap.size + 1, 2, none⟩ = some (.slice WA wn wc) := cell_at hT1 rfl
                    have qhT1_3 : w110.cell? ⟨w.heap.size + 1, 3, none⟩ = some (.slice PA pn pc) := cell_at hT1 rfl
                    have qhT1_4 : w110.cell? ⟨w.heap.size + 1, 4, none⟩ = some (.slice TA tn tc) := cell_at hT1 rfl
                    have qhqq_0 : w110.cell? ⟨bq, 0, none⟩ = some (.int .i64 (-1)) := cell_at hqq rfl
                    have qhqq_1 : w110.cell? ⟨bq, 1, none⟩ = some (.int .i64 1) := cell_at hqq rfl
                    have HBN := Lib.hid hbs
                    clear hbs hbr
                    go_wp2
                    go_roundw
                    case rel => exact ⟨1+1, 1+1, by omega, by go_num, rfl, HBN.out⟩
                    case measure => simp [intOf]
               obtain rfl : n = j := by omega
               clear hlt hj hwk
               clear hbr
               go_wp2_with fail
               refine (c20r c r A n cap l _ hl H).mono ?_
               rintro e w102 ⟨B15, cb15, rfl, hr15, hb⟩
               clear qhT0_0 qhT0_1 qhT0_2 qhT1_0 qhT1_1 qhT1_2 qhT1_3 qhT1_4
               have hS := hb
               have hB102 := hB101.call hS rfl
               replace hT0 := blkb hT0 hS
               replace hT1 := blkb hT1 hS
               replace H := H.below hS
               replace HW := HW.below hS
               replace hst := hst.below hS
               replace hTs := hTs.below hS
               replace hOd := hOd.below hS
               replace hY1 := hY1.below hS
               clear hS hB101
               have qhT0_0 : w102.cell? ⟨w.heap.size, 0, none⟩ = some (.int .i64 c) := cell_at hT0 rfl
               have qhT0_1 : w102.cell? ⟨w.heap.size, 1, none⟩ = some (.int .i64 r) := cell_at hT0 rfl
               have qhT0_2 : w102.cell? ⟨w.heap.size, 2, none⟩ = some (.slice A n cap) := cell_at hT0 rfl
               have qhT1_0 : w102.cell? ⟨w.heap.size + 1, 0, none⟩ = some (.int .i64 s) := cell_at hT1 rfl
               have qhT1_1 : w102.cell? ⟨w.heap.size + 1, 1, none⟩ = some (.int .i64 d) := cell_at hT1 rfl
               have qhT1_2 : w102.cell? ⟨w.heap.size + 1, 2, none⟩ = some (.slice WA wn wc) := cell_at hT1 rfl
               have qhT1_3 : w102.cell? ⟨w.heap.size + 1, 3, none⟩ = some (.slice PA pn pc) := cell_at hT1 rfl
               have qhT1_4 : w102.cell? ⟨w.heap.size + 1, 4, none⟩ = some (.slice TA tn tc) := cell_at hT1 rfl
               clear hb
               go_wp2_with fail
               refine (K66.out _ _ _ hr15).mono ?_
               rintro e w103 ⟨M1, mc1, rfl, hM1, hb⟩
               clear qhT0_0 qhT0_1 qhT0_2 qhT1_0 qhT1_1 qhT1_2 qhT1_3 qhT1_4
               have hS := hb
               have hB103 := hB102.call hS rfl
               replace hT0 := blkb hT0 hS
               replace hT1 := blkb hT1 hS
               replace H := H.below hS
               replace HW := HW.below hS
               replace hst := hst.below hS
               replace hTs := hTs.below hS
               replace hOd := hOd.below hS
               replace hY1 := hY1.below hS
               replace hr15 := hr15.below hS
               clear hS hB102
               have qhT0_0 : w103.cell? ⟨w.heap.size, 0, none⟩ = some (.int .i64 c) := cell_at hT0 rfl
               have qhT0_1 : w103.cell? ⟨w.heap.size, 1, none⟩ = some (.int .i64 r) := cell_at hT0 rfl
               have qhT0_2 : w103.cell? ⟨w.heap.size, 2, none⟩ = some (.slice A n cap) := cell_at hT0 rfl
               have qhT1_0 : w103.cell? ⟨w.heap.size + 1, 0, none⟩ = some (.int .i64 s) := cell_at hT1 rfl
               have qhT1_1 : w103.cell? ⟨w.heap.size + 1, 1, none⟩ = some (.int .i64 d) := cell_at hT1 rfl
               have qhT1_2 : w103.cell? ⟨w.heap.size + 1, 2, none⟩ = some (.slice WA wn wc) := cell_at hT1 rfl
               have qhT1_3 : w103.cell? ⟨w.heap.size + 1, 3, none⟩ = some (.slice PA pn pc) := cell_at hT1 rfl
               have qhT1_4 : w103.cell? ⟨w.heap.size + 1, 4, none⟩ = some (.slice TA tn tc) := cell_at hT1 rfl
               clear hb
               clear hr15
               have zg1 := cell_lt qhT0_0
               go_wp2_with fail
               refine (c20r c r A n cap l _ hl (H.below (bl2 _ _))).mono ?_
               rintro e w104 ⟨B16, cb16, rfl, hr16, hb⟩
               have hM := blkb (heap_new (w := w103) (o := (Obj.cells #[.int .i64 c, .int .i64 r, .slice M1 n mc1] 35)) rfl) hb
               clear qhT0_0 qhT0_1 qhT0_2 qhT1_0 qhT1_1 qhT1_2 qhT1_3 qhT1_4
               have hS := ((Below.refl _ _).alloc (by first | exact Nat.le_refl _ | (simp <;> omega)) _).call hb rfl
               have hB104 := hB103.call hS rfl
               replace hT0 := blkb hT0 hS
               replace hT1 := blkb hT1 hS
               replace H := H.below hS
               replace HW := HW.below hS
               replace hst := hst.below hS
               replace hTs := hTs.below hS
               replace hOd := hOd.below hS
               replace hY1 := hY1.below hS
               replace hM1 := hM1.below hS
               clear hS hB103
               have qhT0_0 : w104.cell? ⟨w.heap.size, 0, none⟩ = some (.int .i64 c) := cell_at hT0 rfl
               have qhT0_1 : w104.cell? ⟨w.heap.size, 1, none⟩ = some (.int .i64 r) := cell_at hT0 rfl
               have qhT0_2 : w104.cell? ⟨w.heap.size, 2, none⟩ = some (.slice A n cap) := cell_at hT0 rfl
               have qhT1_0 : w104.cell? ⟨w.heap.size + 1, 0, none⟩ = some (.int .i64 s) := cell_at hT1 rfl
               have qhT1_1 : w104.cell? ⟨w.heap.size + 1, 1, none⟩ = some (.int .i64 d) := cell_at hT1 rfl
               have qhT1_2 : w104.cell? ⟨w.heap.size + 1, 2, none⟩ = some (.slice WA wn wc) := cell_at hT1 rfl
               have qhT1_3 : w104.cell? ⟨w.heap.size + 1, 3, none⟩ = some (.slice PA pn pc) := cell_at hT1 rfl
               have qhT1_4 : w104.cell? ⟨w.heap.size + 1, 4, none⟩ = some (.slice TA tn tc) := cell_at hT1 rfl
               clear hb
               obtain ⟨bhM, hbhM⟩ : ∃ b, b = w103.heap.size := ⟨_, rfl⟩
               rw [← hbhM] at hM  ⊢
               clear hbhM
               clear zg1
               clear qhT0_0 qhT0_1 qhT0_2 qhT1_0 qhT1_1 qhT1_2 qhT1_3 qhT1_4
               have qhT0_0 : w104.cell? ⟨w.heap.size, 0, none⟩ = some (.int .i64 c) := cell_at hT0 rfl
               have qhT0_1 : w104.cell? ⟨w.heap.size, 1, none⟩ = some (.int .i64 r) := cell_at hT0 rfl
               have qhT0_2 : w104.cell? ⟨w.heap.size, 2, none⟩ = some (.slice A n cap) := cell_at hT0 rfl
               have qhT1_0 : w104.cell? ⟨w.heap.size + 1, 0, none⟩ = some (.int .i64 s) := cell_at hT1 rfl
               have qhT1_1 : w104.cell? ⟨w.heap.size + 1, 1, none⟩ = some (.int .i64 d) := cell_at hT1 rfl
               have qhT1_2 : w104.cell? ⟨w.heap.size + 1, 2, none⟩ = some (.slice WA wn wc) := cell_at hT1 rfl
               have qhT1_3 : w104.cell? ⟨w.heap.size + 1, 3, none⟩ = some (.slice PA pn pc) := cell_at hT1 rfl
               have qhT1_4 : w104.cell? ⟨w.heap.size + 1, 4, none⟩ = some (.slice TA tn tc) := cell_at hT1 rfl
               have qhM_0 : w104.cell? ⟨bhM, 0, none⟩ = some (.int .i64 c) := cell_at hM rfl
               have qhM_1 : w104.cell? ⟨bhM, 1, none⟩ = some (.int .i64 r) := cell_at hM rfl
               have qhM_2 : w104.cell? ⟨bhM, 2, none⟩ = some (.slice M1 n mc1) := cell_at hM rfl
               go_wp2_with fail
               refine (K67.out _ _ _ hr16).mono ?_
               rintro e w105 ⟨X1, xc1, rfl, hX1, hb⟩
               clear qhT0_0 qhT0_1 qhT0_2 qhT1_0 qhT1_1 qhT1_2 qhT1_3 qhT1_4 qhM_0 qhM_1 qhM_2
               have hS := hb
               have hB105 := hB104.call hS rfl
               replace hT0 := blkb hT0 hS
               replace hT1 := blkb hT1 hS
               replace H := H.below hS
               replace HW := HW.below hS
               replace hst := hst.below hS
               replace hTs := hTs.below hS
               replace hOd := hOd.below hS
               replace hY1 := hY1.below hS
               replace hM1 := hM1.below hS
               replace hM := blkb hM hS
               replace hr16 := hr16.below hS
               clear hS hB104
               have qhT0_0 : w105.cell? ⟨w.heap.size, 0, none⟩ = some (.int .i64 c) := cell_at hT0 rfl
               have qhT0_1 : w105.cell? ⟨w.heap.size, 1, none⟩ = some (.int .i64 r) := cell_at hT0 rfl
               have qhT0_2 : w105.cell? ⟨w.heap.size, 2, none⟩ = some (.slice A n cap) := cell_at hT0 rfl
               have qhT1_0 : w105.cell? ⟨w.heap.size + 1, 0, none⟩ = some (.int .i64 s) := cell_at hT1 rfl
               have qhT1_1 : w105.cell? ⟨w.heap.size + 1, 1, none⟩ = some (.int .i64 d) := cell_at hT1 rfl
               have qhT1_2 : w105.cell? ⟨w.heap.size + 1, 2, none⟩ = some (.slice WA wn wc) := cell_at hT1 rfl
               have qhT1_3 : w105.cell? ⟨w.heap.size + 1, 3, none⟩ = some (.slice PA pn pc) := cell_at hT1 rfl
               have qhT1_4 : w105.cell? ⟨w.heap.size + 1, 4, none⟩ = some (.slice TA tn tc) := cell_at hT1 rfl
               have qhM_0 : w105.cell? ⟨bhM, 0, none⟩ = some (.int .i64 c) := cell_at hM rfl
               have qhM_1 : w105.cell? ⟨bhM, 1, none⟩ = some (.int .i64 r) := cell_at hM rfl
               have qhM_2 : w105.cell? ⟨bhM, 2, none⟩ = some (.slice M1 n mc1) := cell_at hM rfl
               clear hb
               clear hr16
               have zg1 := cell_lt qhT0_0
               have zg2 := cell_lt qhM_0
               go_wp2_with fail
               refine (c71e c r M1 n mc1 ml _ hl (hM1.below (bl2 _ _))).mono ?_
               rintro e w106 ⟨N1, nc1, rfl, hN1, hb⟩
               have hN := blkb (heap_new (w := w105) (o := (Obj.cells #[.int .i64 r, .int .i64 c, .slice X1 n xc1] 35)) rfl) hb
               clear qhT0_0 qhT0_1 qhT0_2 qhT1_0 qhT1_1 qhT1_2 qhT1_3 qhT1_4 qhM_0 qhM_1 qhM_2
               have hS := ((Below.refl _ _).alloc (by first | exact Nat.le_refl _ | (simp <;> omega)) _).call hb rfl
               have hB106 := hB105.call hS rfl
               replace hT0 := blkb hT0 hS
               replace hT1 := blkb hT1 hS
               replace H := H.below hS
               replace HW := HW.below hS
               replace hst := hst.below hS
               replace hTs := hTs.below hS
               replace hOd := hOd.below hS
               replace hY1 := hY1.below hS
               replace hM1 := hM1.below hS
               replace hM := blkb hM hS
               replace hX1 := hX1.below hS
               clear hS hB105
               have qhT0_0 : w106.cell? ⟨w.heap.size, 0, none⟩ = some (.int .i64 c) := cell_at hT0 rfl
               have qhT0_1 : w106.cell? ⟨w.heap.size, 1, none⟩ = some (.int .i64 r) := cell_at hT0 rfl
               have qhT0_2 : w106.cell? ⟨w.heap.size, 2, none⟩ = some (.slice A n cap) := cell_at hT0 rfl
               have qhT1_0 : w106.cell? ⟨w.heap.size + 1, 0, none⟩ = some (.int .i64 s) := cell_at hT1 rfl
               have qhT1_1 : w106.cell? ⟨w.heap.size + 1, 1, none⟩ = some (.int .i64 d) := cell_at hT1 rfl
               have qhT1_2 : w106.cell? ⟨w.heap.size + 1, 2, none⟩ = some (.slice WA wn wc) := cell_at hT1 rfl
               have qhT1_3 : w106.cell? ⟨w.heap.size + 1, 3, none⟩ = some (.slice PA pn pc) := cell_at hT1 rfl
               have qhT1_4 : w106.cell? ⟨w.heap.size + 1, 4, none⟩ = some (.slice TA tn tc) := cell_at hT1 rfl
               have qhM_0 : w106.cell? ⟨bhM, 0, none⟩ = some (.int .i64 c) := cell_at hM rfl
               have qhM_1 : w106.cell? ⟨bhM, 1, none⟩ = some (.int .i64 r) := cell_at hM rfl
               have qhM_2 : w106.cell? ⟨bhM, 2, none⟩ = some (.slice M1 n mc1) := cell_at hM rfl
               clear hb
               obtain ⟨bhN, hbhN⟩ : ∃ b, b = w105.heap.size := ⟨_, rfl⟩
               rw [← hbhN] at hN  ⊢
               clear hbhN
               clear zg1 zg2
               clear qhT0_0 qhT0_1 qhT0_2 qhT1_0 qhT1_1 qhT1_2 qhT1_3 qhT1_4 qhM_0 qhM_1 qhM_2
               have qhT0_0 : w106.cell? ⟨w.heap.size, 0, none⟩ = some (.int .i64 c) := cell_at hT0 rfl
               have qhT0_1 : w106.cell? ⟨w.heap.size, 1, none⟩ = some (.int .i64 r) := cell_at hT0 rfl
               have qhT0_2 : w106.cell? ⟨w.heap.size, 2, none⟩ = some (.slice A n cap) := cell_at hT0 rfl
               have qhT1_0 : w106.cell? ⟨w.heap.size + 1, 0, none⟩ = some (.int .i64 s) := cell_at hT1 rfl
               have qhT1_1 : w106.cell? ⟨w.heap.size + 1, 1, none⟩ = some (.int .i64 d) := cell_at hT1 rfl
               have qhT1_2 : w106.cell? ⟨w.heap.size + 1, 2, none⟩ = some (.slice WA wn wc) := cell_at hT1 rfl
               have qhT1_3 : w106.cell? ⟨w.heap.size + 1, 3, none⟩ = some (.slice PA pn pc) := cell_at hT1 rfl
               have qhT1_4 : w106.cell? ⟨w.heap.size + 1, 4, none⟩ = some (.slice TA tn tc) := cell_at hT1 rfl
               have qhM_0 : w106.cell? ⟨bhM, 0, none⟩ = some (.int .i64 c) := cell_at hM rfl
               have qhM_1 : w106.cell? ⟨bhM, 1, none⟩ = some (.int .i64 r) := cell_at hM rfl
               have qhM_2 : w106.cell? ⟨bhM, 2, none⟩ = some (.slice M1 n mc1) := cell_at hM rfl
               have qhN_0 : w106.cell? ⟨bhN, 0, none⟩ = some (.int .i64 r) := cell_at hN rfl
               have qhN_1 : w106.cell? ⟨bhN, 1, none⟩ = some (.int .i64 c) := cell_at hN rfl
               have qhN_2 : w106.cell? ⟨bhN, 2, none⟩ = some (.slice X1 n xc1) := cell_at hN rfl
               go_wp2_with fail
               refine (K65m.out _ _ _ hN1).mono ?_
               rintro e w107 ⟨rfl, hb⟩
               clear qhT0_0 qhT0_1 qhT0_2 qhT1_0 qhT1_1 qhT1_2 qhT1_3 qhT1_4 qhM_0 qhM_1 qhM_2 qhN_0 qhN_1 qhN_2
               have hS := hb
               have hB107 := hB106.call hS rfl
               replace hT0 := blkb hT0 hS
               replace hT1 := blkb hT1 hS
               replace H := H.below hS
               replace HW := HW.below hS
               replace hst := hst.below hS
               replace hTs := hTs.below hS
               replace hOd := hOd.below hS
               replace hY1 := hY1.below hS
               replace hM1 := hM1.below hS
               replace hM := blkb hM hS
               replace hX1 := hX1.below hS
               replace hN := blkb hN hS
               replace hN1 := hN1.below hS
               clear hS hB106
               have qhT0_0 : w107.cell? ⟨w.heap.size, 0, none⟩ = some (.int .i64 c) := cell_at hT0 rfl
               have qhT0_1 : w107.cell? ⟨w.heap.size, 1, none⟩ = some (.int .i64 r) := cell_at hT0 rfl
               have qhT0_2 : w107.cell? ⟨w.heap.size, 2, none⟩ = some (.slice A n cap) := cell_at hT0 rfl
               have qhT1_0 : w107.cell? ⟨w.heap.size + 1, 0, none⟩ = some (.int .i64 s) := cell_at hT1 rfl
               have qhT1_1 : w107.cell? ⟨w.heap.size + 1, 1, none⟩ = some (.int .i64 d) := cell_at hT1 rfl
               have qhT1_2 : w107.cell? ⟨w.heap.size + 1, 2, none⟩ = some (.slice WA wn wc) := cell_at hT1 rfl
               have qhT1_3 : w107.cell? ⟨w.heap.size + 1, 3, none⟩ = some (.slice PA pn pc) := cell_at hT1 rfl
               have qhT1_4 : w107.cell? ⟨w.heap.size + 1, 4, none⟩ = some (.slice TA tn tc) := cell_at hT1 rfl
               have qhM_0 : w107.cell? ⟨bhM, 0, none⟩ = some (.int .i64 c) := cell_at hM rfl
               have qhM_1 : w107.cell? ⟨bhM, 1, none⟩ = some (.int .i64 r) := cell_at hM rfl
               have qhM_2 : w107.cell? ⟨bhM, 2, none⟩ = some (.slice M1 n mc1) := cell_at hM rfl
               have qhN_0 : w107.cell? ⟨bhN, 0, none⟩ = some (.int .i64 r) := cell_at hN rfl
               have qhN_1 : w107.cell? ⟨bhN, 1, none⟩ = some (.int .i64 c) := cell_at hN rfl
               have qhN_2 : w107.cell? ⟨bhN, 2, none⟩ = some (.slice X1 n xc1) := cell_at hN rfl
               clear hb
               clear hN1
               go_wp2_with fail
               refine (c71e r c X1 n xc1 rl _ hl hX1).mono ?_
               rintro e w108 ⟨N2, nc2, rfl, hN2, hb⟩
               clear qhT0_0 qhT0_1 qhT0_2 qhT1_0 qhT1_1 qhT1_2 qhT1_3 qhT1_4 qhM_0 qhM_1 qhM_2 qhN_0 qhN_1 qhN_2
               have hS := hb
               have hB108 := hB107.call hS rfl
               replace hT0 := blkb hT0 hS
               replace hT1 := blkb hT1 hS
               replace H := H.below hS
               replace HW := HW.below hS
               replace hst := hst.below hS
               replace hTs := hTs.below hS
               replace hOd := hOd.below hS
               replace hY1 := hY1.below hS
               replace hM1 := hM1.below hS
               replace hM := blkb hM hS
               replace hX1 := hX1.below hS
               replace hN := blkb hN hS
               clear hS hB107
               have qhT0_0 : w108.cell? ⟨w.heap.size, 0, none⟩ = some (.int .i64 c) := cell_at hT0 rfl
               have qhT0_1 : w108.cell? ⟨w.heap.size, 1, none⟩ = some (.int .i64 r) := cell_at hT0 rfl
               have qhT0_2 : w108.cell? ⟨w.heap.size, 2, none⟩ = some (.slice A n cap) := cell_at hT0 rfl
               have qhT1_0 : w108.cell? ⟨w.heap.size + 1, 0, none⟩ = some (.int .i64 s) := cell_at hT1 rfl
               have qhT1_1 : w108.cell? ⟨w.heap.size + 1, 1, none⟩ = some (.int .i64 d) := cell_at hT1 rfl
               have qhT1_2 : w108.cell? ⟨w.heap.size + 1, 2, none⟩ = some (.slice WA wn wc) := cell_at hT1 rfl
               have qhT1_3 : w108.cell? ⟨w.heap.size + 1, 3, none⟩ = some (.slice PA pn pc) := cell_at hT1 rfl
               have qhT1_4 : w108.cell? ⟨w.heap.size + 1, 4, none⟩ = some (.slice TA tn tc) := cell_at hT1 rfl
               have qhM_0 : w108.cell? ⟨bhM, 0, none⟩ = some (.int .i64 c) := cell_at hM rfl
               have qhM_1 : w108.cell? ⟨bhM, 1, none⟩ = some (.int .i64 r) := cell_at hM rfl
               have qhM_2 : w108.cell? ⟨bhM, 2, none⟩ = some (.slice M1 n mc1) := cell_at hM rfl
               have qhN_0 : w108.cell? ⟨bhN, 0, none⟩ = some (.int .i64 r) := cell_at hN rfl
               have qhN_1 : w108.cell? ⟨bhN, 1, none⟩ = some (.int .i64 c) := cell_at hN rfl
               have qhN_2 : w108.cell? ⟨bhN, 2, none⟩ = some (.slice X1 n xc1) := cell_at hN rfl
               clear hb
               go_wp2_with fail
               refine (K65t.out _ _ _ hN2).mono ?_
               rintro e w109 ⟨rfl, hb⟩
               clear qhT0_0 qhT0_1 qhT0_2 qhT1_0 qhT1_1 qhT1_2 qhT1_3 qhT1_4 qhM_0 qhM_1 qhM_2 qhN_0 qhN_1 qhN_2
               have hS := hb
               have hB109 := hB108.call hS rfl
               replace hT0 := blkb hT0 hS
               replace hT1 := blkb hT1 hS
               replace H := H.below hS
               replace HW := HW.below hS
               replace hst := hst.below hS
               replace hTs := hTs.below hS
               replace hOd := hOd.below hS
               replace hY1 := hY1.below hS
               replace hM1 := hM1.below hS
               replace hM := blkb hM hS
               replace hX1 := hX1.below hS
               replace hN := blkb hN hS
               replace hN2 := hN2.below hS
               clear hS hB108
               have qhT0_0 : w109.cell? ⟨w.heap.size, 0, none⟩ = some (.int .i64 c) := cell_at hT0 rfl
               have qhT0_1 : w109.cell? ⟨w.heap.size, 1, none⟩ = some (.int .i64 r) := cell_at hT0 rfl
               have qhT0_2 : w109.cell? ⟨w.heap.size, 2, none⟩ = some (.slice A n cap) := cell_at hT0 rfl
               have qhT1_0 : w109.cell? ⟨w.heap.size + 1, 0, none⟩ = some (.int .i64 s) := cell_at hT1 rfl
               have qhT1_1 : w109.cell? ⟨w.heap.size + 1, 1, none⟩ = some (.int .i64 d) := cell_at hT1 rfl
               have qhT1_2 : w109.cell? ⟨w.heap.size + 1, 2, none⟩ = some (.slice WA wn wc) := cell_at hT1 rfl
               have qhT1_3 : w109.cell? ⟨w.heap.size + 1, 3, none⟩ = some (.slice PA pn pc) := cell_at hT1 rfl
               have qhT1_4 : w109.cell? ⟨w.heap.size + 1, 4, none⟩ = some (.slice TA tn tc) := cell_at hT1 rfl
               have qhM_0 : w109.cell? ⟨bhM, 0, none⟩ = some (.int .i64 c) := cell_at hM rfl
               have qhM_1 : w109.cell? ⟨bhM, 1, none⟩ = some (.int .i64 r) := cell_at hM rfl
               have qhM_2 : w109.cell? ⟨bhM, 2, none⟩ = some (.slice M1 n mc1) := cell_at hM rfl
               have qhN_0 : w109.cell? ⟨bhN, 0, none⟩ = some (.int .i64 r) := cell_at hN rfl
               have qhN_1 : w109.cell? ⟨bhN, 1, none⟩ = some (.int .i64 c) := cell_at hN rfl
               have qhN_2 : w109.cell? ⟨bhN, 2, none⟩ = some (.slice X1 n xc1) := cell_at hN rfl
               clear hb
               clear hN2
               have hcc : ((c : Int) != (c : Int)) = false := by simp
               have hrr : ((r : Int) != (r : Int)) = false := by simp
               go_wp2_with fail
               refine wp_region_plan [(0, true), (3, true), (4, true), (5, true), (1, false), (2, false), (6, false), (7, false), (8, true), (9, true), (10, true), (11, true), (12, true)] w109.heap.size (by kernel_rfl) (by kernel_rfl) (Nat.le_refl _) (fun _ _ d _ _ h => by cases d <;> exact h) ?_
               have hC : Below w109.heap.size w109 w109 := Below.refl _ _
               have zhT0 : w.heap.size < w109.heap.size := (Array.getElem?_eq_some_iff.1 hT0).1
               have zhT1 : w.heap.size + 1 < w109.heap.size := (Array.getElem?_eq_some_iff.1 hT1).1
               have zhM : bhM < w109.heap.size := (Array.getElem?_eq_some_iff.1 hM).1
               have zhN : bhN < w109.heap.size := (Array.getElem?_eq_some_iff.1 hN).1
               repeat (first | (refine wpPlanA_skip _ rfl (by rfl) ?_; simp only [Act.put, List.setIfInBounds_toArray, List.set_cons_zero, List.set_cons_succ]) | (refine wpPlanA_soft _ ?_ rfl (by rfl) ?_ ?_; rotate_left; (intro wq hq hcq; go_simp; first | exact rfl | exact ⟨rfl, rfl⟩); simp only [Act.put, List.setIfInBounds_toArray, List.set_cons_zero, List.set_cons_succ]))
               refine wpPlanA_hard _ rfl (by rfl) (fun w110 hS K hK => ?_)
               go_simp
               refine (c71e c r M1 n mc1 ml _ hl (hM1.below hS)).mono ?_
               rintro e w111 ⟨P1, pc1, rfl, hP1, hb⟩
               replace hS := hS.call hb rfl
               have hB111 := hB109.call hS rfl
               replace hC := hC.call hS rfl
               replace hT0 := blkb hT0 hS
               replace hT1 := blkb hT1 hS
               replace H := H.below hS
               replace HW := HW.below hS
               replace hst := hst.below hS
               replace hTs := hTs.below hS
               replace hOd := hOd.below hS
               replace hY1 := hY1.below hS
               replace hM1 := hM1.below hS
               replace hM := blkb hM hS
               replace hX1 := hX1.below hS
               replace hN := blkb hN hS
               refine hK _ _ hC ?_
               clear hS hb hB109 hK K
               try simp only [Act.put, List.setIfInBounds_toArray, List.set_cons_zero, List.set_cons_succ]
               refine wpPlanA_hard _ rfl (by rfl) (fun w112 hS K hK => ?_)
               go_simp
               refine (c20r c r P1 n pc1 ml _ hl (hP1.below hS)).mono ?_
               rintro e w113 ⟨P2, pc2, rfl, hP2, hb⟩
               replace hS := hS.call hb rfl
               have hB113 := hB111.call hS rfl
               replace hC := hC.call hS rfl
               replace hT0 := blkb hT0 hS
               replace hT1 := blkb hT1 hS
               replace H := H.below hS
               replace HW := HW.below hS
               replace hst := hst.below hS
               replace hTs := hTs.below hS
               replace hOd := hOd.below hS
               replace hY1 := hY1.below hS
               replace hM1 := hM1.below hS
               replace hM := blkb hM hS
               replace hX1 := hX1.below hS
               replace hN := blkb hN hS
               replace hP1 := hP1.below hS
               refine hK _ _ hC ?_
               clear hS hb hB111 hK K
               try simp only [Act.put, List.setIfInBounds_toArray, List.set_cons_zero, List.set_cons_succ]
               refine wpPlanA_hard _ rfl (by rfl) (fun w114 hS K hK => ?_)
               go_simp
               refine (c79 c r A n cap s w.heap.size _ hc1 hc hs300 (blkb hT0 hS)).mono ?_
               rintro e w115 ⟨rfl, hb⟩
               replace hS := hS.call hb rfl
               have hB115 := hB113.call hS rfl
               replace hC := hC.call hS rfl
               replace hT0 := blkb hT0 hS
               replace hT1 := blkb hT1 hS
               replace H := H.below hS
               replace HW := HW.below hS
               replace hst := hst.below hS
               replace hTs := hTs.below hS
               replace hOd := hOd.below hS
               replace hY1 := hY1.below hS
               replace hM1 := hM1.below hS
               replace hM := blkb hM hS
               replace hX1 := hX1.below hS
               replace hN := blkb hN hS
               replace hP1 := hP1.below hS
               replace hP2 := hP2.below hS
               refine hK _ _ hC ?_
               clear hS hb hB113 hK K
               try simp only [Act.put, List.setIfInBounds_toArray, List.set_cons_zero, List.set_cons_succ]
               refine wpPlanA_hard _ rfl (by rfl) (fun w116 hS K hK => ?_)
               go_simp
               refine (K58m.out _ _ _ (hP2.below hS) (hst.below hS)).mono ?_
               rintro e w117 ⟨U1, uc1, u, rfl, hU, hum, hb⟩
               replace hS := hS.call hb rfl
               have hB117 := hB115.call hS rfl
               replace hC := hC.call hS rfl
               replace hT0 := blkb hT0 hS
               replace hT1 := blkb hT1 hS
               replace H := H.below hS
               replace HW := HW.below hS
               replace hst := hst.below hS
               replace hTs := hTs.below hS
               replace hOd := hOd.below hS
               replace hY1 := hY1.below hS
               replace hM1 := hM1.below hS
               replace hM := blkb hM hS
               replace hX1 := hX1.below hS
               replace hN := blkb hN hS
               replace hP1 := hP1.below hS
               replace hP2 := hP2.below hS
               refine hK _ _ hC ?_
               clear hS hb hB115 hK K
               try simp only [Act.put, List.setIfInBounds_toArray, List.set_cons_zero, List.set_cons_succ]
               repeat (first | (refine wpPlanA_skip _ rfl (by rfl) ?_; simp only [Act.put, List.setIfInBounds_toArray, List.set_cons_zero, List.set_cons_succ]) | (refine wpPlanA_soft _ ?_ rfl (by rfl) ?_ ?_; rotate_left; (intro wq hq hcq; go_simp; first | exact rfl | exact ⟨rfl, rfl⟩); simp only [Act.put, List.setIfInBounds_toArray, List.set_cons_zero, List.set_cons_succ]))
               clear hP1
               clear hP2
               clear qhT0_0 qhT0_1 qhT0_2 qhT1_0 qhT1_1 qhT1_2 qhT1_3 qhT1_4 qhM_0 qhM_1 qhM_2 qhN_0 qhN_1 qhN_2
               refine wpPlanA_nil (fun w118 hS => ?_)
               clear hC zhT0 zhT1 zhM zhN
               have hB118 := hB117.call hS rfl
               replace hT0 := blkb hT0 hS
               replace hT1 := blkb hT1 hS
               replace H := H.below hS
               replace HW := HW.below hS
               replace hst := hst.below hS
               replace hTs := hTs.below hS
               replace hOd := hOd.below hS
               replace hY1 := hY1.below hS
               replace hM1 := hM1.below hS
               replace hM := blkb hM hS
               replace hX1 := hX1.below hS
               replace hN := blkb hN hS
               replace hU := hU.below hS
               clear hS hB117
               have qhT0_0 : w118.cell? ⟨w.heap.size, 0, none⟩ = some (.int .i64 c) := cell_at hT0 rfl
               have qhT0_1 : w118.cell? ⟨w.heap.size, 1, none⟩ = some (.int .i64 r) := cell_at hT0 rfl
               have qhT0_2 : w118.cell? ⟨w.heap.size, 2, none⟩ = some (.slice A n cap) := cell_at hT0 rfl
               have qhT1_0 : w118.cell? ⟨w.heap.size + 1, 0, none⟩ = some (.int .i64 s) := cell_at hT1 rfl
               have qhT1_1 : w118.cell? ⟨w.heap.size + 1, 1, none⟩ = some (.int .i64 d) := cell_at hT1 rfl
               have qhT1_2 : w118.cell? ⟨w.heap.size + 1, 2, none⟩ = some (.slice WA wn wc) := cell_at hT1 rfl
               have qhT1_3 : w118.cell? ⟨w.heap.size + 1, 3, none⟩ = some (.slice PA pn pc) := cell_at hT1 rfl
               have qhT1_4 : w118.cell? ⟨w.heap.size + 1, 4, none⟩ = some (.slice TA tn tc) := cell_at hT1 rfl
               have qhM_0 : w118.cell? ⟨bhM, 0, none⟩ = some (.int .i64 c) := cell_at hM rfl
               have qhM_1 : w118.cell? ⟨bhM, 1, none⟩ = some (.int .i64 r) := cell_at hM rfl
               have qhM_2 : w118.cell? ⟨bhM, 2, none⟩ = some (.slice M1 n mc1) := cell_at hM rfl
               have qhN_0 : w118.cell? ⟨bhN, 0, none⟩ = some (.int .i64 r) := cell_at hN rfl
               have qhN_1 : w118.cell? ⟨bhN, 1, none⟩ = some (.int .i64 c) := cell_at hN rfl
               have qhN_2 : w118.cell? ⟨bhN, 2, none⟩ = some (.slice X1 n xc1) := cell_at hN rfl
               have HUM := Lib.hid hum
               clear hum
               go_wp2_with fail
               refine wp_region_plan [(0, true), (3, true), (4, true), (5, true), (1, false), (2, false), (6, false), (7, false), (8, true), (9, true), (10, true), (11, true), (12, true)] w118.heap.size (by kernel_rfl) (by kernel_rfl) (Nat.le_refl _) (fun _ _ d _ _ h => by cases d <;> exact h) ?_
               have hC : Below w118.heap.size w118 w118 := Below.refl _ _
               have zhT0 : w.heap.size < w118.heap.size := (Array.getElem?_eq_some_iff.1 hT0).1
               have zhT1 : w.heap.size + 1 < w118.heap.size := (Array.getElem?_eq_some_iff.1 hT1).1
               have zhM : bhM < w118.heap.size := (Array.getElem?_eq_some_iff.1 hM).1
               have zhN : bhN < w118.heap.size := (Array.getElem?_eq_some_iff.1 hN).1
               repeat (first | (refine wpPlanA_skip _ rfl (by rfl) ?_; simp only [Act.put, List.setIfInBounds_toArray, List.set_cons_zero, List.set_cons_succ]) | (refine wpPlanA_soft _ ?_ rfl (by rfl) ?_ ?_; rotate_left; (intro wq hq hcq; go_simp; first | exact rfl | exact ⟨rfl, rfl⟩); simp only [Act.put, List.setIfInBounds_toArray, List.set_cons_zero, List.set_cons_succ]))
               refine wpPlanA_hard _ rfl (by rfl) (fun w119 hS K hK => ?_)
               go_simp
               refine (c71e r c X1 n xc1 rl _ hl (hX1.below hS)).mono ?_
               rintro e w120 ⟨P3, pc3, rfl, hP3, hb⟩
               replace hS := hS.call hb rfl
               have hB120 := hB118.call hS rfl
               replace hC := hC.call hS rfl
               replace hT0 := blkb hT0 hS
               replace hT1 := blkb hT1 hS
               replace H := H.below hS
               replace HW := HW.below hS
               replace hst := hst.below hS
               replace hTs := hTs.below hS
               replace hOd := hOd.below hS
               replace hY1 := hY1.below hS
               replace hM1 := hM1.below hS
               replace hM := blkb hM hS
               replace hX1 := hX1.below hS
               replace hN := blkb hN hS
               replace hU := hU.below hS
               refine hK _ _ hC ?_
               clear hS hb hB118 hK K
               try simp only [Act.put, List.setIfInBounds_toArray, List.set_cons_zero, List.set_cons_succ]
               refine wpPlanA_hard _ rfl (by rfl) (fun w121 hS K hK => ?_)
               go_simp
               refine (c20r r c P3 n pc3 rl _ hl (hP3.below hS)).mono ?_
               rintro e w122 ⟨P4, pc4, rfl, hP4, hb⟩
               replace hS := hS.call hb rfl
               have hB122 := hB120.call hS rfl
               replace hC := hC.call hS rfl
               replace hT0 := blkb hT0 hS
               replace hT1 := blkb hT1 hS
               replace H := H.below hS
               replace HW := HW.below hS
               replace hst := hst.below hS
               replace hTs := hTs.below hS
               replace hOd := hOd.below hS
               replace hY1 := hY1.below hS
               replace hM1 := hM1.below hS
               replace hM := blkb hM hS
               replace hX1 := hX1.below hS
               replace hN := blkb hN hS
               replace hU := hU.below hS
               replace hP3 := hP3.below hS
               refine hK _ _ hC ?_
               clear hS hb hB120 hK K
               try simp only [Act.put, List.setIfInBounds_toArray, List.set_cons_zero, List.set_cons_succ]
               refine wpPlanA_hard _ rfl (by rfl) (fun w123 hS K hK => ?_)
               go_simp
               refine (c80 c r A n cap s w.heap.size _ hc1 hr hc hs300 (blkb hT0 hS)).mono ?_
               rintro e w124 ⟨rfl, hb⟩
               replace hS := hS.call hb rfl
               have hB124 := hB122.call hS rfl
               replace hC := hC.call hS rfl
               replace hT0 := blkb hT0 hS
               replace hT1 := blkb hT1 hS
               replace H := H.below hS
               replace HW := HW.below hS
               replace hst := hst.below hS
               replace hTs := hTs.below hS
               replace hOd := hOd.below hS
               replace hY1 := hY1.below hS
               replace hM1 := hM1.below hS
               replace hM := blkb hM hS
               replace hX1 := hX1.below hS
               replace hN := blkb hN hS
               replace hU := hU.below hS
               replace hP3 := hP3.below hS
               replace hP4 := hP4.below hS
               refine hK _ _ hC ?_
               clear hS hb hB122 hK K
               try simp only [Act.put, List.setIfInBounds_toArray, List.set_cons_zero, List.set_cons_succ]
               refine wpPlanA_hard _ rfl (by rfl) (fun w125 hS K hK => ?_)
               go_simp
               refine (K58t.out _ _ _ (hP4.below hS) (hst.below hS)).mono ?_
               rintro e w126 ⟨Z1, zc1, v, rfl, hZ, hvm, hb⟩
               replace hS := hS.call hb rfl
               have hB126 := hB124.call hS rfl
               replace hC := hC.call hS rfl
               replace hT0 := blkb hT0 hS
               replace hT1 := blkb hT1 hS
               replace H := H.below hS
               replace HW := HW.below hS
               replace hst := hst.below hS
               replace hTs := hTs.below hS
               replace hOd := hOd.below hS
               replace hY1 := hY1.below hS
               replace hM1 := hM1.below hS
               replace hM := blkb hM hS
               replace hX1 := hX1.below hS
               replace hN := blkb hN hS
               replace hU := hU.below hS
               replace hP3 := hP3.below hS
               replace hP4 := hP4.below hS
               refine hK _ _ hC ?_
               clear hS hb hB124 hK K
               try simp only [Act.put, List.setIfInBounds_toArray, List.set_cons_zero, List.set_cons_succ]
               repeat (first | (refine wpPlanA_skip _ rfl (by rfl) ?_; simp only [Act.put, List.setIfInBounds_toArray, List.set_cons_zero, List.set_cons_succ]) | (refine wpPlanA_soft _ ?_ rfl (by rfl) ?_ ?_; rotate_left; (intro wq hq hcq; go_simp; first | exact rfl | exact ⟨rfl, rfl⟩); simp only [Act.put, List.setIfInBounds_toArray, List.set_cons_zero, List.set_cons_succ]))
               clear hP3
               clear hP4
               clear qhT0_0 qhT0_1 qhT0_2 qhT1_0 qhT1_1 qhT1_2 qhT1_3 qhT1_4 qhM_0 qhM_1 qhM_2 qhN_0 qhN_1 qhN_2
               refine wpPlanA_nil (fun w127 hS => ?_)
               clear hC zhT0 zhT1 zhM zhN
               have hB127 := hB126.call hS rfl
               replace hT0 := blkb hT0 hS
               replace hT1 := blkb hT1 hS
               replace H := H.below hS
               replace HW := HW.below hS
               replace hst := hst.below hS
               replace hTs := hTs.below hS
               replace hOd := hOd.below hS
               replace hY1 := hY1.below hS
               replace hM1 := hM1.below hS
               replace hM := blkb hM hS
               replace hX1 := hX1.below hS
               replace hN := blkb hN hS
               replace hU := hU.below hS
               replace hZ := hZ.below hS
               clear hS hB126
               have qhT0_0 : w127.cell? ⟨w.heap.size, 0, none⟩ = some (.int .i64 c) := cell_at hT0 rfl
               have qhT0_1 : w127.cell? ⟨w.heap.size, 1, none⟩ = some (.int .i64 r) := cell_at hT0 rfl
               have qhT0_2 : w127.cell? ⟨w.heap.size, 2, none⟩ = some (.slice A n cap) := cell_at hT0 rfl
               have qhT1_0 : w127.cell? ⟨w.heap.size + 1, 0, none⟩ = some (.int .i64 s) := cell_at hT1 rfl
               have qhT1_1 : w127.cell? ⟨w.heap.size + 1, 1, none⟩ = some (.int .i64 d) := cell_at hT1 rfl
               have qhT1_2 : w127.cell? ⟨w.heap.size + 1, 2, none⟩ = some (.slice WA wn wc) := cell_at hT1 rfl
               have qhT1_3 : w127.cell? ⟨w.heap.size + 1, 3, none⟩ = some (.slice PA pn pc) := cell_at hT1 rfl
               have qhT1_4 : w127.cell? ⟨w.heap.size + 1, 4, none⟩ = some (.slice TA tn tc) := cell_at hT1 rfl
               have qhM_0 : w127.cell? ⟨bhM, 0, none⟩ = some (.int .i64 c) := cell_at hM rfl
               have qhM_1 : w127.cell? ⟨bhM, 1, none⟩ = some (.int .i64 r) := cell_at hM rfl
               have qhM_2 : w127.cell? ⟨bhM, 2, none⟩ = some (.slice M1 n mc1) := cell_at hM rfl
               have qhN_0 : w127.cell? ⟨bhN, 0, none⟩ = some (.int .i64 r) := cell_at hN rfl
               have qhN_1 : w127.cell? ⟨bhN, 1, none⟩ = some (.int .i64 c) := cell_at hN rfl
               have qhN_2 : w127.cell? ⟨bhN, 2, none⟩ = some (.slice X1 n xc1) := cell_at hN rfl
               have HVM := Lib.hid hvm
               clear hvm
               obtain ⟨ub, uo, rfl, zu⟩ := hU.form (by omega)
               obtain ⟨vb, vo, rfl, zv⟩ := hZ.form (by omega)
               clear zu zv
               clear hM1
               clear hX1
               go_wp2_with fail
               go_loopw [410] (fun i wr => ∃ j : Nat, j ≤ n ∧ i = .int .i64 j ∧ Below w127.heap.size w127 wr) (fun i _ => n - (intOf i).toNat)
               case atStart => exact ⟨0, Nat.zero_le _, rfl, Below.refl _ _⟩
               case round =>
                obtain ⟨j, hj, rfl, hbr⟩ := hrel
                obtain ⟨w128, hww⟩ : ∃ W, W = wr := ⟨_, rfl⟩
                subst hww
                have hB128 := hB127.call hbr rfl
                replace hT0 := blkb hT0 hbr
                replace hT1 := blkb hT1 hbr
                replace H := H.below hbr
                replace HW := HW.below hbr
                replace hst := hst.below hbr
                replace hTs := hTs.below hbr
                replace hOd := hOd.below hbr
                replace hY1 := hY1.below hbr
                replace hM := blkb hM hbr
                replace hN := blkb hN hbr
                replace hU := hU.below hbr
                replace hZ := hZ.below hbr
                clear hB127
                have qhT0_0 : w128.cell? ⟨w.heap.size, 0, none⟩ = some (.int .i64 c) := cell_at hT0 rfl
                have qhT0_1 : w128.cell? ⟨w.heap.size, 1, none⟩ = some (.int .i64 r) := cell_at hT0 rfl
                have qhT0_2 : w128.cell? ⟨w.heap.size, 2, none⟩ = some (.slice A n cap) := cell_at hT0 rfl
                have qhT1_0 : w128.cell? ⟨w.heap.size + 1, 0, none⟩ = some (.int .i64 s) := cell_at hT1 rfl
                have qhT1_1 : w128.cell? ⟨w.heap.size + 1, 1, none⟩ = some (.int .i64 d) := cell_at hT1 rfl
                have qhT1_2 : w128.cell? ⟨w.heap.size + 1, 2, none⟩ = some (.slice WA wn wc) := cell_at hT1 rfl
                have qhT1_3 : w128.cell? ⟨w.heap.size + 1, 3, none⟩ = some (.slice PA pn pc) := cell_at hT1 rfl
                have qhT1_4 : w128.cell? ⟨w.heap.size + 1, 4, none⟩ = some (.slice TA tn tc) := cell_at hT1 rfl
                have qhM_0 : w128.cell? ⟨bhM, 0, none⟩ = some (.int .i64 c) := cell_at hM rfl
                have qhM_1 : w128.cell? ⟨bhM, 1, none⟩ = some (.int .i64 r) := cell_at hM rfl
                have qhM_2 : w128.cell? ⟨bhM, 2, none⟩ = some (.slice M1 n mc1) := cell_at hM rfl
                have qhN_0 : w128.cell? ⟨bhN, 0, none⟩ = some (.int .i64 r) := cell_at hN rfl
                have qhN_1 : w128.cell? ⟨bhN, 1, none⟩ = some (.int .i64 c) := cell_at hN rfl
                have qhN_2 : w128.cell? ⟨bhN, 2, none⟩ = some (.slice X1 n xc1) := cell_at hN rfl
                have hwk : IntKind.i64.wrap ((j : Int) + 1) = ((j + 1 : Nat) : Int) := by rw [wrapI (by omega)]; simp
                by_cases hlt : j < n
                ·
                  have hlt2 : (j : Int) < (n : Int) := by omega
                  have hj0 : (0 : Int) ≤ (j : Int) := by omega
                  have hj300 : j < 300 := by omega
                  have K79 : Hid (∀ W, W.heap[w.heap.size]? = some (.cells #[.int .i64 c, .int .i64 r, .slice A n cap] 24 (0, 0)) → Calls Tryz.prog 79 #[.int .i64 j, .pointer (some ⟨w.heap.size, 0, none⟩)] W fun en w' => en = .returned (.int .i64 (Im.mir c j : Nat)) ∧ Below W.heap.size W w') := Lib.hid (fun W h => c79 c r A n cap j _ W hc1 hc hj300 h)
                  have K80 : Hid (∀ W, W.heap[w.heap.size]? = some (.cells #[.int .i64 c, .int .i64 r, .slice A n cap] 24 (0, 0)) → Calls Tryz.prog 80 #[.int .i64 j, .pointer (some ⟨w.heap.size, 0, none⟩)] W fun en w' => en = .returned (.int .i64 (Im.acr c r j : Nat)) ∧ Below W.heap.size W w') := Lib.hid (fun W h => c80 c r A n cap j _ W hc1 hr hc hj300 h)
                  obtain ⟨hm1, hm2⟩ := HUM.out j hlt
                  obtain ⟨ha1, ha2⟩ := HVM.out j hlt
                  generalize Im.mir c j = mj at K79 hm1 hm2
                  generalize Im.acr c r j = aj at K80 ha1 ha2
                  have qu := hU.get hm1
                  have qv := hZ.get ha1
                  have qt := hTs.get hlt
                  rw [hm2] at qu
                  rw [ha2] at qv
                  generalize Im.at0 t j = x at qu qv qt
                  have zu := cell_lt qu
                  have zv := cell_lt qv
                  have zt := cell_lt qt
                  have hm3 : (mj : Int) < (n : Int) := by omega
                  have hm0 : (0 : Int) ≤ (mj : Int) := by omega
                  have ha3 : (aj : Int) < (n : Int) := by omega
                  have ha0 : (0 : Int) ≤ (aj : Int) := by omega
                  have hxx : (x != x) = false := by simp
                  clear hm2 ha2
                  go_wp2_with fail
                  refine wp_region_plan [(0, true), (1, true), (2, true), (6, true), (7, true), (8, true), (9, true), (3, false), (4, true), (5, true), (10, true), (11, true), (12, true), (13, true), (14, true), (18, true), (19, true), (20, true), (21, true), (15, false), (16, true), (17, true), (22, true), (23, true)] w128.heap.size (by kernel_rfl) (by kernel_rfl) (Nat.le_refl _) (fun _ _ d _ _ h => by cases d <;> exact h) ?_
                  have hC : Below w128.heap.size w128 w128 := Below.refl _ _
                  have zhT0 : w.heap.size < w128.heap.size := (Array.getElem?_eq_some_iff.1 hT0).1
                  have zhT1 : w.heap.size + 1 < w128.heap.size := (Array.getElem?_eq_some_iff.1 hT1).1
                  have zhM : bhM < w128.heap.size := (Array.getElem?_eq_some_iff.1 hM).1
                  have zhN : bhN < w128.heap.size := (Array.getElem?_eq_some_iff.1 hN).1
                  repeat (first | (refine wpPlanA_skip _ rfl (by rfl) ?_; simp only [Act.put, List.setIfInBounds_toArray, List.set_cons_zero, List.set_cons_succ]) | (refine wpPlanA_soft _ ?_ rfl (by rfl) ?_ ?_; rotate_left; (intro wq hq hcq; go_simp; first | exact rfl | exact ⟨rfl, rfl⟩); simp only [Act.put, List.setIfInBounds_toArray, List.set_cons_zero, List.set_cons_succ]))
                  refine wpPlanA_hard _ rfl (by rfl) (fun w129 hS K hK => ?_)
                  go_simp
                  refine (K79.out _ (blkb hT0 hS)).mono ?_
                  rintro e w130 ⟨rfl, hb⟩
                  replace hS := hS.call hb rfl
                  have hB130 := hB128.call hS rfl
                  replace hC := hC.call hS rfl
                  replace hT0 := blkb hT0 hS
                  replace hT1 := blkb hT1 hS
                  replace H := H.below hS
                  replace HW := HW.below hS
                  replace hst := hst.below hS
                  replace hTs := hTs.below hS
                  replace hOd := hOd.below hS
                  replace hY1 := hY1.below hS
                  replace hM := blkb hM hS
                  replace hN := blkb hN hS
                  replace hU := hU.below hS
                  replace hZ := hZ.below hS
                  replace hbr := hbr.call hS rfl
                  refine hK _ _ hC ?_
                  clear hS hb hB128 hK K
                  try simp only [Act.put, List.setIfInBounds_toArray, List.set_cons_zero, List.set_cons_succ]
                  repeat (first | (refine wpPlanA_skip _ rfl (by rfl) ?_; simp only [Act.put, List.setIfInBounds_toArray, List.set_cons_zero, List.set_cons_succ]) | (refine wpPlanA_soft _ ?_ rfl (by rfl) ?_ ?_; rotate_left; (intro wq hq hcq; go_simp; first | exact rfl | exact ⟨rfl, rfl⟩); simp only [Act.put, List.setIfInBounds_toArray, List.set_cons_zero, List.set_cons_succ]))
                  refine wpPlanA_hard _ rfl (by rfl) (fun w131 hS K hK => ?_)
                  go_simp
                  refine (K80.out _ (blkb hT0 hS)).mono ?_
                  rintro e w132 ⟨rfl, hb⟩
                  replace hS := hS.call hb rfl
                  have hB132 := hB130.call hS rfl
                  replace hC := hC.call hS rfl
                  replace hT0 := blkb hT0 hS
                  replace hT1 := blkb hT1 hS
                  replace H := H.below hS
                  replace HW := HW.below hS
                  replace hst := hst.below hS
                  replace hTs := hTs.below hS
                  replace hOd := hOd.below hS
                  replace hY1 := hY1.below hS
                  replace hM := blkb hM hS
                  replace hN := blkb hN hS
                  replace hU := hU.below hS
                  replace hZ := hZ.below hS
                  replace hbr := hbr.call hS rfl
                  refine hK _ _ hC ?_
                  clear hS hb hB130 hK K
                  try simp only [Act.put, List.setIfInBounds_toArray, List.set_cons_zero, List.set_cons_succ]
                  repeat (first | (refine wpPlanA_skip _ rfl (by rfl) ?_; simp only [Act.put, List.setIfInBounds_toArray, List.set_cons_zero, List.set_cons_succ]) | (refine wpPlanA_soft _ ?_ rfl (by rfl) ?_ ?_; rotate_left; (intro wq hq hcq; go_simp; first | exact rfl | exact ⟨rfl, rfl⟩); simp only [Act.put, List.setIfInBounds_toArray, List.set_cons_zero, List.set_cons_succ]))
                  clear qhT0_0 qhT0_1 qhT0_2 qhT1_0 qhT1_1 qhT1_2 qhT1_3 qhT1_4 qhM_0 qhM_1 qhM_2 qhN_0 qhN_1 qhN_2
                  refine wpPlanA_nil (fun w133 hS => ?_)
                  clear hC zhT0 zhT1 zhM zhN
                  have hB133 := hB132.call hS rfl
                  replace hT0 := blkb hT0 hS
                  replace hT1 := blkb hT1 hS
                  replace H := H.below hS
                  replace HW := HW.below hS
                  replace hst := hst.below hS
                  replace hTs := hTs.below hS
                  replace hOd := hOd.below hS
                  replace hY1 := hY1.below hS
                  replace hM := blkb hM hS
                  replace hN := blkb hN hS
                  replace hU := hU.below hS
                  replace hZ := hZ.below hS
                  replace hbr := hbr.call hS rfl
                  clear hS hB132
                  have qhT0_0 : w133.cell? ⟨w.heap.size, 0, none⟩ = some (.int .i64 c) := cell_at hT0 rfl
                  have qhT0_1 : w133.cell? ⟨w.heap.size, 1, none⟩ = some (.int .i64 r) := cell_at hT0 rfl
                  have qhT0_2 : w133.cell? ⟨w.heap.size, 2, none⟩ = some (.slice A n cap) := cell_at hT0 rfl
                  have qhT1_0 : w133.cell? ⟨w.heap.size + 1, 0, none⟩ = some (.int .i64 s) := cell_at hT1 rfl
                  have qhT1_1 : w133.cell? ⟨w.heap.size + 1, 1, none⟩ = some (.int .i64 d) := cell_at hT1 rfl
                  have qhT1_2 : w133.cell? ⟨w.heap.size + 1, 2, none⟩ = some (.slice WA wn wc) := cell_at hT1 rfl
                  have qhT1_3 : w133.cell? ⟨w.heap.size + 1, 3, none⟩ = some (.slice PA pn pc) := cell_at hT1 rfl
                  have qhT1_4 : w133.cell? ⟨w.heap.size + 1, 4, none⟩ = some (.slice TA tn tc) := cell_at hT1 rfl
                  have qhM_0 : w133.cell? ⟨bhM, 0, none⟩ = some (.int .i64 c) := cell_at hM rfl
                  have qhM_1 : w133.cell? ⟨bhM, 1, none⟩ = some (.int .i64 r) := cell_at hM rfl
                  have qhM_2 : w133.cell? ⟨bhM, 2, none⟩ = some (.slice M1 n mc1) := cell_at hM rfl
                  have qhN_0 : w133.cell? ⟨bhN, 0, none⟩ = some (.int .i64 r) := cell_at hN rfl
                  have qhN_1 : w133.cell? ⟨bhN, 1, none⟩ = some (.int .i64 c) := cell_at hN rfl
                  have qhN_2 : w133.cell? ⟨bhN, 2, none⟩ = some (.slice X1 n xc1) := cell_at hN rfl
                  have HBN := Lib.hid hbr
                  clear hbr qu qv qt zu zv zt
                  go_wp2
                  go_roundw
                  case rel => exact ⟨j + 1, by omega, by go_num, HBN.out⟩
                  case measure => simp [intOf]; omega
                obtain rfl : n = j := by omega
                clear hlt hj hwk
                go_wp2_with fail
                refine (c18 _ hst).mono ?_
                rintro e wz ⟨rfl, hz⟩
                go_wp2
                go_ret
                exact ⟨rfl, hB128.call hz rfl⟩
end Go.Proofs.YtdimmlljjmmdbaaGreatDoor
