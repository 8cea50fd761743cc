/- A part of the proofs about chapter 7 (image): contracts of functions and plain laws (V65). -/
import Derived.Test.YtdimmlljjmmdbaaGreatDoorA13
set_option linter.all false
namespace Go.Proofs.YtdimmlljjmmdbaaGreatDoor
open Go.RowKit Go.Shelf
set_option maxHeartbeats 8000000
set_option maxRecDepth 100000
theorem way_eq (c r : Int) (n m : Nat) (l u : List Int) (hl : n ≤ 1000000) : ∃ V E : Int,
    (∀ (B C : Option Addr) (cb cc : Nat) (W : World), RdI W B n l → RdI W C m u → Steps W → Calls Tryz.prog 73 #[.agg #[.int .i64 c, .int .i64 r, .slice B n cb], .slice C m cc] W fun en w' => en = .returned (.tuple #[.int .i64 V, .int .i64 E]) ∧ Below W.heap.size W w') ∧
    (∀ (B C : Option Addr) (cb cc : Nat) (W : World), RdI W B n l → RdI W C m u → Calls Tryz.prog 76 #[.agg #[.int .i64 c, .int .i64 r, .slice B n cb], .slice C m cc] W fun en w' => en = .returned (.tuple #[.int .i64 V, .int .i64 E]) ∧ Below W.heap.size W w') := by
  by_cases hE : Mo.first [Mo.ground c r l, Mo.when ((m : Int) == 0) 12, Mo.when (decide ((256 : Int) < (m : Int))) 5] = 0
  · have hg := Mo.first_zero hE (Mo.ground c r l) (by simp)
    have h1 := (Mo.when_zero (by decide)).1 (Mo.first_zero hE (Mo.when ((m : Int) == 0) 12) (by simp))
    have h2 := (Mo.when_zero (by decide)).1 (Mo.first_zero hE (Mo.when (decide ((256 : Int) < (m : Int))) 5) (by simp))
    have hm0 : 0 < m := by simp at h1; omega
    have hm : m ≤ 256 := by simp at h2; omega
    obtain ⟨c, r, rfl, rfl, hc, hr, g⟩ := Mo.ground_ok hg
    exact ⟨_, _, fun B C cb cc W h h' hs => c73_ok c r B n cb l C m cc u W g hc hr hm0 hm h h' hs, fun B C cb cc W h h' => c76_ok c r B n cb l C m cc u W g hc hr hm0 hm h h'⟩
  · exact ⟨_, _, fun B C cb cc W h h' hs => c73_bad c r B n cb l C m cc u W hl h hE, fun B C cb cc W h h' => c76_bad c r B n cb l C m cc u W hl h hE⟩
theorem pot_eq (c r s d : Int) (n m : Nat) (l u : List Int) (hl : n ≤ 1000000) (hm : m ≤ 1000000) : ∃ V E : Int,
    (∀ (B C : Option Addr) (cb cc : Nat) (W : World), RdI W B n l → RdI W C m u → Steps W → Calls Tryz.prog 74 #[.agg #[.int .i64 c, .int .i64 r, .slice B n cb], .int .i64 s, .int .i64 d, .slice C m cc] W fun en w' => en = .returned (.tuple #[.int .i64 V, .int .i64 E]) ∧ Below W.heap.size W w') ∧
    (∀ (B C : Option Addr) (cb cc : Nat) (W : World), RdI W B n l → RdI W C m u → Calls Tryz.prog 77 #[.agg #[.int .i64 c, .int .i64 r, .slice B n cb], .int .i64 s, .int .i64 d, .slice C m cc] W fun en w' => en = .returned (.tuple #[.int .i64 V, .int .i64 E]) ∧ Below W.heap.size W w') := by
  by_cases hE : Mo.first [Mo.ground c r l, Mo.cell n s, Mo.cell n d] = 0
  · have hg := Mo.first_zero hE (Mo.ground c r l) (by simp)
    have h1 := Mo.cell_ok.1 (Mo.first_zero hE (Mo.cell n s) (by simp))
    have h2 := Mo.cell_ok.1 (Mo.first_zero hE (Mo.cell n d) (by simp))
    obtain ⟨c, r, rfl, rfl, hc, hr, g⟩ := Mo.ground_ok hg
    obtain ⟨s, rfl⟩ : ∃ k : Nat, s = k := ⟨s.toNat, by omega⟩
    obtain ⟨d, rfl⟩ : ∃ k : Nat, d = k := ⟨d.toNat, by omega⟩
    have hs' : s < n := by omega
    have hd' : d < n := by omega
    exact ⟨_, _, fun B C cb cc W h h' hs => c74_ok c r B n cb l s d C m cc u W g hc hr h hs hs' hd' hm h', fun B C cb cc W h h' => c77_ok c r B n cb l s d C m cc u W g hc hr h hs' hd' hm h'⟩
  · exact ⟨_, _, fun B C cb cc W h h' hs => c74_bad c r B n cb l s d C m cc u W hl h hE, fun B C cb cc W h h' => c77_bad c r B n cb l s d C m cc u W hl h hE⟩
theorem tms_eq (c r s : Int) (n m : Nat) (l u : List Int) (hl : n ≤ 1000000) (hm : m ≤ 1000000) : ∃ E : Int,
    (∀ (B C : Option Addr) (cb cc : Nat) (W : World), RdI W B n l → RdI W C m u → Steps W → Calls Tryz.prog 75 #[.agg #[.int .i64 c, .int .i64 r, .slice B n cb], .int .i64 s, .slice C m cc] W fun en w' => en = .returned (.int .i64 E) ∧ Below W.heap.size W w') ∧
    (∀ (B C : Option Addr) (cb cc : Nat) (W : World), RdI W B n l → RdI W C m u → Calls Tryz.prog 78 #[.agg #[.int .i64 c, .int .i64 r, .slice B n cb], .int .i64 s, .slice C m cc] W fun en w' => en = .returned (.int .i64 E) ∧ Below W.heap.size W w') := by
  by_cases hE : Mo.first [Mo.ground c r l, Mo.cell n s] = 0
  · have hg := Mo.first_zero hE (Mo.ground c r l) (by simp)
    have h1 := Mo.cell_ok.1 (Mo.first_zero hE (Mo.cell n s) (by simp))
    obtain ⟨c, r, rfl, rfl, hc, hr, g⟩ := Mo.ground_ok hg
    obtain ⟨s, rfl⟩ : ∃ k : Nat, s = k := ⟨s.toNat, by omega⟩
    have hs' : s < n := by omega
    exact ⟨_, fun B C cb cc W h h' hs => c75_ok c r B n cb l s C m cc u W g hc hr h hs' hm h' hs, fun B C cb cc W h h' => c78_ok c r B n cb l s C m cc u W g hc hr h hs' hm h'⟩
  · exact ⟨_, fun B C cb cc W h h' hs => c75_bad c r B n cb l s C m cc u W hl h hE, fun B C cb cc W h h' => c78_bad c r B n cb l s C m cc u W hl h hE⟩

theorem l12 (c r : Int) (A : Option Addr) (n cap : Nat) (l : List Int) (s t : Int) (WA PA TA : Option Addr) (wn wc pn pc tn tc : Nat) (wl pl tl : List Int) (w : World) (H : RdI w A n l) (HW : RdI w WA wn wl) (HP : RdI w PA pn pl) (HT : RdI w TA tn tl) (hst : Steps w) :
   Calls Tryz.prog 12 #[.agg #[.int .i64 c, .int .i64 r, .slice A n cap], .agg #[.int .i64 s, .int .i64 t, .slice WA wn wc, .slice PA pn pc, .slice TA tn tc]] w fun en w' => en = .returned (.bool true) ∧ Below w.heap.size w w' := by
  obtain ⟨w0, hW⟩ : ∃ W, W = (w.alloc (Obj.cells #[.int .i64 c, .int .i64 r, .slice A n cap] 24)).alloc (Obj.cells #[.int .i64 s, .int .i64 t, .slice WA wn wc, .slice PA pn pc, .slice TA tn tc] 123) := ⟨_, rfl⟩
  have hT0 : w0.heap[w.heap.size]? = some (.cells #[.int .i64 c, .int .i64 r, .slice A n cap] 24 (0, 0)) := by rw [hW]; exact heap_old (by simp <;> omega) (heap_new (by simp))
  have hT1 : w0.heap[w.heap.size + 1]? = some (.cells #[.int .i64 s, .int .i64 t, .slice WA wn wc, .slice PA pn pc, .slice TA tn tc] 123 (0, 0)) := by rw [hW]; exact heap_new (by simp)
  have hB0 : Below w.heap.size w w0 := by rw [hW]; exact (((Below.refl _ _).alloc (by first | omega | (simp <;> omega)) _).alloc (by first | omega | (simp <;> omega)) _)
  replace H := H.below hB0
  replace HW := HW.below hB0
  replace HP := HP.below hB0
  replace HT := HT.below hB0
  replace hst := hst.below hB0
  go_enter Tryz.func12, Tryz.ntmps12
  go_wp2_with fail
  rw [← hW]
  clear hW
  have qhT0_0 : w0.cell? ⟨w.heap.size, 0, none⟩ = some (.int .i64 c) := cell_at hT0 rfl
  have qhT0_1 : w0.cell? ⟨w.heap.size, 1, none⟩ = some (.int .i64 r) := cell_at hT0 rfl
  have qhT0_2 : w0.cell? ⟨w.heap.size, 2, none⟩ = some (.slice A n cap) := cell_at hT0 rfl
  have qhT1_0 : w0.cell? ⟨w.heap.size + 1, 0, none⟩ = some (.int .i64 s) := cell_at hT1 rfl
  have qhT1_1 : w0.cell? ⟨w.heap.size + 1, 1, none⟩ = some (.int .i64 t) := cell_at hT1 rfl
  have qhT1_2 : w0.cell? ⟨w.heap.size + 1, 2, none⟩ = some (.slice WA wn wc) := cell_at hT1 rfl
  have qhT1_3 : w0.cell? ⟨w.heap.size + 1, 3, none⟩ = some (.slice PA pn pc) := cell_at hT1 rfl
  have qhT1_4 : w0.cell? ⟨w.heap.size + 1, 4, none⟩ = some (.slice TA tn tc) := cell_at hT1 rfl
  go_wp2_with fail
  refine (c16 c r A n cap _).mono ?_
  rintro e w1 ⟨⟨b1, rfl, hG⟩, hb⟩
  clear qhT0_0 qhT0_1 qhT0_2 qhT1_0 qhT1_1 qhT1_2 qhT1_3 qhT1_4
  have hS := hb
  have hB1 := hB0.call hS rfl
  replace hT0 := blkb hT0 hS
  replace hT1 := blkb hT1 hS
  replace H := H.below hS
  replace HW := HW.below hS
  replace HP := HP.below hS
  replace HT := HT.below hS
  replace hst := hst.below hS
  clear hS hB0
  have qhT0_0 : w1.cell? ⟨w.heap.size, 0, none⟩ = some (.int .i64 c) := cell_at hT0 rfl
  have qhT0_1 : w1.cell? ⟨w.heap.size, 1, none⟩ = some (.int .i64 r) := cell_at hT0 rfl
  have qhT0_2 : w1.cell? ⟨w.heap.size, 2, none⟩ = some (.slice A n cap) := cell_at hT0 rfl
  have qhT1_0 : w1.cell? ⟨w.heap.size + 1, 0, none⟩ = some (.int .i64 s) := cell_at hT1 rfl
  have qhT1_1 : w1.cell? ⟨w.heap.size + 1, 1, none⟩ = some (.int .i64 t) := cell_at hT1 rfl
  have qhT1_2 : w1.cell? ⟨w.heap.size + 1, 2, none⟩ = some (.slice WA wn wc) := cell_at hT1 rfl
  have qhT1_3 : w1.cell? ⟨w.heap.size + 1, 3, none⟩ = some (.slice PA pn pc) := cell_at hT1 rfl
  have qhT1_4 : w1.cell? ⟨w.heap.size + 1, 4, none⟩ = some (.slice TA tn tc) := cell_at hT1 rfl
  clear hb
  have HG := Lib.hid hG
  clear hG
  cases b1
  ·
      go_wp2_with fail
      refine (c18 _ hst).mono ?_
      rintro e wz ⟨rfl, hz⟩
      go_wp2
      go_ret
      exact ⟨rfl, hB1.call hz rfl⟩
  have hn : n ≤ 1000000 := by have h : n ≤ 30 := (by first | exact HG.out rfl | exact HG.out trivial); omega
  clear HG
  go_wp2_with fail
  refine (c72 s t WA PA TA wn pn tn wc pc tc _).mono ?_
  rintro e w2 ⟨⟨b2, rfl, hG⟩, hb⟩
  clear qhT0_0 qhT0_1 qhT0_2 qhT1_0 qhT1_1 qhT1_2 qhT1_3 qhT1_4
  have hS := hb
  have hB2 := hB1.call hS rfl
  replace hT0 := blkb hT0 hS
  replace hT1 := blkb hT1 hS
  replace H := H.below hS
  replace HW := HW.below hS
  replace HP := HP.below hS
  replace HT := HT.below hS
  replace hst := hst.below hS
  clear hS hB1
  have qhT0_0 : w2.cell? ⟨w.heap.size, 0, none⟩ = some (.int .i64 c) := cell_at hT0 rfl
  have qhT0_1 : w2.cell? ⟨w.heap.size, 1, none⟩ = some (.int .i64 r) := cell_at hT0 rfl
  have qhT0_2 : w2.cell? ⟨w.heap.size, 2, none⟩ = some (.slice A n cap) := cell_at hT0 rfl
  have qhT1_0 : w2.cell? ⟨w.heap.size + 1, 0, none⟩ = some (.int .i64 s) := cell_at hT1 rfl
  have qhT1_1 : w2.cell? ⟨w.heap.size + 1, 1, none⟩ = some (.int .i64 t) := cell_at hT1 rfl
  have qhT1_2 : w2.cell? ⟨w.heap.size + 1, 2, none⟩ = some (.slice WA wn wc) := cell_at hT1 rfl
  have qhT1_3 : w2.cell? ⟨w.heap.size + 1, 3, none⟩ = some (.slice PA pn pc) := cell_at hT1 rfl
  have qhT1_4 : w2.cell? ⟨w.heap.size + 1, 4, none⟩ = some (.slice TA tn tc) := cell_at hT1 rfl
  clear hb
  have HG := Lib.hid hG
  clear hG
  cases b2
  ·
      go_wp2_with fail
      refine (c18 _ hst).mono ?_
      rintro e wz ⟨rfl, hz⟩
      go_wp2
      go_ret
      exact ⟨rfl, hB2.call hz rfl⟩
  have hlen : (wn ≤ 30 ∨ wn = 257) ∧ pn ≤ 30 ∧ tn ≤ 30 := by first | exact HG.out rfl | exact HG.out trivial
  have hwn : wn ≤ 1000000 := by omega
  have hpn : pn ≤ 1000000 := by omega
  have htn : tn ≤ 1000000 := by omega
  clear HG hlen
  obtain ⟨V1, E1, k73, k76⟩ := way_eq c r n wn l wl hn
  obtain ⟨V2, E2, k74, k77⟩ := pot_eq c r s t n pn l pl hn hpn
  obtain ⟨E3, k75, k78⟩ := tms_eq c r s n tn l tl hn htn
  have K73 := Lib.hid k73
  have K74 := Lib.hid k74
  have K75 := Lib.hid k75
  have K76 := Lib.hid k76
  have K77 := Lib.hid k77
  have K78 := Lib.hid k78
  clear k73 k74 k75 k76 k77 k78
  go_wp2_with fail
  refine wp_region_plan [(0, true), (2, true), (3, true), (1, false), (4, false), (5, false), (6, true), (7, true), (8, true), (9, true), (10, true)] w2.heap.size (by kernel_rfl) (by kernel_rfl) (Nat.le_refl _) (fun _ _ d _ _ h => by cases d <;> exact h) ?_
  have hC : Below w2.heap.size w2 w2 := Below.refl _ _
  have zhT0 : w.heap.size < w2.heap.size := (Array.getElem?_eq_some_iff.1 hT0).1
  have zhT1 : w.heap.size + 1 < w2.heap.size := (Array.getElem?_eq_some_iff.1 hT1).1
  repeat (first | (refine wpPlanA_skip _ rfl (by rfl) ?_; simp only [Act.put, List.setIfInBounds_toArray, List.set_cons_zero, List.set_cons_succ]) | (refine wpPlanA_soft _ ?_ rfl (by rfl) ?_ ?_; rotate_left; (intro wq hq hcq; go_simp; first | exact rfl | exact ⟨rfl, rfl⟩); simp only [Act.put, List.setIfInBounds_toArray, List.set_cons_zero, List.set_cons_succ]))
  refine wpPlanA_hard _ rfl (by rfl) (fun w3 hS K hK => ?_)
  have hB3 := hB2.call hS rfl
  replace hC := hC.call hS rfl
  replace hT0 := blkb hT0 hS
  replace hT1 := blkb hT1 hS
  replace H := H.below hS
  replace HW := HW.below hS
  replace HP := HP.below hS
  replace HT := HT.below hS
  replace hst := hst.below hS
  clear hS hB2
  go_simp
  refine (c20 c r A n cap l _ hn H).mono ?_
  rintro e w4 ⟨B1, cb1, rfl, hr1, hcb1, hcm1, hb⟩
  have hB4 := hB3.call hb rfl
  replace hC := hC.call hb rfl
  replace hT0 := blkb hT0 hb
  replace hT1 := blkb hT1 hb
  replace H := H.below hb
  replace HW := HW.below hb
  replace HP := HP.below hb
  replace HT := HT.below hb
  replace hst := hst.below hb
  clear hb hB3
  refine hK _ _ hC ?_
  clear hK K
  try simp only [Act.put, List.setIfInBounds_toArray, List.set_cons_zero, List.set_cons_succ]
  try clear hcb1 hcm1
  repeat (first | (refine wpPlanA_skip _ rfl (by rfl) ?_; simp only [Act.put, List.setIfInBounds_toArray, List.set_cons_zero, List.set_cons_succ]) | (refine wpPlanA_soft _ ?_ rfl (by rfl) ?_ ?_; rotate_left; (intro wq hq hcq; go_simp; first | exact rfl | exact ⟨rfl, rfl⟩); simp only [Act.put, List.setIfInBounds_toArray, List.set_cons_zero, List.set_cons_succ]))
  refine wpPlanA_hard _ rfl (by rfl) (fun w5 hS K hK => ?_)
  have hB5 := hB4.call hS rfl
  replace hC := hC.call hS rfl
  replace hT0 := blkb hT0 hS
  replace hT1 := blkb hT1 hS
  replace H := H.below hS
  replace HW := HW.below hS
  replace HP := HP.below hS
  replace HT := HT.below hS
  replace hst := hst.below hS
  replace hr1 := hr1.below hS
  clear hS hB4
  go_simp
  refine (c22 WA wn wc wl _ hwn HW).mono ?_
  rintro e w6 ⟨v1, rfl, ho1, hb⟩
  have hB6 := hB5.call hb rfl
  replace hC := hC.call hb rfl
  replace hT0 := blkb hT0 hb
  replace hT1 := blkb hT1 hb
  replace H := H.below hb
  replace HW := HW.below hb
  replace HP := HP.below hb
  replace HT := HT.below hb
  replace hst := hst.below hb
  replace hr1 := hr1.below hb
  clear hb hB5
  obtain ⟨D1, dc1, rfl, hd1, _⟩ := own_form ho1
  clear ho1
  refine hK _ _ hC ?_
  clear hK K
  try simp only [Act.put, List.setIfInBounds_toArray, List.set_cons_zero, List.set_cons_succ]
  repeat (first | (refine wpPlanA_skip _ rfl (by rfl) ?_; simp only [Act.put, List.setIfInBounds_toArray, List.set_cons_zero, List.set_cons_succ]) | (refine wpPlanA_soft _ ?_ rfl (by rfl) ?_ ?_; rotate_left; (intro wq hq hcq; go_simp; first | exact rfl | exact ⟨rfl, rfl⟩); simp only [Act.put, List.setIfInBounds_toArray, List.set_cons_zero, List.set_cons_succ]))
  refine wpPlanA_hard _ rfl (by rfl) (fun w7 hS K hK => ?_)
  have hB7 := hB6.call hS rfl
  replace hC := hC.call hS rfl
  replace hT0 := blkb hT0 hS
  replace hT1 := blkb hT1 hS
  replace H := H.below hS
  replace HW := HW.below hS
  replace HP := HP.below hS
  replace HT := HT.below hS
  replace hst := hst.below hS
  replace hr1 := hr1.below hS
  replace hd1 := hd1.below hS
  clear hS hB6
  go_simp
  refine (K73.out _ _ _ _ _ hr1 hd1 hst).mono ?_
  rintro e w8 ⟨rfl, hb⟩
  have hB8 := hB7.call hb rfl
  replace hC := hC.call hb rfl
  replace hT0 := blkb hT0 hb
  replace hT1 := blkb hT1 hb
  replace H := H.below hb
  replace HW := HW.below hb
  replace HP := HP.below hb
  replace HT := HT.below hb
  replace hst := hst.below hb
  replace hr1 := hr1.below hb
  replace hd1 := hd1.below hb
  clear hb hB7
  refine hK _ _ hC ?_
  clear hK K
  try simp only [Act.put, List.setIfInBounds_toArray, List.set_cons_zero, List.set_cons_succ]
  repeat (first | (refine wpPlanA_skip _ rfl (by rfl) ?_; simp only [Act.put, List.setIfInBounds_toArray, List.set_cons_zero, List.set_cons_succ]) | (refine wpPlanA_soft _ ?_ rfl (by rfl) ?_ ?_; rotate_left; (intro wq hq hcq; go_simp; first | exact rfl | exact ⟨rfl, rfl⟩); simp only [Act.put, List.setIfInBounds_toArray, List.set_cons_zero, List.set_cons_succ]))
  clear hr1
  clear hd1
  clear qhT0_0 qhT0_1 qhT0_2 qhT1_0 qhT1_1 qhT1_2 qhT1_3 qhT1_4
  refine wpPlanA_nil (fun w9 hS => ?_)
  clear hC zhT0 zhT1
  have hB9 := hB8.call hS rfl
  replace hT0 := blkb hT0 hS
  replace hT1 := blkb hT1 hS
  replace H := H.below hS
  replace HW := HW.below hS
  replace HP := HP.below hS
  replace HT := HT.below hS
  replace hst := hst.below hS
  clear hS hB8
  have qhT0_0 : w9.cell? ⟨w.heap.size, 0, none⟩ = some (.int .i64 c) := cell_at hT0 rfl
  have qhT0_1 : w9.cell? ⟨w.heap.size, 1, none⟩ = some (.int .i64 r) := cell_at hT0 rfl
  have qhT0_2 : w9.cell? ⟨w.heap.size, 2, none⟩ = some (.slice A n cap) := cell_at hT0 rfl
  have qhT1_0 : w9.cell? ⟨w.heap.size + 1, 0, none⟩ = some (.int .i64 s) := cell_at hT1 rfl
  have qhT1_1 : w9.cell? ⟨w.heap.size + 1, 1, none⟩ = some (.int .i64 t) := cell_at hT1 rfl
  have qhT1_2 : w9.cell? ⟨w.heap.size + 1, 2, none⟩ = some (.slice WA wn wc) := cell_at hT1 rfl
  have qhT1_3 : w9.cell? ⟨w.heap.size + 1, 3, none⟩ = some (.slice PA pn pc) := cell_at hT1 rfl
  have qhT1_4 : w9.cell? ⟨w.heap.size + 1, 4, none⟩ = some (.slice TA tn tc) := cell_at hT1 rfl
  go_wp2_with fail
  refine wp_region_plan [(0, true), (2, true), (3, true), (4, true), (5, true), (6, true), (7, true), (1, false), (8, false), (9, false), (10, true), (11, true), (12, true), (13, true), (14, true)] w9.heap.size (by kernel_rfl) (by kernel_rfl) (Nat.le_refl _) (fun _ _ d _ _ h => by cases d <;> exact h) ?_
  have hC : Below w9.heap.size w9 w9 := Below.refl _ _
  have zhT0 : w.heap.size < w9.heap.size := (Array.getElem?_eq_some_iff.1 hT0).1
  have zhT1 : w.heap.size + 1 < w9.heap.size := (Array.getElem?_eq_some_iff.1 hT1).1
  repeat (first | (refine wpPlanA_skip _ rfl (by rfl) ?_; simp only [Act.put, List.setIfInBounds_toArray, List.set_cons_zero, List.set_cons_succ]) | (refine wpPlanA_soft _ ?_ rfl (by rfl) ?_ ?_; rotate_left; (intro wq hq hcq; go_simp; first | exact rfl | exact ⟨rfl, rfl⟩); simp only [Act.put, List.setIfInBounds_toArray, List.set_cons_zero, List.set_cons_succ]))
  refine wpPlanA_hard _ rfl (by rfl) (fun w10 hS K hK => ?_)
  have hB10 := hB9.call hS rfl
  replace hC := hC.call hS rfl
  replace hT0 := blkb hT0 hS
  replace hT1 := blkb hT1 hS
  replace H := H.below hS
  replace HW := HW.below hS
  replace HP := HP.below hS
  replace HT := HT.below hS
  replace hst := hst.below hS
  clear hS hB9
  go_simp
  refine (c20 c r A n cap l _ hn H).mono ?_
  rintro e w11 ⟨B2, cb2, rfl, hr2, hcb2, hcm2, hb⟩
  have hB11 := hB10.call hb rfl
  replace hC := hC.call hb rfl
  replace hT0 := blkb hT0 hb
  replace hT1 := blkb hT1 hb
  replace H := H.below hb
  replace HW := HW.below hb
  replace HP := HP.below hb
  replace HT := HT.below hb
  replace hst := hst.below hb
  clear hb hB10
  refine hK _ _ hC ?_
  clear hK K
  try simp only [Act.put, List.setIfInBounds_toArray, List.set_cons_zero, List.set_cons_succ]
  try clear hcb2 hcm2
  repeat (first | (refine wpPlanA_skip _ rfl (by rfl) ?_; simp only [Act.put, List.setIfInBounds_toArray, List.set_cons_zero, List.set_cons_succ]) | (refine wpPlanA_soft _ ?_ rfl (by rfl) ?_ ?_; rotate_left; (intro wq hq hcq; go_simp; first | exact rfl | exact ⟨rfl, rfl⟩); simp only [Act.put, List.setIfInBounds_toArray, List.set_cons_zero, List.set_cons_succ]))
  refine wpPlanA_hard _ rfl (by rfl) (fun w12 hS K hK => ?_)
  have hB12 := hB11.call hS rfl
  replace hC := hC.call hS rfl
  replace hT0 := blkb hT0 hS
  replace hT1 := blkb hT1 hS
  replace H := H.below hS
  replace HW := HW.below hS
  replace HP := HP.below hS
  replace HT := HT.below hS
  replace hst := hst.below hS
  replace hr2 := hr2.below hS
  clear hS hB11
  go_simp
  refine (c22 PA pn pc pl _ hpn HP).mono ?_
  rintro e w13 ⟨v2, rfl, ho2, hb⟩
  have hB13 := hB12.call hb rfl
  replace hC := hC.call hb rfl
  replace hT0 := blkb hT0 hb
  replace hT1 := blkb hT1 hb
  replace H := H.below hb
  replace HW := HW.below hb
  replace HP := HP.below hb
  replace HT := HT.below hb
  replace hst := hst.below hb
  replace hr2 := hr2.below hb
  clear hb hB12
  obtain ⟨D2, dc2, rfl, hd2, _⟩ := own_form ho2
  clear ho2
  refine hK _ _ hC ?_
  clear hK K
  try simp only [Act.put, List.setIfInBounds_toArray, List.set_cons_zero, List.set_cons_succ]
  repeat (first | (refine wpPlanA_skip _ rfl (by rfl) ?_; simp only [Act.put, List.setIfInBounds_toArray, List.set_cons_zero, List.set_cons_succ]) | (refine wpPlanA_soft _ ?_ rfl (by rfl) ?_ ?_; rotate_left; (intro wq hq hcq; go_simp; first | exact rfl | exact ⟨rfl, rfl⟩); simp only [Act.put, List.setIfInBounds_toArray, List.set_cons_zero, List.set_cons_succ]))
  refine wpPlanA_hard _ rfl (by rfl) (fun w14 hS K hK => ?_)
  have hB14 := hB13.call hS rfl
  replace hC := hC.call hS rfl
  replace hT0 := blkb hT0 hS
  replace hT1 := blkb hT1 hS
  replace H := H.below hS
  replace HW := HW.below hS
  replace HP := HP.below hS
  replace HT := HT.below hS
  replace hst := hst.below hS
  replace hr2 := hr2.below hS
  replace hd2 := hd2.below hS
  clear hS hB13
  go_simp
  refine (K74.out _ _ _ _ _ hr2 hd2 hst).mono ?_
  rintro e w15 ⟨rfl, hb⟩
  have hB15 := hB14.call hb rfl
  replace hC := hC.call hb rfl
  replace hT0 := blkb hT0 hb
  replace hT1 := blkb hT1 hb
  replace H := H.below hb
  replace HW := HW.below hb
  replace HP := HP.below hb
  replace HT := HT.below hb
  replace hst := hst.below hb
  replace hr2 := hr2.below hb
  replace hd2 := hd2.below hb
  clear hb hB14
  refine hK _ _ hC ?_
  clear hK K
  try simp only [Act.put, List.setIfInBounds_toArray, List.set_cons_zero, List.set_cons_succ]
  repeat (first | (refine wpPlanA_skip _ rfl (by rfl) ?_; simp only [Act.put, List.setIfInBounds_toArray, List.set_cons_zero, List.set_cons_succ]) | (refine wpPlanA_soft _ ?_ rfl (by rfl) ?_ ?_; rotate_left; (intro wq hq hcq; go_simp; first | exact rfl | exact ⟨rfl, rfl⟩); simp only [Act.put, List.setIfInBounds_toArray, List.set_cons_zero, List.set_cons_succ]))
  clear hr2
  clear hd2
  clear qhT0_0 qhT0_1 qhT0_2 qhT1_0 qhT1_1 qhT1_2 qhT1_3 qhT1_4
  refine wpPlanA_nil (fun w16 hS => ?_)
  clear hC zhT0 zhT1
  have hB16 := hB15.call hS rfl
  replace hT0 := blkb hT0 hS
  replace hT1 := blkb hT1 hS
  replace H := H.below hS
  replace HW := HW.below hS
  replace HP := HP.below hS
  replace HT := HT.below hS
  replace hst := hst.below hS
  clear hS hB15
  have qhT0_0 : w16.cell? ⟨w.heap.size, 0, none⟩ = some (.int .i64 c) := cell_at hT0 rfl
  have qhT0_1 : w16.cell? ⟨w.heap.size, 1, none⟩ = some (.int .i64 r) := cell_at hT0 rfl
  have qhT0_2 : w16.cell? ⟨w.heap.size, 2, none⟩ = some (.slice A n cap) := cell_at hT0 rfl
  have qhT1_0 : w16.cell? ⟨w.heap.size + 1, 0, none⟩ = some (.int .i64 s) := cell_at hT1 rfl
  have qhT1_1 : w16.cell? ⟨w.heap.size + 1, 1, none⟩ = some (.int .i64 t) := cell_at hT1 rfl
  have qhT1_2 : w16.cell? ⟨w.heap.size + 1, 2, none⟩ = some (.slice WA wn wc) := cell_at hT1 rfl
  have qhT1_3 : w16.cell? ⟨w.heap.size + 1, 3, none⟩ = some (.slice PA pn pc) := cell_at hT1 rfl
  have qhT1_4 : w16.cell? ⟨w.heap.size + 1, 4, none⟩ = some (.slice TA tn tc) := cell_at hT1 rfl
  go_wp2_with fail
  refine wp_region_plan [(0, true), (2, true), (3, true), (4, true), (5, true), (1, false), (6, false), (7, false), (8, true)] w16.heap.size (by kernel_rfl) (by kernel_rfl) (Nat.le_refl _) (fun _ _ d _ _ h => by cases d <;> exact h) ?_
  have hC : Below w16.heap.size w16 w16 := Below.refl _ _
  have zhT0 : w.heap.size < w16.heap.size := (Array.getElem?_eq_some_iff.1 hT0).1
  have zhT1 : w.heap.size + 1 < w16.heap.size := (Array.getElem?_eq_some_iff.1 hT1).1
  repeat (first | (refine wpPlanA_skip _ rfl (by rfl) ?_; simp only [Act.put, List.setIfInBounds_toArray, List.set_cons_zero, List.set_cons_succ]) | (refine wpPlanA_soft _ ?_ rfl (by rfl) ?_ ?_; rotate_left; (intro wq hq hcq; go_simp; first | exact rfl | exact ⟨rfl, rfl⟩); simp only [Act.put, List.setIfInBounds_toArray, List.set_cons_zero, List.set_cons_succ]))
  refine wpPlanA_hard _ rfl (by rfl) (fun w17 hS K hK => ?_)
  have hB17 := hB16.call hS rfl
  replace hC := hC.call hS rfl
  replace hT0 := blkb hT0 hS
  replace hT1 := blkb hT1 hS
  replace H := H.below hS
  replace HW := HW.below hS
  replace HP := HP.below hS
  replace HT := HT.below hS
  replace hst := hst.below hS
  clear hS hB16
  go_simp
  refine (c20 c r A n cap l _ hn H).mono ?_
  rintro e w18 ⟨B3, cb3, rfl, hr3, hcb3, hcm3, hb⟩
  have hB18 := hB17.call hb rfl
  replace hC := hC.call hb rfl
  replace hT0 := blkb hT0 hb
  replace hT1 := blkb hT1 hb
  replace H := H.below hb
  replace HW := HW.below hb
  replace HP := HP.below hb
  replace HT := HT.below hb
  replace hst := hst.below hb
  clear hb hB17
  refine hK _ _ hC ?_
  clear hK K
  try simp only [Act.put, List.setIfInBounds_toArray, List.set_cons_zero, List.set_cons_succ]
  try clear hcb3 hcm3
  repeat (first | (refine wpPlanA_skip _ rfl (by rfl) ?_; simp only [Act.put, List.setIfInBounds_toArray, List.set_cons_zero, List.set_cons_succ]) | (refine wpPlanA_soft _ ?_ rfl (by rfl) ?_ ?_; rotate_left; (intro wq hq hcq; go_simp; first | exact rfl | exact ⟨rfl, rfl⟩); simp only [Act.put, List.setIfInBounds_toArray, List.set_cons_zero, List.set_cons_succ]))
  refine wpPlanA_hard _ rfl (by rfl) (fun w19 hS K hK => ?_)
  have hB19 := hB18.call hS rfl
  replace hC := hC.call hS rfl
  replace hT0 := blkb hT0 hS
  replace hT1 := blkb hT1 hS
  replace H := H.below hS
  replace HW := HW.below hS
  replace HP := HP.below hS
  replace HT := HT.below hS
  replace hst := hst.below hS
  replace hr3 := hr3.below hS
  clear hS hB18
  go_simp
  refine (c22 TA tn tc tl _ htn HT).mono ?_
  rintro e w20 ⟨v3, rfl, ho3, hb⟩
  have hB20 := hB19.call hb rfl
  replace hC := hC.call hb rfl
  replace hT0 := blkb hT0 hb
  replace hT1 := blkb hT1 hb
  replace H := H.below hb
  replace HW := HW.below hb
  replace HP := HP.below hb
  replace HT := HT.below hb
  replace hst := hst.below hb
  replace hr3 := hr3.below hb
  clear hb hB19
  obtain ⟨D3, dc3, rfl, hd3, _⟩ := own_form ho3
  clear ho3
  refine hK _ _ hC ?_
  clear hK K
  try simp only [Act.put, List.setIfInBounds_toArray, List.set_cons_zero, List.set_cons_succ]
  repeat (first | (refine wpPlanA_skip _ rfl (by rfl) ?_; simp only [Act.put, List.setIfInBounds_toArray, List.set_cons_zero, List.set_cons_succ]) | (refine wpPlanA_soft _ ?_ rfl (by rfl) ?_ ?_; rotate_left; (intro wq hq hcq; go_simp; first | exact rfl | exact ⟨rfl, rfl⟩); simp only [Act.put, List.setIfInBounds_toArray, List.set_cons_zero, List.set_cons_succ]))
  refine wpPlanA_hard _ rfl (by rfl) (fun w21 hS K hK => ?_)
  have hB21 := hB20.call hS rfl
  replace hC := hC.call hS rfl
  replace hT0 := blkb hT0 hS
  replace hT1 := blkb hT1 hS
  replace H := H.below hS
  replace HW := HW.below hS
  replace HP := HP.below hS
  replace HT := HT.below hS
  replace hst := hst.below hS
  replace hr3 := hr3.below hS
  replace hd3 := hd3.below hS
  clear hS hB20
  go_simp
  refine (K75.out _ _ _ _ _ hr3 hd3 hst).mono ?_
  rintro e w22 ⟨rfl, hb⟩
  have hB22 := hB21.call hb rfl
  replace hC := hC.call hb rfl
  replace hT0 := blkb hT0 hb
  replace hT1 := blkb hT1 hb
  replace H := H.below hb
  replace HW := HW.below hb
  replace HP := HP.below hb
  replace HT := HT.below hb
  replace hst := hst.below hb
  replace hr3 := hr3.below hb
  replace hd3 := hd3.below hb
  clear hb hB21
  refine hK _ _ hC ?_
  clear hK K
  try simp only [Act.put, List.setIfInBounds_toArray, List.set_cons_zero, List.set_cons_succ]
  repeat (first | (refine wpPlanA_skip _ rfl (by rfl) ?_; simp only [Act.put, List.setIfInBounds_toArray, List.set_cons_zero, List.set_cons_succ]) | (refine wpPlanA_soft _ ?_ rfl (by rfl) ?_ ?_; rotate_left; (intro wq hq hcq; go_simp; first | exact rfl | exact ⟨rfl, rfl⟩); simp only [Act.put, List.setIfInBounds_toArray, List.set_cons_zero, List.set_cons_succ]))
  clear hr3
  clear hd3
  clear qhT0_0 qhT0_1 qhT0_2 qhT1_0 qhT1_1 qhT1_2 qhT1_3 qhT1_4
  refine wpPlanA_nil (fun w23 hS => ?_)
  clear hC zhT0 zhT1
  have hB23 := hB22.call hS rfl
  replace hT0 := blkb hT0 hS
  replace hT1 := blkb hT1 hS
  replace H := H.below hS
  replace HW := HW.below hS
  replace HP := HP.below hS
  replace HT := HT.below hS
  replace hst := hst.below hS
  clear hS hB22
  have qhT0_0 : w23.cell? ⟨w.heap.size, 0, none⟩ = some (.int .i64 c) := cell_at hT0 rfl
  have qhT0_1 : w23.cell? ⟨w.heap.size, 1, none⟩ = some (.int .i64 r) := cell_at hT0 rfl
  have qhT0_2 : w23.cell? ⟨w.heap.size, 2, none⟩ = some (.slice A n cap) := cell_at hT0 rfl
  have qhT1_0 : w23.cell? ⟨w.heap.size + 1, 0, none⟩ = some (.int .i64 s) := cell_at hT1 rfl
  have qhT1_1 : w23.cell? ⟨w.heap.size + 1, 1, none⟩ = some (.int .i64 t) := cell_at hT1 rfl
  have qhT1_2 : w23.cell? ⟨w.heap.size + 1, 2, none⟩ = some (.slice WA wn wc) := cell_at hT1 rfl
  have qhT1_3 : w23.cell? ⟨w.heap.size + 1, 3, none⟩ = some (.slice PA pn pc) := cell_at hT1 rfl
  have qhT1_4 : w23.cell? ⟨w.heap.size + 1, 4, none⟩ = some (.slice TA tn tc) := cell_at hT1 rfl
  go_wp2_with fail
  refine (K76.out _ _ _ _ _ H HW).mono ?_
  rintro e w24 ⟨rfl, hb⟩
  clear qhT0_0 qhT0_1 qhT0_2 qhT1_0 qhT1_1 qhT1_2 qhT1_3 qhT1_4
  have hS := hb
  have hB24 := hB23.call hS rfl
  replace hT0 := blkb hT0 hS
  replace hT1 := blkb hT1 hS
  replace H := H.below hS
  replace HW := HW.below hS
  replace HP := HP.below hS
  replace HT := HT.below hS
  replace hst := hst.below hS
  clear hS hB23
  have qhT0_0 : w24.cell? ⟨w.heap.size, 0, none⟩ = some (.int .i64 c) := cell_at hT0 rfl
  have qhT0_1 : w24.cell? ⟨w.heap.size, 1, none⟩ = some (.int .i64 r) := cell_at hT0 rfl
  have qhT0_2 : w24.cell? ⟨w.heap.size, 2, none⟩ = some (.slice A n cap) := cell_at hT0 rfl
  have qhT1_0 : w24.cell? ⟨w.heap.size + 1, 0, none⟩ = some (.int .i64 s) := cell_at hT1 rfl
  have qhT1_1 : w24.cell? ⟨w.heap.size + 1, 1, none⟩ = some (.int .i64 t) := cell_at hT1 rfl
  have qhT1_2 : w24.cell? ⟨w.heap.size + 1, 2, none⟩ = some (.slice WA wn wc) := cell_at hT1 rfl
  have qhT1_3 : w24.cell? ⟨w.heap.size + 1, 3, none⟩ = some (.slice PA pn pc) := cell_at hT1 rfl
  have qhT1_4 : w24.cell? ⟨w.heap.size + 1, 4, none⟩ = some (.slice TA tn tc) := cell_at hT1 rfl
  clear hb
  go_wp2_with fail
  refine (K77.out _ _ _ _ _ H HP).mono ?_
  rintro e w25 ⟨rfl, hb⟩
  clear qhT0_0 qhT0_1 qhT0_2 qhT1_0 qhT1_1 qhT1_2 qhT1_3 qhT1_4
  have hS := hb
  have hB25 := hB24.call hS rfl
  replace hT0 := blkb hT0 hS
  replace hT1 := blkb hT1 hS
  replace H := H.below hS
  replace HW := HW.below hS
  replace HP := HP.below hS
  replace HT := HT.below hS
  replace hst := hst.below hS
  clear hS hB24
  have qhT0_0 : w25.cell? ⟨w.heap.size, 0, none⟩ = some (.int .i64 c) := cell_at hT0 rfl
  have qhT0_1 : w25.cell? ⟨w.heap.size, 1, none⟩ = some (.int .i64 r) := cell_at hT0 rfl
  have qhT0_2 : w25.cell? ⟨w.heap.size, 2, none⟩ = some (.slice A n cap) := cell_at hT0 rfl
  have qhT1_0 : w25.cell? ⟨w.heap.size + 1, 0, none⟩ = some (.int .i64 s) := cell_at hT1 rfl
  have qhT1_1 : w25.cell? ⟨w.heap.size + 1, 1, none⟩ = some (.int .i64 t) := cell_at hT1 rfl
  have qhT1_2 : w25.cell? ⟨w.heap.size + 1, 2, none⟩ = some (.slice WA wn wc) := cell_at hT1 rfl
  have qhT1_3 : w25.cell? ⟨w.heap.size + 1, 3, none⟩ = some (.slice PA pn pc) := cell_at hT1 rfl
  have qhT1_4 : w25.cell? ⟨w.heap.size + 1, 4, none⟩ = some (.slice TA tn tc) := cell_at hT1 rfl
  clear hb
  go_wp2_with fail
  refine (K78.out _ _ _ _ _ H HT).mono ?_
  rintro e w26 ⟨rfl, hb⟩
  clear qhT0_0 qhT0_1 qhT0_2 qhT1_0 qhT1_1 qhT1_2 qhT1_3 qhT1_4
  have hS := hb
  have hB26 := hB25.call hS rfl
  replace hT0 := blkb hT0 hS
  replace hT1 := blkb hT1 hS
  replace H := H.below hS
  replace HW := HW.below hS
  replace HP := HP.below hS
  replace HT := HT.below hS
  replace hst := hst.below hS
  clear hS hB25
  have qhT0_0 : w26.cell? ⟨w.heap.size, 0, none⟩ = some (.int .i64 c) := cell_at hT0 rfl
  have qhT0_1 : w26.cell? ⟨w.heap.size, 1, none⟩ = some (.int .i64 r) := cell_at hT0 rfl
  have qhT0_2 : w26.cell? ⟨w.heap.size, 2, none⟩ = some (.slice A n cap) := cell_at hT0 rfl
  have qhT1_0 : w26.cell? ⟨w.heap.size + 1, 0, none⟩ = some (.int .i64 s) := cell_at hT1 rfl
  have qhT1_1 : w26.cell? ⟨w.heap.size + 1, 1, none⟩ = some (.int .i64 t) := cell_at hT1 rfl
  have qhT1_2 : w26.cell? ⟨w.heap.size + 1, 2, none⟩ = some (.slice WA wn wc) := cell_at hT1 rfl
  have qhT1_3 : w26.cell? ⟨w.heap.size + 1, 3, none⟩ = some (.slice PA pn pc) := cell_at hT1 rfl
  have qhT1_4 : w26.cell? ⟨w.heap.size + 1, 4, none⟩ = some (.slice TA tn tc) := cell_at hT1 rfl
  clear hb
  go_wp2_with fail
  refine (c18 _ hst).mono ?_
  rintro e wz ⟨rfl, hz⟩
  go_wp2
  go_ret
  exact ⟨rfl, hB26.call hz rfl⟩

end Go.Proofs.YtdimmlljjmmdbaaGreatDoor
