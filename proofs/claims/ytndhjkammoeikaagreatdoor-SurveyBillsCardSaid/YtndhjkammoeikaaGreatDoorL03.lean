/- A part of the proofs about chapter 9: contracts of functions and plain laws (W66, W67, W68, W69). -/
import Derived.Test.YtndhjkammoeikaaGreatDoorL02
import Derived.Test.YtndhjkammoeikaaGreatDoorA16
set_option linter.all false
namespace Go.Proofs.YtndhjkammoeikaaGreatDoor
open Go.RowKit
set_option maxHeartbeats 1000000
set_option maxRecDepth 20000

theorem u38 (v : Ves) (u : Wat) (A : Option Addr) (cap : Nat) (l : List Sgt) (S : Option Addr) (scap : Nat) (sh : List Spn) (tk : Int) (w : World) (hl : l.length ≤ 1000000) (H : RdL w 3 Sgt.enc A l) (hls : sh.length ≤ 1000000) (HS : RdL w 2 Spn.enc S sh) (P : Int × Int) (hP : P = Mo.window v u l sh tk) :
    Calls Tryz.prog 38 #[.agg #[.int .i64 v.sx, .int .i64 v.sy, .int .i64 v.dx, .int .i64 v.dy, .int .i64 v.n], .agg #[.int .i64 u.ring, .int .i64 u.speed, .int .i64 u.loss, .int .i64 u.clear, .int .i64 u.soft], .slice A l.length cap, .slice S sh.length scap, .int .i64 tk] w fun en w' => en = .returned (.tuple #[.int .i64 P.1, .int .i64 P.2]) ∧ Below w.heap.size w w' := by
  subst hP
  unfold Mo.window
  by_cases h : Mo.winE v u l sh tk = 0
  · rw [if_neg (by rw [h]; simp)]
    exact c38_ok v u A cap l S scap sh tk w H HS h
  · rw [if_pos h]
    exact c38_bad v u A cap l S scap sh tk w hl H hls HS h

theorem u41 (v : Ves) (u : Wat) (A : Option Addr) (cap : Nat) (l : List Sgt) (S : Option Addr) (scap : Nat) (sh : List Spn) (tk : Int) (w : World) (hl : l.length ≤ 1000000) (H : RdL w 3 Sgt.enc A l) (hls : sh.length ≤ 1000000) (HS : RdL w 2 Spn.enc S sh) (P : Int × Int) (hP : P = Mo.window v u l sh tk) :
    Calls Tryz.prog 41 #[.agg #[.int .i64 v.sx, .int .i64 v.sy, .int .i64 v.dx, .int .i64 v.dy, .int .i64 v.n], .agg #[.int .i64 u.ring, .int .i64 u.speed, .int .i64 u.loss, .int .i64 u.clear, .int .i64 u.soft], .slice A l.length cap, .slice S sh.length scap, .int .i64 tk] w fun en w' => en = .returned (.tuple #[.int .i64 P.1, .int .i64 P.2]) ∧ Below w.heap.size w w' := by
  subst hP
  unfold Mo.window
  by_cases h : Mo.winE v u l sh tk = 0
  · rw [if_neg (by rw [h]; simp)]
    have hk : 1 ≤ tk := (Mo.range_zero (Mo.first_zero h (Mo.range tk 1 4096) (by simp))).1
    rw [Mo.findW_search _ _ _ hk]
    exact c41_ok v u A cap l S scap sh tk w H HS h
  · rw [if_pos h]
    exact c41_bad v u A cap l S scap sh tk w hl H hls HS h

theorem l5 (v : Ves) (u : Wat) (A : Option Addr) (cap : Nat) (l : List Sgt) (S : Option Addr) (scap : Nat) (sh : List Spn) (G : Option Addr) (gcap : Nat) (we : List Spn) (tk : Int) (w : World) (H : RdL w 3 Sgt.enc A l) (HS : RdL w 2 Spn.enc S sh) (HG : RdL w 2 Spn.enc G we) (hs0 : S = none → scap = 0) (hg0 : G = none → gcap = 0) :
    Calls Tryz.prog 5 #[.agg #[.int .i64 v.sx, .int .i64 v.sy, .int .i64 v.dx, .int .i64 v.dy, .int .i64 v.n], .agg #[.int .i64 u.ring, .int .i64 u.speed, .int .i64 u.loss, .int .i64 u.clear, .int .i64 u.soft, .slice A l.length cap], .agg #[.slice S sh.length scap, .slice G we.length gcap, .int .i64 tk]] w fun en w' => en = .returned (.bool true) ∧ Below w.heap.size w w' := by
  obtain ⟨N, hN⟩ : ∃ N, N = l.length := ⟨_, rfl⟩
  obtain ⟨M, hM⟩ : ∃ M, M = sh.length := ⟨_, rfl⟩
  obtain ⟨R, hR⟩ : ∃ R, R = we.length := ⟨_, rfl⟩
  obtain ⟨P, hP⟩ : ∃ P, P = Mo.window v u l sh tk := ⟨_, rfl⟩
  obtain ⟨D, hD⟩ : ∃ D, D = Mo.diary v u l sh we := ⟨_, rfl⟩
  have hdl : D.1.length ≤ 64 := by
    rw [hD]
    unfold Mo.diary
    split
    · simp
    · unfold Mo.cap64
      split <;> simp <;> omega
  rw [← hN, ← hM, ← hR]
  have HN := Lib.hid hN
  have HM := Lib.hid hM
  have HR := Lib.hid hR
  have HP := Lib.hid hP
  have HD := Lib.hid hD
  have HS0 := Lib.hid hs0
  have HG0 := Lib.hid hg0
  clear hN hM hR hP hD hs0 hg0
  go_enter Tryz.func5, Tryz.ntmps5
  obtain ⟨w0, hW⟩ : ∃ W, W = ((w.alloc (Obj.cells #[.int .i64 v.sx, .int .i64 v.sy, .int .i64 v.dx, .int .i64 v.dy, .int .i64 v.n] 25)).alloc (Obj.cells #[.int .i64 u.ring, .int .i64 u.speed, .int .i64 u.loss, .int .i64 u.clear, .int .i64 u.soft, .slice A N cap] 60)).alloc (Obj.cells #[.slice S M scap, .slice G R gcap, .int .i64 tk] 69) := ⟨_, rfl⟩
  have hT0 : w0.heap[w.heap.size]? = some (.cells #[.int .i64 v.sx, .int .i64 v.sy, .int .i64 v.dx, .int .i64 v.dy, .int .i64 v.n] 25 (0, 0)) := by rw [hW]; exact heap_old (by simp <;> omega) (heap_old (by simp <;> omega) (heap_new (by simp)))
  have hT1 : w0.heap[w.heap.size + 1]? = some (.cells #[.int .i64 u.ring, .int .i64 u.speed, .int .i64 u.loss, .int .i64 u.clear, .int .i64 u.soft, .slice A N cap] 60 (0, 0)) := by rw [hW]; exact heap_old (by simp <;> omega) (heap_new (by simp))
  have hT2 : w0.heap[w.heap.size + 1 + 1]? = some (.cells #[.slice S M scap, .slice G R gcap, .int .i64 tk] 69 (0, 0)) := by rw [hW]; exact heap_new (by simp)
  have hB0 : Below w.heap.size w w0 := by rw [hW]; exact ((((Below.refl _ _).alloc (by first | omega | (simp <;> omega)) _).alloc (by first | omega | (simp <;> omega)) _).alloc (by first | omega | (simp <;> omega)) _)
  replace H := H.below hB0
  replace HS := HS.below hB0
  replace HG := HG.below hB0
  go_wp2_with fail
  rw [← hW]
  clear hW
  have qhT0_0 : w0.cell? ⟨w.heap.size, 0, none⟩ = some (.int .i64 v.sx) := cell_at hT0 rfl
  have qhT0_1 : w0.cell? ⟨w.heap.size, 1, none⟩ = some (.int .i64 v.sy) := cell_at hT0 rfl
  have qhT0_2 : w0.cell? ⟨w.heap.size, 2, none⟩ = some (.int .i64 v.dx) := cell_at hT0 rfl
  have qhT0_3 : w0.cell? ⟨w.heap.size, 3, none⟩ = some (.int .i64 v.dy) := cell_at hT0 rfl
  have qhT0_4 : w0.cell? ⟨w.heap.size, 4, none⟩ = some (.int .i64 v.n) := cell_at hT0 rfl
  have qhT1_0 : w0.cell? ⟨w.heap.size + 1, 0, none⟩ = some (.int .i64 u.ring) := cell_at hT1 rfl
  have qhT1_1 : w0.cell? ⟨w.heap.size + 1, 1, none⟩ = some (.int .i64 u.speed) := cell_at hT1 rfl
  have qhT1_2 : w0.cell? ⟨w.heap.size + 1, 2, none⟩ = some (.int .i64 u.loss) := cell_at hT1 rfl
  have qhT1_3 : w0.cell? ⟨w.heap.size + 1, 3, none⟩ = some (.int .i64 u.clear) := cell_at hT1 rfl
  have qhT1_4 : w0.cell? ⟨w.heap.size + 1, 4, none⟩ = some (.int .i64 u.soft) := cell_at hT1 rfl
  have qhT1_5 : w0.cell? ⟨w.heap.size + 1, 5, none⟩ = some (.slice A N cap) := cell_at hT1 rfl
  have qhT2_0 : w0.cell? ⟨w.heap.size + 1 + 1, 0, none⟩ = some (.slice S M scap) := cell_at hT2 rfl
  have qhT2_1 : w0.cell? ⟨w.heap.size + 1 + 1, 1, none⟩ = some (.slice G R gcap) := cell_at hT2 rfl
  have qhT2_2 : w0.cell? ⟨w.heap.size + 1 + 1, 2, none⟩ = some (.int .i64 tk) := cell_at hT2 rfl
  go_wp2_with fail
  refine (c14 v A N cap _).mono ?_
  rintro e w1 ⟨⟨b, rfl, hb1⟩, hb⟩
  clear qhT0_0 qhT0_1 qhT0_2 qhT0_3 qhT0_4 qhT1_0 qhT1_1 qhT1_2 qhT1_3 qhT1_4 qhT1_5 qhT2_0 qhT2_1 qhT2_2
  have hS := hb
  have hB1 := hB0.call hS rfl
  replace hT0 := blkb hT0 hS
  replace hT1 := blkb hT1 hS
  replace hT2 := blkb hT2 hS
  replace H := H.below hS
  replace HS := HS.below hS
  replace HG := HG.below hS
  clear hS hB0
  have qhT0_0 : w1.cell? ⟨w.heap.size, 0, none⟩ = some (.int .i64 v.sx) := cell_at hT0 rfl
  have qhT0_1 : w1.cell? ⟨w.heap.size, 1, none⟩ = some (.int .i64 v.sy) := cell_at hT0 rfl
  have qhT0_2 : w1.cell? ⟨w.heap.size, 2, none⟩ = some (.int .i64 v.dx) := cell_at hT0 rfl
  have qhT0_3 : w1.cell? ⟨w.heap.size, 3, none⟩ = some (.int .i64 v.dy) := cell_at hT0 rfl
  have qhT0_4 : w1.cell? ⟨w.heap.size, 4, none⟩ = some (.int .i64 v.n) := cell_at hT0 rfl
  have qhT1_0 : w1.cell? ⟨w.heap.size + 1, 0, none⟩ = some (.int .i64 u.ring) := cell_at hT1 rfl
  have qhT1_1 : w1.cell? ⟨w.heap.size + 1, 1, none⟩ = some (.int .i64 u.speed) := cell_at hT1 rfl
  have qhT1_2 : w1.cell? ⟨w.heap.size + 1, 2, none⟩ = some (.int .i64 u.loss) := cell_at hT1 rfl
  have qhT1_3 : w1.cell? ⟨w.heap.size + 1, 3, none⟩ = some (.int .i64 u.clear) := cell_at hT1 rfl
  have qhT1_4 : w1.cell? ⟨w.heap.size + 1, 4, none⟩ = some (.int .i64 u.soft) := cell_at hT1 rfl
  have qhT1_5 : w1.cell? ⟨w.heap.size + 1, 5, none⟩ = some (.slice A N cap) := cell_at hT1 rfl
  have qhT2_0 : w1.cell? ⟨w.heap.size + 1 + 1, 0, none⟩ = some (.slice S M scap) := cell_at hT2 rfl
  have qhT2_1 : w1.cell? ⟨w.heap.size + 1 + 1, 1, none⟩ = some (.slice G R gcap) := cell_at hT2 rfl
  have qhT2_2 : w1.cell? ⟨w.heap.size + 1 + 1, 2, none⟩ = some (.int .i64 tk) := cell_at hT2 rfl
  clear hb
  cases b
  case false =>
    go_wp2_with fail
    refine (c15 _).mono ?_
    rintro e wz ⟨rfl, hz⟩
    go_wp2
    go_ret
    exact ⟨rfl, hB1.call hz rfl⟩
  have hl := hb1 rfl
  clear hb1
  go_wp2_with fail
  refine (c37 S M scap _).mono ?_
  rintro e w' ⟨⟨b, rfl, hb2⟩, rfl⟩
  cases b
  case false =>
    go_wp2_with fail
    refine (c15 _).mono ?_
    rintro e wz ⟨rfl, hz⟩
    go_wp2
    go_ret
    exact ⟨rfl, hB1.call hz rfl⟩
  have hm := hb2 rfl
  clear hb2
  go_wp2_with fail
  refine (c37 G R gcap _).mono ?_
  rintro e w' ⟨⟨b, rfl, hb3⟩, rfl⟩
  cases b
  case false =>
    go_wp2_with fail
    refine (c15 _).mono ?_
    rintro e wz ⟨rfl, hz⟩
    go_wp2
    go_ret
    exact ⟨rfl, hB1.call hz rfl⟩
  have hr := hb3 rfl
  clear hb3
  go_wp2
  have hl6 : l.length ≤ 1000000 := by rw [← HN.out]; omega
  have hm6 : sh.length ≤ 1000000 := by rw [← HM.out]; omega
  have hr6 : we.length ≤ 1000000 := by rw [← HR.out]; omega
  refine wp_region_plan [(0, true), (1, true), (2, true), (3, true), (4, true), (6, true), (7, true), (9, true), (10, true), (5, false), (8, false), (11, false), (12, true), (13, true), (14, true), (15, true), (16, true)] w1.heap.size (by kernel_rfl) (by kernel_rfl) (Nat.le_refl _) (fun _ _ d _ _ h => by cases d <;> exact h) ?_
  have hC : Below w1.heap.size w1 w1 := Below.refl _ _
  have zhT0 : w.heap.size < w1.heap.size := (Array.getElem?_eq_some_iff.1 hT0).1
  have zhT1 : w.heap.size + 1 < w1.heap.size := (Array.getElem?_eq_some_iff.1 hT1).1
  have zhT2 : w.heap.size + 1 + 1 < w1.heap.size := (Array.getElem?_eq_some_iff.1 hT2).1
  repeat (first | (refine wpPlanA_skip _ rfl (by rfl) ?_; simp only [Act.put, List.setIfInBounds_toArray, List.set_cons_zero, List.set_cons_succ]) | (refine wpPlanA_soft _ ?_ rfl (by rfl) ?_ ?_; rotate_left; (intro wq hq hcq; go_simp; first | exact rfl | exact ⟨rfl, rfl⟩); simp only [Act.put, List.setIfInBounds_toArray, List.set_cons_zero, List.set_cons_succ]))
  simp only [HN.out, HM.out, HR.out]
  refine wpPlanA_hard _ rfl (by rfl) (fun w2 hS K hK => ?_)
  have hB2 := hB1.call hS rfl
  replace hC := hC.call hS rfl
  replace hT0 := blkb hT0 hS
  replace hT1 := blkb hT1 hS
  replace hT2 := blkb hT2 hS
  replace H := H.below hS
  replace HS := HS.below hS
  replace HG := HG.below hS
  clear hS hB1
  go_simp
  refine (c17 A cap l _ hl6 H).mono ?_
  rintro e w3 ⟨_, rfl, ⟨AT, CT, rfl, ht⟩, hb⟩
  have hB3 := hB2.call hb rfl
  replace hC := hC.call hb rfl
  replace hT0 := blkb hT0 hb
  replace hT1 := blkb hT1 hb
  replace hT2 := blkb hT2 hb
  replace H := H.below hb
  replace HS := HS.below hb
  replace HG := HG.below hb
  clear hb hB2
  refine hK _ _ hC ?_
  clear hK K
  try simp only [Act.put, List.setIfInBounds_toArray, List.set_cons_zero, List.set_cons_succ]
  refine wpPlanA_hard _ rfl (by rfl) (fun w4 hS K hK => ?_)
  have hB4 := hB3.call hS rfl
  replace hC := hC.call hS rfl
  replace hT0 := blkb hT0 hS
  replace hT1 := blkb hT1 hS
  replace hT2 := blkb hT2 hS
  replace H := H.below hS
  replace HS := HS.below hS
  replace HG := HG.below hS
  replace ht := ht.below hS
  clear hS hB3
  go_simp
  refine (c39 S scap sh _ hm6 HS HS0.out).mono ?_
  rintro e w5 ⟨_, rfl, ⟨AS, CS, rfl, hts⟩, hb⟩
  have hB5 := hB4.call hb rfl
  replace hC := hC.call hb rfl
  replace hT0 := blkb hT0 hb
  replace hT1 := blkb hT1 hb
  replace hT2 := blkb hT2 hb
  replace H := H.below hb
  replace HS := HS.below hb
  replace HG := HG.below hb
  replace ht := ht.below hb
  clear hb hB4
  refine hK _ _ hC ?_
  clear hK K
  try simp only [Act.put, List.setIfInBounds_toArray, List.set_cons_zero, List.set_cons_succ]
  refine wpPlanA_hard _ rfl (by rfl) (fun w6 hS K hK => ?_)
  have hB6 := hB5.call hS rfl
  replace hC := hC.call hS rfl
  replace hT0 := blkb hT0 hS
  replace hT1 := blkb hT1 hS
  replace hT2 := blkb hT2 hS
  replace H := H.below hS
  replace HS := HS.below hS
  replace HG := HG.below hS
  replace ht := ht.below hS
  replace hts := hts.below hS
  clear hS hB5
  go_simp
  refine (u38 v u AT CT l AS CS sh tk _ hl6 ht hm6 hts P HP.out).mono ?_
  rintro e w7 ⟨rfl, hb⟩
  have hB7 := hB6.call hb rfl
  replace hC := hC.call hb rfl
  replace hT0 := blkb hT0 hb
  replace hT1 := blkb hT1 hb
  replace hT2 := blkb hT2 hb
  replace H := H.below hb
  replace HS := HS.below hb
  replace HG := HG.below hb
  replace ht := ht.below hb
  replace hts := hts.below hb
  clear hb hB6
  refine hK _ _ hC ?_
  clear hK K
  try simp only [Act.put, List.setIfInBounds_toArray, List.set_cons_zero, List.set_cons_succ]
  repeat (first | (refine wpPlanA_skip _ rfl (by rfl) ?_; simp only [Act.put, List.setIfInBounds_toArray, List.set_cons_zero, List.set_cons_succ]) | (refine wpPlanA_soft _ ?_ rfl (by rfl) ?_ ?_; rotate_left; (intro wq hq hcq; go_simp; first | exact rfl | exact ⟨rfl, rfl⟩); simp only [Act.put, List.setIfInBounds_toArray, List.set_cons_zero, List.set_cons_succ]))
  clear qhT0_0 qhT0_1 qhT0_2 qhT0_3 qhT0_4 qhT1_0 qhT1_1 qhT1_2 qhT1_3 qhT1_4 qhT1_5 qhT2_0 qhT2_1 qhT2_2
  refine wpPlanA_nil (fun w8 hS => ?_)
  clear hC zhT0 zhT1 zhT2
  have hB8 := hB7.call hS rfl
  replace hT0 := blkb hT0 hS
  replace hT1 := blkb hT1 hS
  replace hT2 := blkb hT2 hS
  replace H := H.below hS
  replace HS := HS.below hS
  replace HG := HG.below hS
  replace ht := ht.below hS
  replace hts := hts.below hS
  clear hS hB7
  have qhT0_0 : w8.cell? ⟨w.heap.size, 0, none⟩ = some (.int .i64 v.sx) := cell_at hT0 rfl
  have qhT0_1 : w8.cell? ⟨w.heap.size, 1, none⟩ = some (.int .i64 v.sy) := cell_at hT0 rfl
  have qhT0_2 : w8.cell? ⟨w.heap.size, 2, none⟩ = some (.int .i64 v.dx) := cell_at hT0 rfl
  have qhT0_3 : w8.cell? ⟨w.heap.size, 3, none⟩ = some (.int .i64 v.dy) := cell_at hT0 rfl
  have qhT0_4 : w8.cell? ⟨w.heap.size, 4, none⟩ = some (.int .i64 v.n) := cell_at hT0 rfl
  have qhT1_0 : w8.cell? ⟨w.heap.size + 1, 0, none⟩ = some (.int .i64 u.ring) := cell_at hT1 rfl
  have qhT1_1 : w8.cell? ⟨w.heap.size + 1, 1, none⟩ = some (.int .i64 u.speed) := cell_at hT1 rfl
  have qhT1_2 : w8.cell? ⟨w.heap.size + 1, 2, none⟩ = some (.int .i64 u.loss) := cell_at hT1 rfl
  have qhT1_3 : w8.cell? ⟨w.heap.size + 1, 3, none⟩ = some (.int .i64 u.clear) := cell_at hT1 rfl
  have qhT1_4 : w8.cell? ⟨w.heap.size + 1, 4, none⟩ = some (.int .i64 u.soft) := cell_at hT1 rfl
  have qhT1_5 : w8.cell? ⟨w.heap.size + 1, 5, none⟩ = some (.slice A N cap) := cell_at hT1 rfl
  have qhT2_0 : w8.cell? ⟨w.heap.size + 1 + 1, 0, none⟩ = some (.slice S M scap) := cell_at hT2 rfl
  have qhT2_1 : w8.cell? ⟨w.heap.size + 1 + 1, 1, none⟩ = some (.slice G R gcap) := cell_at hT2 rfl
  have qhT2_2 : w8.cell? ⟨w.heap.size + 1 + 1, 2, none⟩ = some (.int .i64 tk) := cell_at hT2 rfl
  clear ht
  clear hts
  simp only [← HN.out, ← HM.out, ← HR.out]
  go_wp2
  refine wp_region_plan [(0, true), (1, true), (2, true), (3, true), (4, true), (6, true), (7, true), (9, true), (10, true), (5, false), (8, false), (11, false), (12, false), (13, true), (14, true), (15, true), (16, true), (17, true)] w8.heap.size (by kernel_rfl) (by kernel_rfl) (Nat.le_refl _) (fun _ _ d _ _ h => by cases d <;> exact h) ?_
  have hC : Below w8.heap.size w8 w8 := Below.refl _ _
  have zhT0 : w.heap.size < w8.heap.size := (Array.getElem?_eq_some_iff.1 hT0).1
  have zhT1 : w.heap.size + 1 < w8.heap.size := (Array.getElem?_eq_some_iff.1 hT1).1
  have zhT2 : w.heap.size + 1 + 1 < w8.heap.size := (Array.getElem?_eq_some_iff.1 hT2).1
  repeat (first | (refine wpPlanA_skip _ rfl (by rfl) ?_; simp only [Act.put, List.setIfInBounds_toArray, List.set_cons_zero, List.set_cons_succ]) | (refine wpPlanA_soft _ ?_ rfl (by rfl) ?_ ?_; rotate_left; (intro wq hq hcq; go_simp; first | exact rfl | exact ⟨rfl, rfl⟩); simp only [Act.put, List.setIfInBounds_toArray, List.set_cons_zero, List.set_cons_succ]))
  simp only [HN.out, HM.out, HR.out]
  refine wpPlanA_hard _ rfl (by rfl) (fun w9 hS K hK => ?_)
  have hB9 := hB8.call hS rfl
  replace hC := hC.call hS rfl
  replace hT0 := blkb hT0 hS
  replace hT1 := blkb hT1 hS
  replace hT2 := blkb hT2 hS
  replace H := H.below hS
  replace HS := HS.below hS
  replace HG := HG.below hS
  clear hS hB8
  go_simp
  refine (c17 A cap l _ hl6 H).mono ?_
  rintro e w10 ⟨_, rfl, ⟨AT, CT, rfl, ht⟩, hb⟩
  have hB10 := hB9.call hb rfl
  replace hC := hC.call hb rfl
  replace hT0 := blkb hT0 hb
  replace hT1 := blkb hT1 hb
  replace hT2 := blkb hT2 hb
  replace H := H.below hb
  replace HS := HS.below hb
  replace HG := HG.below hb
  clear hb hB9
  refine hK _ _ hC ?_
  clear hK K
  try simp only [Act.put, List.setIfInBounds_toArray, List.set_cons_zero, List.set_cons_succ]
  refine wpPlanA_hard _ rfl (by rfl) (fun w11 hS K hK => ?_)
  have hB11 := hB10.call hS rfl
  replace hC := hC.call hS rfl
  replace hT0 := blkb hT0 hS
  replace hT1 := blkb hT1 hS
  replace hT2 := blkb hT2 hS
  replace H := H.below hS
  replace HS := HS.below hS
  replace HG := HG.below hS
  replace ht := ht.below hS
  clear hS hB10
  go_simp
  refine (c39 S scap sh _ hm6 HS HS0.out).mono ?_
  rintro e w12 ⟨_, rfl, ⟨AS, CS, rfl, hts⟩, hb⟩
  have hB12 := hB11.call hb rfl
  replace hC := hC.call hb rfl
  replace hT0 := blkb hT0 hb
  replace hT1 := blkb hT1 hb
  replace hT2 := blkb hT2 hb
  replace H := H.below hb
  replace HS := HS.below hb
  replace HG := HG.below hb
  replace ht := ht.below hb
  clear hb hB11
  refine hK _ _ hC ?_
  clear hK K
  try simp only [Act.put, List.setIfInBounds_toArray, List.set_cons_zero, List.set_cons_succ]
  refine wpPlanA_hard _ rfl (by rfl) (fun w13 hS K hK => ?_)
  have hB13 := hB12.call hS rfl
  replace hC := hC.call hS rfl
  replace hT0 := blkb hT0 hS
  replace hT1 := blkb hT1 hS
  replace hT2 := blkb hT2 hS
  replace H := H.below hS
  replace HS := HS.below hS
  replace HG := HG.below hS
  replace ht := ht.below hS
  replace hts := hts.below hS
  clear hS hB12
  go_simp
  refine (c39 G gcap we _ hr6 HG HG0.out).mono ?_
  rintro e w14 ⟨_, rfl, ⟨AG, CG, rfl, htg⟩, hb⟩
  have hB14 := hB13.call hb rfl
  replace hC := hC.call hb rfl
  replace hT0 := blkb hT0 hb
  replace hT1 := blkb hT1 hb
  replace hT2 := blkb hT2 hb
  replace H := H.below hb
  replace HS := HS.below hb
  replace HG := HG.below hb
  replace ht := ht.below hb
  replace hts := hts.below hb
  clear hb hB13
  refine hK _ _ hC ?_
  clear hK K
  try simp only [Act.put, List.setIfInBounds_toArray, List.set_cons_zero, List.set_cons_succ]
  have h40 := fun w1 (H1 : RdL w1 3 Sgt.enc AT l) (H2 : RdL w1 2 Spn.enc AS sh) (H3 : RdL w1 2 Spn.enc AG we) => c40 v u AT CT l AS CS sh AG CG we w1 hl6 hm6 hr6 H1 H2 H3
  rw [← HD.out] at h40
  have H40 := Lib.hid h40
  clear h40
  refine wpPlanA_hard _ rfl (by rfl) (fun w15 hS K hK => ?_)
  have hB15 := hB14.call hS rfl
  replace hC := hC.call hS rfl
  replace hT0 := blkb hT0 hS
  replace hT1 := blkb hT1 hS
  replace hT2 := blkb hT2 hS
  replace H := H.below hS
  replace HS := HS.below hS
  replace HG := HG.below hS
  replace ht := ht.below hS
  replace hts := hts.below hS
  replace htg := htg.below hS
  clear hS hB14
  go_simp
  refine (H40.out _ ht hts htg).mono ?_
  rintro e w16 ⟨_, rfl, ⟨A1, C1, rfl, h1⟩, hb⟩
  have hB16 := hB15.call hb rfl
  replace hC := hC.call hb rfl
  replace hT0 := blkb hT0 hb
  replace hT1 := blkb hT1 hb
  replace hT2 := blkb hT2 hb
  replace H := H.below hb
  replace HS := HS.below hb
  replace HG := HG.below hb
  replace ht := ht.below hb
  replace hts := hts.below hb
  replace htg := htg.below hb
  clear hb hB15
  refine hK _ _ hC ?_
  clear hK K
  try simp only [Act.put, List.setIfInBounds_toArray, List.set_cons_zero, List.set_cons_succ]
  repeat (first | (refine wpPlanA_skip _ rfl (by rfl) ?_; simp only [Act.put, List.setIfInBounds_toArray, List.set_cons_zero, List.set_cons_succ]) | (refine wpPlanA_soft _ ?_ rfl (by rfl) ?_ ?_; rotate_left; (intro wq hq hcq; go_simp; first | exact rfl | exact ⟨rfl, rfl⟩); simp only [Act.put, List.setIfInBounds_toArray, List.set_cons_zero, List.set_cons_succ]))
  clear qhT0_0 qhT0_1 qhT0_2 qhT0_3 qhT0_4 qhT1_0 qhT1_1 qhT1_2 qhT1_3 qhT1_4 qhT1_5 qhT2_0 qhT2_1 qhT2_2
  refine wpPlanA_nil (fun w17 hS => ?_)
  clear hC zhT0 zhT1 zhT2
  have hB17 := hB16.call hS rfl
  replace hT0 := blkb hT0 hS
  replace hT1 := blkb hT1 hS
  replace hT2 := blkb hT2 hS
  replace H := H.below hS
  replace HS := HS.below hS
  replace HG := HG.below hS
  replace ht := ht.below hS
  replace hts := hts.below hS
  replace htg := htg.below hS
  replace h1 := h1.below hS
  clear hS hB16
  have qhT0_0 : w17.cell? ⟨w.heap.size, 0, none⟩ = some (.int .i64 v.sx) := cell_at hT0 rfl
  have qhT0_1 : w17.cell? ⟨w.heap.size, 1, none⟩ = some (.int .i64 v.sy) := cell_at hT0 rfl
  have qhT0_2 : w17.cell? ⟨w.heap.size, 2, none⟩ = some (.int .i64 v.dx) := cell_at hT0 rfl
  have qhT0_3 : w17.cell? ⟨w.heap.size, 3, none⟩ = some (.int .i64 v.dy) := cell_at hT0 rfl
  have qhT0_4 : w17.cell? ⟨w.heap.size, 4, none⟩ = some (.int .i64 v.n) := cell_at hT0 rfl
  have qhT1_0 : w17.cell? ⟨w.heap.size + 1, 0, none⟩ = some (.int .i64 u.ring) := cell_at hT1 rfl
  have qhT1_1 : w17.cell? ⟨w.heap.size + 1, 1, none⟩ = some (.int .i64 u.speed) := cell_at hT1 rfl
  have qhT1_2 : w17.cell? ⟨w.heap.size + 1, 2, none⟩ = some (.int .i64 u.loss) := cell_at hT1 rfl
  have qhT1_3 : w17.cell? ⟨w.heap.size + 1, 3, none⟩ = some (.int .i64 u.clear) := cell_at hT1 rfl
  have qhT1_4 : w17.cell? ⟨w.heap.size + 1, 4, none⟩ = some (.int .i64 u.soft) := cell_at hT1 rfl
  have qhT1_5 : w17.cell? ⟨w.heap.size + 1, 5, none⟩ = some (.slice A N cap) := cell_at hT1 rfl
  have qhT2_0 : w17.cell? ⟨w.heap.size + 1 + 1, 0, none⟩ = some (.slice S M scap) := cell_at hT2 rfl
  have qhT2_1 : w17.cell? ⟨w.heap.size + 1 + 1, 1, none⟩ = some (.slice G R gcap) := cell_at hT2 rfl
  have qhT2_2 : w17.cell? ⟨w.heap.size + 1 + 1, 2, none⟩ = some (.int .i64 tk) := cell_at hT2 rfl
  clear ht
  clear hts
  clear htg
  clear H40
  simp only [← HN.out, ← HM.out, ← HR.out]
  have h41 := fun w1 (H1 : RdL w1 3 Sgt.enc A l) (H2 : RdL w1 2 Spn.enc S sh) => u41 v u A cap l S scap sh tk w1 hl6 H1 hm6 H2 P HP.out
  have h42 := fun w1 (H1 : RdL w1 3 Sgt.enc A l) (H2 : RdL w1 2 Spn.enc S sh) (H3 : RdL w1 2 Spn.enc G we) => c42 v u A cap l S scap sh G gcap we w1 hl6 hm6 hr6 H1 H2 H3
  rw [← HD.out] at h42
  rw [← HN.out, ← HM.out] at h41
  rw [← HN.out, ← HM.out, ← HR.out] at h42
  have H41 := Lib.hid h41
  have H42 := Lib.hid h42
  clear h41 h42
  go_wp2_with fail
  refine (H41.out _ H HS).mono ?_
  rintro e w18 ⟨rfl, hb⟩
  clear qhT0_0 qhT0_1 qhT0_2 qhT0_3 qhT0_4 qhT1_0 qhT1_1 qhT1_2 qhT1_3 qhT1_4 qhT1_5 qhT2_0 qhT2_1 qhT2_2
  have hS := hb
  have hB18 := hB17.call hS rfl
  replace hT0 := blkb hT0 hS
  replace hT1 := blkb hT1 hS
  replace hT2 := blkb hT2 hS
  replace H := H.below hS
  replace HS := HS.below hS
  replace HG := HG.below hS
  replace h1 := h1.below hS
  clear hS hB17
  have qhT0_0 : w18.cell? ⟨w.heap.size, 0, none⟩ = some (.int .i64 v.sx) := cell_at hT0 rfl
  have qhT0_1 : w18.cell? ⟨w.heap.size, 1, none⟩ = some (.int .i64 v.sy) := cell_at hT0 rfl
  have qhT0_2 : w18.cell? ⟨w.heap.size, 2, none⟩ = some (.int .i64 v.dx) := cell_at hT0 rfl
  have qhT0_3 : w18.cell? ⟨w.heap.size, 3, none⟩ = some (.int .i64 v.dy) := cell_at hT0 rfl
  have qhT0_4 : w18.cell? ⟨w.heap.size, 4, none⟩ = some (.int .i64 v.n) := cell_at hT0 rfl
  have qhT1_0 : w18.cell? ⟨w.heap.size + 1, 0, none⟩ = some (.int .i64 u.ring) := cell_at hT1 rfl
  have qhT1_1 : w18.cell? ⟨w.heap.size + 1, 1, none⟩ = some (.int .i64 u.speed) := cell_at hT1 rfl
  have qhT1_2 : w18.cell? ⟨w.heap.size + 1, 2, none⟩ = some (.int .i64 u.loss) := cell_at hT1 rfl
  have qhT1_3 : w18.cell? ⟨w.heap.size + 1, 3, none⟩ = some (.int .i64 u.clear) := cell_at hT1 rfl
  have qhT1_4 : w18.cell? ⟨w.heap.size + 1, 4, none⟩ = some (.int .i64 u.soft) := cell_at hT1 rfl
  have qhT1_5 : w18.cell? ⟨w.heap.size + 1, 5, none⟩ = some (.slice A N cap) := cell_at hT1 rfl
  have qhT2_0 : w18.cell? ⟨w.heap.size + 1 + 1, 0, none⟩ = some (.slice S M scap) := cell_at hT2 rfl
  have qhT2_1 : w18.cell? ⟨w.heap.size + 1 + 1, 1, none⟩ = some (.slice G R gcap) := cell_at hT2 rfl
  have qhT2_2 : w18.cell? ⟨w.heap.size + 1 + 1, 2, none⟩ = some (.int .i64 tk) := cell_at hT2 rfl
  clear hb
  go_wp2_with fail
  refine (H42.out _ H HS HG).mono ?_
  rintro e w19 ⟨_, rfl, ⟨A2, C2, rfl, h2⟩, hb⟩
  clear qhT0_0 qhT0_1 qhT0_2 qhT0_3 qhT0_4 qhT1_0 qhT1_1 qhT1_2 qhT1_3 qhT1_4 qhT1_5 qhT2_0 qhT2_1 qhT2_2
  have hS := hb
  have hB19 := hB18.call hS rfl
  replace hT0 := blkb hT0 hS
  replace hT1 := blkb hT1 hS
  replace hT2 := blkb hT2 hS
  replace H := H.below hS
  replace HS := HS.below hS
  replace HG := HG.below hS
  replace h1 := h1.below hS
  clear hS hB18
  have qhT0_0 : w19.cell? ⟨w.heap.size, 0, none⟩ = some (.int .i64 v.sx) := cell_at hT0 rfl
  have qhT0_1 : w19.cell? ⟨w.heap.size, 1, none⟩ = some (.int .i64 v.sy) := cell_at hT0 rfl
  have qhT0_2 : w19.cell? ⟨w.heap.size, 2, none⟩ = some (.int .i64 v.dx) := cell_at hT0 rfl
  have qhT0_3 : w19.cell? ⟨w.heap.size, 3, none⟩ = some (.int .i64 v.dy) := cell_at hT0 rfl
  have qhT0_4 : w19.cell? ⟨w.heap.size, 4, none⟩ = some (.int .i64 v.n) := cell_at hT0 rfl
  have qhT1_0 : w19.cell? ⟨w.heap.size + 1, 0, none⟩ = some (.int .i64 u.ring) := cell_at hT1 rfl
  have qhT1_1 : w19.cell? ⟨w.heap.size + 1, 1, none⟩ = some (.int .i64 u.speed) := cell_at hT1 rfl
  have qhT1_2 : w19.cell? ⟨w.heap.size + 1, 2, none⟩ = some (.int .i64 u.loss) := cell_at hT1 rfl
  have qhT1_3 : w19.cell? ⟨w.heap.size + 1, 3, none⟩ = some (.int .i64 u.clear) := cell_at hT1 rfl
  have qhT1_4 : w19.cell? ⟨w.heap.size + 1, 4, none⟩ = some (.int .i64 u.soft) := cell_at hT1 rfl
  have qhT1_5 : w19.cell? ⟨w.heap.size + 1, 5, none⟩ = some (.slice A N cap) := cell_at hT1 rfl
  have qhT2_0 : w19.cell? ⟨w.heap.size + 1 + 1, 0, none⟩ = some (.slice S M scap) := cell_at hT2 rfl
  have qhT2_1 : w19.cell? ⟨w.heap.size + 1 + 1, 1, none⟩ = some (.slice G R gcap) := cell_at hT2 rfl
  have qhT2_2 : w19.cell? ⟨w.heap.size + 1 + 1, 2, none⟩ = some (.int .i64 tk) := cell_at hT2 rfl
  clear hb
  go_wp2_with fail
  refine (c44 A1 C1 D.1 _ (by omega) h1).mono ?_
  rintro e w20 ⟨_, rfl, ⟨A3, C3, rfl, h3⟩, hb⟩
  clear qhT0_0 qhT0_1 qhT0_2 qhT0_3 qhT0_4 qhT1_0 qhT1_1 qhT1_2 qhT1_3 qhT1_4 qhT1_5 qhT2_0 qhT2_1 qhT2_2
  have hS := hb
  have hB20 := hB19.call hS rfl
  replace hT0 := blkb hT0 hS
  replace hT1 := blkb hT1 hS
  replace hT2 := blkb hT2 hS
  replace H := H.below hS
  replace HS := HS.below hS
  replace HG := HG.below hS
  replace h1 := h1.below hS
  replace h2 := h2.below hS
  clear hS hB19
  have qhT0_0 : w20.cell? ⟨w.heap.size, 0, none⟩ = some (.int .i64 v.sx) := cell_at hT0 rfl
  have qhT0_1 : w20.cell? ⟨w.heap.size, 1, none⟩ = some (.int .i64 v.sy) := cell_at hT0 rfl
  have qhT0_2 : w20.cell? ⟨w.heap.size, 2, none⟩ = some (.int .i64 v.dx) := cell_at hT0 rfl
  have qhT0_3 : w20.cell? ⟨w.heap.size, 3, none⟩ = some (.int .i64 v.dy) := cell_at hT0 rfl
  have qhT0_4 : w20.cell? ⟨w.heap.size, 4, none⟩ = some (.int .i64 v.n) := cell_at hT0 rfl
  have qhT1_0 : w20.cell? ⟨w.heap.size + 1, 0, none⟩ = some (.int .i64 u.ring) := cell_at hT1 rfl
  have qhT1_1 : w20.cell? ⟨w.heap.size + 1, 1, none⟩ = some (.int .i64 u.speed) := cell_at hT1 rfl
  have qhT1_2 : w20.cell? ⟨w.heap.size + 1, 2, none⟩ = some (.int .i64 u.loss) := cell_at hT1 rfl
  have qhT1_3 : w20.cell? ⟨w.heap.size + 1, 3, none⟩ = some (.int .i64 u.clear) := cell_at hT1 rfl
  have qhT1_4 : w20.cell? ⟨w.heap.size + 1, 4, none⟩ = some (.int .i64 u.soft) := cell_at hT1 rfl
  have qhT1_5 : w20.cell? ⟨w.heap.size + 1, 5, none⟩ = some (.slice A N cap) := cell_at hT1 rfl
  have qhT2_0 : w20.cell? ⟨w.heap.size + 1 + 1, 0, none⟩ = some (.slice S M scap) := cell_at hT2 rfl
  have qhT2_1 : w20.cell? ⟨w.heap.size + 1 + 1, 1, none⟩ = some (.slice G R gcap) := cell_at hT2 rfl
  have qhT2_2 : w20.cell? ⟨w.heap.size + 1 + 1, 2, none⟩ = some (.int .i64 tk) := cell_at hT2 rfl
  clear hb
  go_wp2_with fail
  refine (c43 A3 A2 C3 C2 D.1 _ (by omega) h3 h2).mono ?_
  rintro e w21 ⟨rfl, hb⟩
  clear qhT0_0 qhT0_1 qhT0_2 qhT0_3 qhT0_4 qhT1_0 qhT1_1 qhT1_2 qhT1_3 qhT1_4 qhT1_5 qhT2_0 qhT2_1 qhT2_2
  have hS := hb
  have hB21 := hB20.call hS rfl
  replace hT0 := blkb hT0 hS
  replace hT1 := blkb hT1 hS
  replace hT2 := blkb hT2 hS
  replace H := H.below hS
  replace HS := HS.below hS
  replace HG := HG.below hS
  replace h1 := h1.below hS
  replace h2 := h2.below hS
  replace h3 := h3.below hS
  clear hS hB20
  have qhT0_0 : w21.cell? ⟨w.heap.size, 0, none⟩ = some (.int .i64 v.sx) := cell_at hT0 rfl
  have qhT0_1 : w21.cell? ⟨w.heap.size, 1, none⟩ = some (.int .i64 v.sy) := cell_at hT0 rfl
  have qhT0_2 : w21.cell? ⟨w.heap.size, 2, none⟩ = some (.int .i64 v.dx) := cell_at hT0 rfl
  have qhT0_3 : w21.cell? ⟨w.heap.size, 3, none⟩ = some (.int .i64 v.dy) := cell_at hT0 rfl
  have qhT0_4 : w21.cell? ⟨w.heap.size, 4, none⟩ = some (.int .i64 v.n) := cell_at hT0 rfl
  have qhT1_0 : w21.cell? ⟨w.heap.size + 1, 0, none⟩ = some (.int .i64 u.ring) := cell_at hT1 rfl
  have qhT1_1 : w21.cell? ⟨w.heap.size + 1, 1, none⟩ = some (.int .i64 u.speed) := cell_at hT1 rfl
  have qhT1_2 : w21.cell? ⟨w.heap.size + 1, 2, none⟩ = some (.int .i64 u.loss) := cell_at hT1 rfl
  have qhT1_3 : w21.cell? ⟨w.heap.size + 1, 3, none⟩ = some (.int .i64 u.clear) := cell_at hT1 rfl
  have qhT1_4 : w21.cell? ⟨w.heap.size + 1, 4, none⟩ = some (.int .i64 u.soft) := cell_at hT1 rfl
  have qhT1_5 : w21.cell? ⟨w.heap.size + 1, 5, none⟩ = some (.slice A N cap) := cell_at hT1 rfl
  have qhT2_0 : w21.cell? ⟨w.heap.size + 1 + 1, 0, none⟩ = some (.slice S M scap) := cell_at hT2 rfl
  have qhT2_1 : w21.cell? ⟨w.heap.size + 1 + 1, 1, none⟩ = some (.slice G R gcap) := cell_at hT2 rfl
  have qhT2_2 : w21.cell? ⟨w.heap.size + 1 + 1, 2, none⟩ = some (.int .i64 tk) := cell_at hT2 rfl
  clear hb
  go_wp2_with fail
  refine (c15 _).mono ?_
  rintro e wz ⟨rfl, hz⟩
  go_wp2
  go_ret
  exact ⟨rfl, hB21.call hz rfl⟩

end Go.Proofs.YtndhjkammoeikaaGreatDoor
namespace Go.Proofs.YtndhjkammoeikaaGreatDoor
open Go.RowKit
set_option maxHeartbeats 1000000
set_option maxRecDepth 20000
theorem c51w (A : Option Addr) (cap : Nat) (l : List Ent) (w : World) (hl : l.length ≤ 9223372036854775807) (H : RdL w 3 Ent.enc A l) :
    Calls Tryz.prog 51 #[.slice A l.length cap] w fun en w' => RB (l.length ≤ 65 ∧ ∀ e ∈ l, e.c.size ≤ 40) en ∧ w = w' := by
  obtain ⟨n, hn⟩ : ∃ n, n = l.length := ⟨_, rfl⟩
  rw [← hn] at hl ⊢
  have Hn := Lib.hid hn
  clear hn
  go_enter Tryz.func51, Tryz.ntmps51
  go_wp2
  go_loop [3] (fun i => ∃ j : Nat, j ≤ n ∧ i = .int .i64 j ∧ ∀ e ∈ l.take j, e.c.size ≤ 40) (fun i => n - (intOf i).toNat)
  case atStart => exact ⟨0, Nat.zero_le _, rfl, by simp⟩
  case round =>
    obtain ⟨j, hj, rfl, he⟩ := hrel
    have HE := Lib.hid he
    clear he
    by_cases hlt : j < n
    · obtain ⟨b, off, s, rfl, hx, hb, hc⟩ := H.at Ent.len (by rw [← Hn.out]; exact hlt)
      have q0 : w.cell? ⟨b, off + j * 3 + 2, none⟩ = some (.string s.c) := hc 2 (by omega)
      have HT : Hid (l.take (j + 1) = l.take j ++ [s]) := by
        show _ = _
        obtain ⟨hk, rfl⟩ := List.getElem?_eq_some_iff.1 hx
        exact List.take_succ_eq_append_getElem hk
      clear hc hx
      by_cases h1 : s.c.size ≤ 40
      · have h2 : ¬ (40 : Int) < (s.c.size : Int) := by omega
        have HN : Hid (∀ e ∈ l.take (j + 1), e.c.size ≤ 40) := by
          show ∀ e ∈ _, _
          rw [HT.out]
          intro e he
          rcases List.mem_append.1 he with h | h
          · exact HE.out e h
          · simp at h; subst h; exact h1
        go_wp2
        go_round
        case rel => exact ⟨j+1, by omega, by go_num, HN.out⟩
        case measure => simp [intOf]; omega
      · have h2 : (40 : Int) < (s.c.size : Int) := by omega
        go_wp2
        go_ret
        exact ⟨⟨false, rfl, fun h => by simp at h⟩, rfl⟩
    · obtain rfl : j = n := by omega
      have HA : Hid (∀ e ∈ l, e.c.size ≤ 40) := by
        show ∀ e ∈ _, _
        have := HE.out
        rw [Hn.out, List.take_length] at this
        exact this
      rcases (show j ≤ 10 ∨ j = 65 ∨ (¬ j ≤ 10 ∧ j ≠ 65) by omega) with h | h | ⟨h, h2⟩
      · have h1 : (j : Int) ≤ 10 := by omega
        go_wp2
        go_ret
        exact ⟨⟨true, rfl, fun _ => ⟨by omega, HA.out⟩⟩, rfl⟩
      · have h1 : ¬ (j : Int) ≤ 10 := by omega
        have h3 : ((j : Int) == 65) = true := by simp; omega
        have h4 : Hid (j ≤ 65) := by show _ ≤ _; omega
        clear h
        go_wp2
        go_ret
        exact ⟨⟨true, rfl, fun _ => ⟨h4.out, HA.out⟩⟩, rfl⟩
      · have h1 : ¬ (j : Int) ≤ 10 := by omega
        have h3 : ((j : Int) == 65) = false := by simp; omega
        clear h h2
        go_wp2
        go_ret
        exact ⟨⟨false, rfl, fun h => by simp at h⟩, rfl⟩

theorem c64w (A : Option Addr) (cap : Nat) (l : List Res) (w : World) (hl : l.length ≤ 9223372036854775807) (H : RdL w 3 Res.enc A l) :
    Calls Tryz.prog 64 #[.slice A l.length cap] w fun en w' => RB (l.length ≤ 65 ∧ ∀ e ∈ l, e.n.size ≤ 40) en ∧ w = w' := by
  obtain ⟨n, hn⟩ : ∃ n, n = l.length := ⟨_, rfl⟩
  rw [← hn] at hl ⊢
  have Hn := Lib.hid hn
  clear hn
  go_enter Tryz.func64, Tryz.ntmps64
  go_wp2
  go_loop [3] (fun i => ∃ j : Nat, j ≤ n ∧ i = .int .i64 j ∧ ∀ e ∈ l.take j, e.n.size ≤ 40) (fun i => n - (intOf i).toNat)
  case atStart => exact ⟨0, Nat.zero_le _, rfl, by simp⟩
  case round =>
    obtain ⟨j, hj, rfl, he⟩ := hrel
    have HE := Lib.hid he
    clear he
    by_cases hlt : j < n
    · obtain ⟨b, off, s, rfl, hx, hb, hc⟩ := H.at Res.len (by rw [← Hn.out]; exact hlt)
      have q0 : w.cell? ⟨b, off + j * 3, none⟩ = some (.string s.n) := hc 0 (by omega)
      have HT : Hid (l.take (j + 1) = l.take j ++ [s]) := by
        show _ = _
        obtain ⟨hk, rfl⟩ := List.getElem?_eq_some_iff.1 hx
        exact List.take_succ_eq_append_getElem hk
      clear hc hx
      by_cases h1 : s.n.size ≤ 40
      · have h2 : ¬ (40 : Int) < (s.n.size : Int) := by omega
        have HN : Hid (∀ e ∈ l.take (j + 1), e.n.size ≤ 40) := by
          show ∀ e ∈ _, _
          rw [HT.out]
          intro e he
          rcases List.mem_append.1 he with h | h
          · exact HE.out e h
          · simp at h; subst h; exact h1
        go_wp2
        go_round
        case rel => exact ⟨j+1, by omega, by go_num, HN.out⟩
        case measure => simp [intOf]; omega
      · have h2 : (40 : Int) < (s.n.size : Int) := by omega
        go_wp2
        go_ret
        exact ⟨⟨false, rfl, fun h => by simp at h⟩, rfl⟩
    · obtain rfl : j = n := by omega
      have HA : Hid (∀ e ∈ l, e.n.size ≤ 40) := by
        show ∀ e ∈ _, _
        have := HE.out
        rw [Hn.out, List.take_length] at this
        exact this
      rcases (show j ≤ 8 ∨ j = 65 ∨ (¬ j ≤ 8 ∧ j ≠ 65) by omega) with h | h | ⟨h, h2⟩
      · have h1 : (j : Int) ≤ 8 := by omega
        go_wp2
        go_ret
        exact ⟨⟨true, rfl, fun _ => ⟨by omega, HA.out⟩⟩, rfl⟩
      · have h1 : ¬ (j : Int) ≤ 8 := by omega
        have h3 : ((j : Int) == 65) = true := by simp; omega
        have h4 : Hid (j ≤ 65) := by show _ ≤ _; omega
        clear h
        go_wp2
        go_ret
        exact ⟨⟨true, rfl, fun _ => ⟨h4.out, HA.out⟩⟩, rfl⟩
      · have h1 : ¬ (j : Int) ≤ 8 := by omega
        have h3 : ((j : Int) == 65) = false := by simp; omega
        clear h h2
        go_wp2
        go_ret
        exact ⟨⟨false, rfl, fun h => by simp at h⟩, rfl⟩

end Go.Proofs.YtndhjkammoeikaaGreatDoor
namespace Go.Proofs.YtndhjkammoeikaaGreatDoor
open Go.RowKit
set_option maxHeartbeats 4000000
set_option maxRecDepth 20000

theorem eq85r (h : Nat → Int) (w : World) : (Op.equalIn 10000 85 (.agg #[.int .i64 (h 0), .int .i64 (h 1), .int .i64 (h 2), .int .i64 (h 3), .int .i64 (h 4), .int .i64 (h 5)]) (.agg #[.int .i64 (h 0), .int .i64 (h 1), .int .i64 (h 2), .int .i64 (h 3), .int .i64 (h 4), .int .i64 (h 5)])).run Tryz.prog w = .ok true w := by
  have := eq85 h h w
  rw [arr6_eq, show eq6 h h = true from (eq6_iff h h).2 (fun _ _ => rfl)] at this
  exact this
theorem eq111r (a b : Int) (w : World) : (Op.equalIn 10000 111 (.agg #[.int .i64 a, .int .i64 b]) (.agg #[.int .i64 a, .int .i64 b])).run Tryz.prog w = .ok true w := by
  have u3 := Tryz.underlying3
  have a3 := Tryz.isAgg3
  have z3 := Tryz.sizeOf3
  rw [show (10000 : Nat) = 9999 + 1 from rfl, run_equalIn_struct w 9999 111 _ _ (by unfold Program.fieldsOf; rw [Tryz.underlying111]) (by kernel_rfl)]
  unfold Program.fieldsOf
  rw [Tryz.underlying111]
  simp only [Op.eqFields]
  go_simp
theorem grown_blk {w w' : World} {g k : Nat} {o : Obj} (hg : w.grownBy w' (some g)) (h : w.heap[k]? = some o) (hne : k ≠ g) : w'.heap[k]? = some o :=
  (hg.block k (Array.getElem?_eq_some_iff.1 h).1 (by intro e; cases e; exact hne rfl)).trans h
/-- entries do not lie in a block of integers -/
theorem grown_ents {w w' : World} {g n : Nat} {A : Option Addr} {l : List Ent} {cs : Array Value} {t : TypeId} {f : Nat × Nat} (hg : w.grownBy w' (some g)) (hz : w.heap[g]? = some (.cells cs t f)) (hc : (cs.toList.all fun v => match v with | .int _ _ => true | _ => false) = true)
    (h : RdS w 3 A n (l.flatMap Ent.enc)) (hn : n = l.length) : RdS w' 3 A n (l.flatMap Ent.enc) := by
  refine ⟨h.1, fun h0 => ?_⟩
  obtain ⟨b, off, rfl, hb, hcell⟩ := h.2 h0
  have hne : b ≠ g := by
    rintro rfl
    obtain ⟨e, he⟩ : ∃ e, l[0]? = some e := ⟨_, List.getElem?_eq_getElem (by omega)⟩
    have h2 := flat_get Ent.len l 0 2 e he (by decide)
    have h3 := hcell 2 (by rw [h.1]; omega)
    rw [show (0 * 3 + 2 : Nat) = 2 from rfl] at h2
    rw [h2] at h3
    have h4 : w.cell? ⟨b, off + 2, none⟩ = some (.string e.c) := h3
    unfold World.cell? at h4
    rw [hz] at h4
    simp only [] at h4
    have hm := Array.mem_of_getElem? h4
    have := List.all_eq_true.1 hc _ (Array.mem_toList_iff.2 hm)
    simp at this
  exact ⟨b, off, rfl, Nat.lt_of_lt_of_le hb hg.size, fun j hj => by
    rw [World.cell?_of_block (w := w) (hg.block b hb (by intro e; cases e; exact hne rfl))]
    exact hcell j hj⟩
theorem downV_form (l : List Ent) : ∃ a b : Int, Mo.downV l = .agg #[.int .i64 a, .int .i64 b] := by
  unfold Mo.downV Mo.ratioV
  split
  · exact ⟨_, _, rfl⟩
  · exact ⟨_, _, rfl⟩

theorem l9_ok (A : Option Addr) (cap : Nat) (l : List Ent) (w : World) (hl0 : l.length ≤ 9223372036854775807) (H : RdL w 3 Ent.enc A l) (hE : Mo.entries l = 0) :
    Calls Tryz.prog 9 #[.slice A l.length cap] w fun en w' => en = .returned (.bool true) ∧ Below w.heap.size w w' := by
  have E111 := eq111r
  obtain ⟨da, db, hd⟩ := downV_form l
  obtain ⟨N, hN⟩ : ∃ N, N = l.length := ⟨_, rfl⟩
  obtain ⟨X, hX⟩ : ∃ X, X = Mo.mergedE l := ⟨_, rfl⟩
  obtain ⟨K, hK⟩ : ∃ K, K = Mo.downE l := ⟨_, rfl⟩
  have h51 := c51w A cap l w hl0 H
  have h53 := fun w1 (h : l.length ≤ 1000000) (H1 : RdS w1 3 A l.length (l.flatMap Ent.enc)) => c53 A cap l w1 h H1
  have h52 := fun w1 A (cap : Nat) (h : l.length ≤ 1000000) hs (H1 : RdS w1 3 A l.length (l.flatMap Ent.enc)) => c52 A cap l w1 h hs H1
  have h54 := fun w1 A (cap : Nat) (h : l.length ≤ 1000000) hs (H1 : RdS w1 3 A l.length (l.flatMap Ent.enc)) => c54 A cap l w1 h hs H1
  have h55 := fun w1 A (cap : Nat) (h : l.length ≤ 1000000) hs (H1 : RdS w1 3 A l.length (l.flatMap Ent.enc)) => c55 A cap l w1 h hs H1
  have h56 := fun w1 (h : l.length ≤ 1000000) (H1 : RdS w1 3 A l.length (l.flatMap Ent.enc)) => c56 A cap l w1 h H1
  have h57 := fun w1 (h : l.length ≤ 1000000) (H1 : RdS w1 3 A l.length (l.flatMap Ent.enc)) => c57 A cap l w1 h H1
  have h58 := fun w1 (h : l.length ≤ 64) ho (H1 : RdS w1 3 A l.length (l.flatMap Ent.enc)) => c58 A cap l w1 h ho H1
  have h59 := fun w1 (h : l.length ≤ 1000000) (H1 : RdS w1 3 A l.length (l.flatMap Ent.enc)) => c59 A cap l w1 h H1
  have h62 := fun w1 A (cap : Nat) (h : l.length ≤ 1000000) hs (H1 : RdS w1 3 A l.length (l.flatMap Ent.enc)) => c62 A cap l w1 h hs H1
  have hm : Mo.merged l = X := by rw [hX]; unfold Mo.mergedE; rw [if_neg (by rw [hE]; simp)]
  have hh : hoursV l = hrsV l := by unfold hoursV; rw [if_neg (by rw [hE]; simp)]
  obtain ⟨h, hhe⟩ : ∃ h : Nat → Int, h = fun (i : Nat) => Mo.hrs l (i : Int) := ⟨_, rfl⟩
  have hhv : hrsV l = .agg #[.int .i64 (h 0), .int .i64 (h 1), .int .i64 (h 2), .int .i64 (h 3), .int .i64 (h 4), .int .i64 (h 5)] := by rw [hhe]; rfl
  have E85 := eq85r h
  obtain ⟨ho1, ho2, _⟩ := Mo.entries_ok hE
  have HO1 := Lib.hid ho1
  have HO2 := Lib.hid ho2
  rw [hh, hhv] at h54
  rw [hhv] at h58
  rw [hm] at h57
  rw [hE] at h52 h54 h56 h62
  clear hm hh hhv hhe ho1 ho2 hE
  have hxl : X.length ≤ 1000000 ∨ 1000000 < X.length := by omega
  have hxm : l.length ≤ 65 → X.length ≤ 65 := by
    intro h; rw [hX]; unfold Mo.mergedE; split
    · simp
    · have := Mo.merged_len l; omega
  rw [hd, ← hK] at h55 h59
  rw [← hX] at h52
  replace H : RdS w 3 A l.length (l.flatMap Ent.enc) := H
  rw [← hN] at H h51 h52 h53 h54 h55 h56 h59 h62 h57 h58 hxm ⊢
  have HN := Lib.hid hN
  clear hd hK hX hN hxl hl0
  have HXM := Lib.hid hxm
  clear hxm
  have H51 := Lib.hid h51
  have H53 := Lib.hid h53
  have H52 := Lib.hid h52
  have H54 := Lib.hid h54
  have H55 := Lib.hid h55
  have H56 := Lib.hid h56
  have H59 := Lib.hid h59
  have H62 := Lib.hid h62
  have H57 := Lib.hid h57
  have H58 := Lib.hid h58
  clear h51 h53 h52 h54 h55 h56 h59 h62 h57 h58
  go_enter Tryz.func9, Tryz.ntmps9
  obtain ⟨w0, hw0⟩ : ∃ w0, w0 = w := ⟨_, rfl⟩
  rw [← hw0] at H H51
  have hB0 : Below w.heap.size w w0 := by rw [hw0]; exact Below.refl _ _
  go_wp2_with fail
  rw [← hw0]
  clear hw0
  refine H51.out.mono ?_
  rintro e w' ⟨⟨b, rfl, hb1⟩, rfl⟩
  clear H51
  cases b
  case false =>
    go_wp2_with fail
    refine (c15 _).mono ?_
    rintro e wz ⟨rfl, hz⟩
    go_wp2
    go_ret
    exact ⟨rfl, hB0.call hz rfl⟩
  obtain ⟨hl, hs⟩ := hb1 rfl
  clear hb1
  have HSZ : Hid (∀ e ∈ l, e.c.size ≤ 1000000) := Lib.hid (fun e he => by have := hs e he; omega)
  clear hs
  have HL : Hid (N ≤ 1000000) := Lib.hid (by omega)
  have hxl := HXM.out hl
  have HXL : Hid (X.length ≤ 1000000) := Lib.hid (by omega)
  clear hl hxl HXM
  go_wp2_with fail
  refine (H53.out _ HL.out H).mono ?_
  rintro e w1 ⟨_, rfl, ⟨A1, C1, rfl, h1⟩, hb⟩
  have hS := hb
  have hB1 := hB0.call hS rfl
  replace H := H.below hS
  clear hS hB0
  clear hb
  go_wp2_with fail
  refine (H52.out _ A1 C1 HL.out HSZ.out h1).mono ?_
  rintro e w2 ⟨_, rfl, ⟨A2, C2, rfl, h2⟩, hb⟩
  have hS := hb
  have hB2 := hB1.call hS rfl
  replace H := H.below hS
  replace h1 := h1.below hS
  clear hS hB1
  clear hb
  clear h1
  go_wp2_with fail
  refine (H53.out _ HL.out H).mono ?_
  rintro e w3 ⟨_, rfl, ⟨A1, C1, rfl, h1⟩, hb⟩
  have hS := hb
  have hB3 := hB2.call hS rfl
  replace H := H.below hS
  replace h2 := h2.below hS
  clear hS hB2
  clear hb
  go_wp2_with fail
  refine (H54.out _ A1 C1 HL.out HSZ.out h1).mono ?_
  rintro e w4 ⟨rfl, hb⟩
  have hS := hb
  have hB4 := hB3.call hS rfl
  replace H := H.below hS
  replace h2 := h2.below hS
  replace h1 := h1.below hS
  clear hS hB3
  clear hb
  clear h1
  have hz : (w4.alloc (Obj.cells #[.int .i64 0, .int .i64 0, .int .i64 0, .int .i64 0, .int .i64 0, .int .i64 0] 85)).heap[w4.heap.size]? = some (Obj.cells #[.int .i64 0, .int .i64 0, .int .i64 0, .int .i64 0, .int .i64 0, .int .i64 0] 85) := heap_new rfl
  go_wp2_with (refine wpList_store_blk rfl 85 _ _ rfl w4.heap.size _ rfl rfl hz ?s1 ?s2 ?s3 ?_)
  case s1 => rfl
  case s2 => kernel_rfl
  case s3 => simp [Value.oneCell']
  intro w5 t5 hg3 hs3
  have hS := ((Below.refl _ _).alloc (Nat.le_refl _) _).grown hg3 (by simp) (fun j hj => by cases hj; exact Nat.le_refl _)
  have hB5 := hB4.call hS rfl
  replace H := H.below hS
  replace h2 := h2.below hS
  clear hS hB4
  clear hz hg3 hs3
  obtain ⟨bt5, hbt5⟩ : ∃ b, b = w4.heap.size := ⟨_, rfl⟩
  rw [← hbt5] at t5 ⊢
  clear hbt5
  go_wp2_with fail
  refine (H53.out _ HL.out H).mono ?_
  rintro e w6 ⟨_, rfl, ⟨A1, C1, rfl, h1⟩, hb⟩
  have hS := hb
  have hB6 := hB5.call hS rfl
  replace H := H.below hS
  replace h2 := h2.below hS
  replace t5 := blkb t5 hS
  clear hS hB5
  clear hb
  go_wp2_with fail
  refine (H55.out _ A1 C1 HL.out HSZ.out h1).mono ?_
  rintro e w7 ⟨rfl, hb⟩
  have hS := hb
  have hB7 := hB6.call hS rfl
  replace H := H.below hS
  replace h2 := h2.below hS
  replace t5 := blkb t5 hS
  replace h1 := h1.below hS
  clear hS hB6
  clear hb
  clear h1
  have hz : (w7.alloc (Obj.cells #[.int .i64 0, .int .i64 0] 111)).heap[w7.heap.size]? = some (Obj.cells #[.int .i64 0, .int .i64 0] 111) := heap_new rfl
  go_wp2_with (refine wpList_store_blk rfl 111 _ _ rfl w7.heap.size _ rfl rfl hz ?s1 ?s2 ?s3 ?_)
  case s1 => rfl
  case s2 => kernel_rfl
  case s3 => simp [Value.oneCell']
  intro w8 t7 hg3 hs3
  have hS := ((Below.refl _ _).alloc (Nat.le_refl _) _).grown hg3 (by simp) (fun j hj => by cases hj; exact Nat.le_refl _)
  have hB8 := hB7.call hS rfl
  replace H := H.below hS
  replace h2 := h2.below hS
  replace t5 := blkb t5 hS
  clear hS hB7
  clear hz hg3 hs3
  obtain ⟨bt7, hbt7⟩ : ∃ b, b = w7.heap.size := ⟨_, rfl⟩
  rw [← hbt7] at t7 ⊢
  clear hbt7
  go_wp2_with fail
  refine (H56.out _ HL.out H).mono ?_
  rintro e w9 ⟨rfl, hb⟩
  have hS := hb
  have hB9 := hB8.call hS rfl
  replace H := H.below hS
  replace h2 := h2.below hS
  replace t5 := blkb t5 hS
  replace t7 := blkb t7 hS
  clear hS hB8
  clear hb
  have lt5 := (Array.getElem?_eq_some_iff.1 t5).1
  have lt7 := (Array.getElem?_eq_some_iff.1 t7).1
  have hw11 := hB9.size
  go_wp2_with fail
  refine (H57.out _ HL.out (RdS.al H _)).mono ?_
  rintro e w10 ⟨_, rfl, ⟨A3, C3, rfl, h3⟩, hb⟩
  have t11 := blkb (heap_new (w := w9) (o := (Obj.cells #[.int .i64 0, .int .i64 0, .int .i64 0, .int .i64 0, .int .i64 0, .int .i64 0] 85)) rfl) hb
  have hS := ((Below.refl _ _).alloc (by first | exact Nat.le_refl _ | (simp <;> omega)) _).call hb rfl
  have hB10 := hB9.call hS rfl
  replace H := H.below hS
  replace h2 := h2.below hS
  replace t5 := blkb t5 hS
  replace t7 := blkb t7 hS
  clear hS hB9
  clear hb
  obtain ⟨bt11, hbt11⟩ : ∃ b, b = w9.heap.size := ⟨_, rfl⟩
  rw [← hbt11] at t11 lt5 lt7 hw11 ⊢
  clear hbt11
  go_wp2_with fail
  refine (H58.out _ (by rw [HN.out]; exact HO1.out) HO2.out H).mono ?_
  rintro e w11 ⟨rfl, hb⟩
  have hS := hb
  have hB11 := hB10.call hS rfl
  replace H := H.below hS
  replace h2 := h2.below hS
  replace t5 := blkb t5 hS
  replace t7 := blkb t7 hS
  replace t11 := blkb t11 hS
  replace h3 := h3.below hS
  clear hS hB10
  clear hb
  go_wp2_with (refine wpList_store_blk rfl 85 _ _ rfl bt11 _ rfl rfl t11 ?s1 ?s2 ?s3 ?_)
  case s1 => rfl
  case s2 => kernel_rfl
  case s3 => simp [Value.oneCell']
  intro w12 t11n hg3 hs3
  have hB12 : Below w.heap.size w w12 := hB11.grown hg3 hB11.size (fun j hj => by cases hj; exact hw11)
  replace H := grown_ents hg3 t11 rfl H HN.out
  replace h2 := grown_ents hg3 t11 rfl h2 rfl
  replace t5 := grown_blk hg3 t5 (by omega)
  replace t7 := grown_blk hg3 t7 (by omega)
  replace h3 := grown_ents hg3 t11 rfl h3 rfl
  clear t11 hg3 hs3 lt5 lt7 hw11
  have t11 := t11n
  clear t11n
  clear hB11
  go_wp2_with fail
  refine (H59.out _ HL.out H).mono ?_
  rintro e w13 ⟨rfl, hb⟩
  have hS := hb
  have hB13 := hB12.call hS rfl
  replace H := H.below hS
  replace h2 := h2.below hS
  replace t5 := blkb t5 hS
  replace t7 := blkb t7 hS
  replace t11 := blkb t11 hS
  replace h3 := h3.below hS
  clear hS hB12
  clear hb
  have hz : (w13.alloc (Obj.cells #[.int .i64 0, .int .i64 0] 111)).heap[w13.heap.size]? = some (Obj.cells #[.int .i64 0, .int .i64 0] 111) := heap_new rfl
  go_wp2_with (refine wpList_store_blk rfl 111 _ _ rfl w13.heap.size _ rfl rfl hz ?s1 ?s2 ?s3 ?_)
  case s1 => rfl
  case s2 => kernel_rfl
  case s3 => simp [Value.oneCell']
  intro w14 t12 hg3 hs3
  have hS := ((Below.refl _ _).alloc (Nat.le_refl _) _).grown hg3 (by simp) (fun j hj => by cases hj; exact Nat.le_refl _)
  have hB14 := hB13.call hS rfl
  replace H := H.below hS
  replace h2 := h2.below hS
  replace t5 := blkb t5 hS
  replace t7 := blkb t7 hS
  replace t11 := blkb t11 hS
  replace h3 := h3.below hS
  clear hS hB13
  clear hz hg3 hs3
  obtain ⟨bt12, hbt12⟩ : ∃ b, b = w13.heap.size := ⟨_, rfl⟩
  rw [← hbt12] at t12 ⊢
  clear hbt12
  go_wp2_with fail
  refine (c60 _).mono ?_
  rintro e w15 ⟨g1, rfl, hc1, _, hb⟩
  have hS := hb
  have hB15 := hB14.call hS rfl
  replace H := H.below hS
  replace h2 := h2.below hS
  replace t5 := blkb t5 hS
  replace t7 := blkb t7 hS
  replace t11 := blkb t11 hS
  replace h3 := h3.below hS
  replace t12 := blkb t12 hS
  clear hS hB14
  clear hb
  go_wp2_with fail
  refine (c61 _).mono ?_
  rintro e w16 ⟨g2, rfl, hc2, _, hb⟩
  have hS := hb
  have hB16 := hB15.call hS rfl
  replace H := H.below hS
  replace h2 := h2.below hS
  replace t5 := blkb t5 hS
  replace t7 := blkb t7 hS
  replace t11 := blkb t11 hS
  replace h3 := h3.below hS
  replace t12 := blkb t12 hS
  replace hc1 := blkb hc1 hS
  clear hS hB15
  clear hb
  go_wp2_with fail
  refine (c46 (some ⟨g1, 0, none⟩) (some ⟨g2, 0, none⟩) 6 6 Mo.causes _ (by decide) (RdS.of_block hc1 rfl) (RdS.of_block hc2 rfl)).mono ?_
  rintro e w17 ⟨rfl, hb⟩
  have hS := hb
  have hB17 := hB16.call hS rfl
  replace H := H.below hS
  replace h2 := h2.below hS
  replace t5 := blkb t5 hS
  replace t7 := blkb t7 hS
  replace t11 := blkb t11 hS
  replace h3 := h3.below hS
  replace t12 := blkb t12 hS
  replace hc1 := blkb hc1 hS
  replace hc2 := blkb hc2 hS
  clear hS hB16
  clear hb
  clear hc1
  clear hc2
  go_wp2_with fail
  refine (H53.out _ HL.out H).mono ?_
  rintro e w18 ⟨_, rfl, ⟨A1, C1, rfl, h1⟩, hb⟩
  have hS := hb
  have hB18 := hB17.call hS rfl
  replace H := H.below hS
  replace h2 := h2.below hS
  replace t5 := blkb t5 hS
  replace t7 := blkb t7 hS
  replace t11 := blkb t11 hS
  replace h3 := h3.below hS
  replace t12 := blkb t12 hS
  clear hS hB17
  clear hb
  go_wp2_with fail
  refine (H62.out _ A1 C1 HL.out HSZ.out h1).mono ?_
  rintro e w19 ⟨rfl, hb⟩
  have hS := hb
  have hB19 := hB18.call hS rfl
  replace H := H.below hS
  replace h2 := h2.below hS
  replace t5 := blkb t5 hS
  replace t7 := blkb t7 hS
  replace t11 := blkb t11 hS
  replace h3 := h3.below hS
  replace t12 := blkb t12 hS
  replace h1 := h1.below hS
  clear hS hB18
  clear hb
  clear h1
  go_wp2_with fail
  refine (c44 A2 C2 X _ HXL.out h2).mono ?_
  rintro e w20 ⟨_, rfl, ⟨A4, C4, rfl, h4⟩, hb⟩
  have hS := hb
  have hB20 := hB19.call hS rfl
  replace H := H.below hS
  replace h2 := h2.below hS
  replace t5 := blkb t5 hS
  replace t7 := blkb t7 hS
  replace t11 := blkb t11 hS
  replace h3 := h3.below hS
  replace t12 := blkb t12 hS
  clear hS hB19
  clear hb
  go_wp2_with fail
  refine (c43 A4 A3 C4 C3 X _ HXL.out h4 h3).mono ?_
  rintro e w21 ⟨rfl, hb⟩
  have hS := hb
  have hB21 := hB20.call hS rfl
  replace H := H.below hS
  replace h2 := h2.below hS
  replace t5 := blkb t5 hS
  replace t7 := blkb t7 hS
  replace t11 := blkb t11 hS
  replace h3 := h3.below hS
  replace t12 := blkb t12 hS
  replace h4 := h4.below hS
  clear hS hB20
  clear hb
  have pt5_0 : w21.cell? ⟨bt5, 0, none⟩ = some (.int .i64 (h 0)) := cell_at t5 rfl
  have pt5_1 : w21.cell? ⟨bt5, 1, none⟩ = some (.int .i64 (h 1)) := cell_at t5 rfl
  have pt5_2 : w21.cell? ⟨bt5, 2, none⟩ = some (.int .i64 (h 2)) := cell_at t5 rfl
  have pt5_3 : w21.cell? ⟨bt5, 3, none⟩ = some (.int .i64 (h 3)) := cell_at t5 rfl
  have pt5_4 : w21.cell? ⟨bt5, 4, none⟩ = some (.int .i64 (h 4)) := cell_at t5 rfl
  have pt5_5 : w21.cell? ⟨bt5, 5, none⟩ = some (.int .i64 (h 5)) := cell_at t5 rfl
  have pt11_0 : w21.cell? ⟨bt11, 0, none⟩ = some (.int .i64 (h 0)) := cell_at t11 rfl
  have pt11_1 : w21.cell? ⟨bt11, 1, none⟩ = some (.int .i64 (h 1)) := cell_at t11 rfl
  have pt11_2 : w21.cell? ⟨bt11, 2, none⟩ = some (.int .i64 (h 2)) := cell_at t11 rfl
  have pt11_3 : w21.cell? ⟨bt11, 3, none⟩ = some (.int .i64 (h 3)) := cell_at t11 rfl
  have pt11_4 : w21.cell? ⟨bt11, 4, none⟩ = some (.int .i64 (h 4)) := cell_at t11 rfl
  have pt11_5 : w21.cell? ⟨bt11, 5, none⟩ = some (.int .i64 (h 5)) := cell_at t11 rfl
  have pt7_0 : w21.cell? ⟨bt7, 0, none⟩ = some (.int .i64 da) := cell_at t7 rfl
  have pt7_1 : w21.cell? ⟨bt7, 1, none⟩ = some (.int .i64 db) := cell_at t7 rfl
  have pt12_0 : w21.cell? ⟨bt12, 0, none⟩ = some (.int .i64 da) := cell_at t12 rfl
  have pt12_1 : w21.cell? ⟨bt12, 1, none⟩ = some (.int .i64 db) := cell_at t12 rfl
  go_wp2_with fail
  refine (c15 _).mono ?_
  rintro e wz ⟨rfl, hz⟩
  go_wp2
  go_ret
  exact ⟨rfl, hB21.call hz rfl⟩

theorem l9_bad (A : Option Addr) (cap : Nat) (l : List Ent) (w : World) (hl0 : l.length ≤ 9223372036854775807) (H : RdL w 3 Ent.enc A l) (hE : Mo.entries l ≠ 0) :
    Calls Tryz.prog 9 #[.slice A l.length cap] w fun en w' => en = .returned (.bool true) ∧ Below w.heap.size w w' := by
  have E111 := eq111r
  obtain ⟨da, db, hd⟩ := downV_form l
  obtain ⟨N, hN⟩ : ∃ N, N = l.length := ⟨_, rfl⟩
  obtain ⟨X, hX⟩ : ∃ X, X = Mo.mergedE l := ⟨_, rfl⟩
  obtain ⟨K, hK⟩ : ∃ K, K = Mo.downE l := ⟨_, rfl⟩
  have h51 := c51w A cap l w hl0 H
  have h53 := fun w1 (h : l.length ≤ 1000000) (H1 : RdS w1 3 A l.length (l.flatMap Ent.enc)) => c53 A cap l w1 h H1
  have h52 := fun w1 A (cap : Nat) (h : l.length ≤ 1000000) hs (H1 : RdS w1 3 A l.length (l.flatMap Ent.enc)) => c52 A cap l w1 h hs H1
  have h54 := fun w1 A (cap : Nat) (h : l.length ≤ 1000000) hs (H1 : RdS w1 3 A l.length (l.flatMap Ent.enc)) => c54 A cap l w1 h hs H1
  have h55 := fun w1 A (cap : Nat) (h : l.length ≤ 1000000) hs (H1 : RdS w1 3 A l.length (l.flatMap Ent.enc)) => c55 A cap l w1 h hs H1
  have h56 := fun w1 (h : l.length ≤ 1000000) (H1 : RdS w1 3 A l.length (l.flatMap Ent.enc)) => c56 A cap l w1 h H1
  have h57 := fun w1 (h : l.length ≤ 1000000) (H1 : RdS w1 3 A l.length (l.flatMap Ent.enc)) => c57 A cap l w1 h H1
  have h58 := fun w1 (h : l.length ≤ 64) ho (H1 : RdS w1 3 A l.length (l.flatMap Ent.enc)) => c58 A cap l w1 h ho H1
  have h59 := fun w1 (h : l.length ≤ 1000000) (H1 : RdS w1 3 A l.length (l.flatMap Ent.enc)) => c59 A cap l w1 h H1
  have h62 := fun w1 A (cap : Nat) (h : l.length ≤ 1000000) hs (H1 : RdS w1 3 A l.length (l.flatMap Ent.enc)) => c62 A cap l w1 h hs H1
  obtain ⟨E, hEe⟩ : ∃ E, E = Mo.entries l := ⟨_, rfl⟩
  have hx0 : X = [] := by rw [hX]; unfold Mo.mergedE; rw [if_pos hE]
  have hh : hoursV l = .agg #[.int .i64 0, .int .i64 0, .int .i64 0, .int .i64 0, .int .i64 0, .int .i64 0] := by unfold hoursV; rw [if_pos hE]
  have E85 := eq85r (fun _ => 0)
  rw [hh] at h54
  rw [← hEe] at h52 h54 h56 h62 hE
  have hE2 : (E == 0) = false := by simpa using hE
  clear hh hEe h57 h58
  have hxl : X.length ≤ 1000000 ∨ 1000000 < X.length := by omega
  have hxm : l.length ≤ 65 → X.length ≤ 65 := by
    intro h; rw [hX]; unfold Mo.mergedE; split
    · simp
    · have := Mo.merged_len l; omega
  rw [hd, ← hK] at h55 h59
  rw [← hX] at h52
  replace H : RdS w 3 A l.length (l.flatMap Ent.enc) := H
  rw [← hN] at H h51 h52 h53 h54 h55 h56 h59 h62 hxm ⊢
  have HN := Lib.hid hN
  clear hd hK hX hN hxl hl0
  have HXM := Lib.hid hxm
  clear hxm
  have H51 := Lib.hid h51
  have H53 := Lib.hid h53
  have H52 := Lib.hid h52
  have H54 := Lib.hid h54
  have H55 := Lib.hid h55
  have H56 := Lib.hid h56
  have H59 := Lib.hid h59
  have H62 := Lib.hid h62
  clear h51 h53 h52 h54 h55 h56 h59 h62
  subst hx0
  go_enter Tryz.func9, Tryz.ntmps9
  obtain ⟨w0, hw0⟩ : ∃ w0, w0 = w := ⟨_, rfl⟩
  rw [← hw0] at H H51
  have hB0 : Below w.heap.size w w0 := by rw [hw0]; exact Below.refl _ _
  go_wp2_with fail
  rw [← hw0]
  clear hw0
  refine H51.out.mono ?_
  rintro e w' ⟨⟨b, rfl, hb1⟩, rfl⟩
  clear H51
  cases b
  case false =>
    go_wp2_with fail
    refine (c15 _).mono ?_
    rintro e wz ⟨rfl, hz⟩
    go_wp2
    go_ret
    exact ⟨rfl, hB0.call hz rfl⟩
  obtain ⟨hl, hs⟩ := hb1 rfl
  clear hb1
  have HSZ : Hid (∀ e ∈ l, e.c.size ≤ 1000000) := Lib.hid (fun e he => by have := hs e he; omega)
  clear hs
  have HL : Hid (N ≤ 1000000) := Lib.hid (by omega)
  clear hl HXM
  go_wp2_with fail
  refine (H53.out _ HL.out H).mono ?_
  rintro e w1 ⟨_, rfl, ⟨A1, C1, rfl, h1⟩, hb⟩
  have hS := hb
  have hB1 := hB0.call hS rfl
  replace H := H.below hS
  clear hS hB0
  clear hb
  go_wp2_with fail
  refine (H52.out _ A1 C1 HL.out HSZ.out h1).mono ?_
  rintro e w2 ⟨_, rfl, ⟨A2, C2, rfl, h2⟩, hb⟩
  have hS := hb
  have hB2 := hB1.call hS rfl
  replace H := H.below hS
  replace h1 := h1.below hS
  clear hS hB1
  clear hb
  clear h1
  go_wp2_with fail
  refine (H53.out _ HL.out H).mono ?_
  rintro e w3 ⟨_, rfl, ⟨A1, C1, rfl, h1⟩, hb⟩
  have hS := hb
  have hB3 := hB2.call hS rfl
  replace H := H.below hS
  replace h2 := h2.below hS
  clear hS hB2
  clear hb
  go_wp2_with fail
  refine (H54.out _ A1 C1 HL.out HSZ.out h1).mono ?_
  rintro e w4 ⟨rfl, hb⟩
  have hS := hb
  have hB4 := hB3.call hS rfl
  replace H := H.below hS
  replace h2 := h2.below hS
  replace h1 := h1.below hS
  clear hS hB3
  clear hb
  clear h1
  have hz : (w4.alloc (Obj.cells #[.int .i64 0, .int .i64 0, .int .i64 0, .int .i64 0, .int .i64 0, .int .i64 0] 85)).heap[w4.heap.size]? = some (Obj.cells #[.int .i64 0, .int .i64 0, .int .i64 0, .int .i64 0, .int .i64 0, .int .i64 0] 85) := heap_new rfl
  go_wp2_with (refine wpList_store_blk rfl 85 _ _ rfl w4.heap.size _ rfl rfl hz ?s1 ?s2 ?s3 ?_)
  case s1 => rfl
  case s2 => kernel_rfl
  case s3 => simp [Value.oneCell']
  intro w5 t5 hg3 hs3
  have hS := ((Below.refl _ _).alloc (Nat.le_refl _) _).grown hg3 (by simp) (fun j hj => by cases hj; exact Nat.le_refl _)
  have hB5 := hB4.call hS rfl
  replace H := H.below hS
  replace h2 := h2.below hS
  clear hS hB4
  clear hz hg3 hs3
  obtain ⟨bt5, hbt5⟩ : ∃ b, b = w4.heap.size := ⟨_, rfl⟩
  rw [← hbt5] at t5 ⊢
  clear hbt5
  go_wp2_with fail
  refine (H53.out _ HL.out H).mono ?_
  rintro e w6 ⟨_, rfl, ⟨A1, C1, rfl, h1⟩, hb⟩
  have hS := hb
  have hB6 := hB5.call hS rfl
  replace H := H.below hS
  replace h2 := h2.below hS
  replace t5 := blkb t5 hS
  clear hS hB5
  clear hb
  go_wp2_with fail
  refine (H55.out _ A1 C1 HL.out HSZ.out h1).mono ?_
  rintro e w7 ⟨rfl, hb⟩
  have hS := hb
  have hB7 := hB6.call hS rfl
  replace H := H.below hS
  replace h2 := h2.below hS
  replace t5 := blkb t5 hS
  replace h1 := h1.below hS
  clear hS hB6
  clear hb
  clear h1
  have hz : (w7.alloc (Obj.cells #[.int .i64 0, .int .i64 0] 111)).heap[w7.heap.size]? = some (Obj.cells #[.int .i64 0, .int .i64 0] 111) := heap_new rfl
  go_wp2_with (refine wpList_store_blk rfl 111 _ _ rfl w7.heap.size _ rfl rfl hz ?s1 ?s2 ?s3 ?_)
  case s1 => rfl
  case s2 => kernel_rfl
  case s3 => simp [Value.oneCell']
  intro w8 t7 hg3 hs3
  have hS := ((Below.refl _ _).alloc (Nat.le_refl _) _).grown hg3 (by simp) (fun j hj => by cases hj; exact Nat.le_refl _)
  have hB8 := hB7.call hS rfl
  replace H := H.below hS
  replace h2 := h2.below hS
  replace t5 := blkb t5 hS
  clear hS hB7
  clear hz hg3 hs3
  obtain ⟨bt7, hbt7⟩ : ∃ b, b = w7.heap.size := ⟨_, rfl⟩
  rw [← hbt7] at t7 ⊢
  clear hbt7
  go_wp2_with fail
  refine (H56.out _ HL.out H).mono ?_
  rintro e w9 ⟨rfl, hb⟩
  have hS := hb
  have hB9 := hB8.call hS rfl
  replace H := H.below hS
  replace h2 := h2.below hS
  replace t5 := blkb t5 hS
  replace t7 := blkb t7 hS
  clear hS hB8
  clear hb
  go_wp2_with fail
  refine (H59.out _ HL.out (RdS.al H _)).mono ?_
  rintro e w10 ⟨rfl, hb⟩
  have t11 := blkb (heap_new (w := w9) (o := (Obj.cells #[.int .i64 0, .int .i64 0, .int .i64 0, .int .i64 0, .int .i64 0, .int .i64 0] 85)) rfl) hb
  have hS := ((Below.refl _ _).alloc (by first | exact Nat.le_refl _ | (simp <;> omega)) _).call hb rfl
  have hB10 := hB9.call hS rfl
  replace H := H.below hS
  replace h2 := h2.below hS
  replace t5 := blkb t5 hS
  replace t7 := blkb t7 hS
  clear hS hB9
  clear hb
  obtain ⟨bt11, hbt11⟩ : ∃ b, b = w9.heap.size := ⟨_, rfl⟩
  rw [← hbt11] at t11  ⊢
  clear hbt11
  have hz : (w10.alloc (Obj.cells #[.int .i64 0, .int .i64 0] 111)).heap[w10.heap.size]? = some (Obj.cells #[.int .i64 0, .int .i64 0] 111) := heap_new rfl
  go_wp2_with (refine wpList_store_blk rfl 111 _ _ rfl w10.heap.size _ rfl rfl hz ?s1 ?s2 ?s3 ?_)
  case s1 => rfl
  case s2 => kernel_rfl
  case s3 => simp [Value.oneCell']
  intro w11 t12 hg3 hs3
  have hS := ((Below.refl _ _).alloc (Nat.le_refl _) _).grown hg3 (by simp) (fun j hj => by cases hj; exact Nat.le_refl _)
  have hB11 := hB10.call hS rfl
  replace H := H.below hS
  replace h2 := h2.below hS
  replace t5 := blkb t5 hS
  replace t7 := blkb t7 hS
  replace t11 := blkb t11 hS
  clear hS hB10
  clear hz hg3 hs3
  obtain ⟨bt12, hbt12⟩ : ∃ b, b = w10.heap.size := ⟨_, rfl⟩
  rw [← hbt12] at t12 ⊢
  clear hbt12
  go_wp2_with fail
  refine (c60 _).mono ?_
  rintro e w12 ⟨g1, rfl, hc1, _, hb⟩
  have hS := hb
  have hB12 := hB11.call hS rfl
  replace H := H.below hS
  replace h2 := h2.below hS
  replace t5 := blkb t5 hS
  replace t7 := blkb t7 hS
  replace t11 := blkb t11 hS
  replace t12 := blkb t12 hS
  clear hS hB11
  clear hb
  go_wp2_with fail
  refine (c61 _).mono ?_
  rintro e w13 ⟨g2, rfl, hc2, _, hb⟩
  have hS := hb
  have hB13 := hB12.call hS rfl
  replace H := H.below hS
  replace h2 := h2.below hS
  replace t5 := blkb t5 hS
  replace t7 := blkb t7 hS
  replace t11 := blkb t11 hS
  replace t12 := blkb t12 hS
  replace hc1 := blkb hc1 hS
  clear hS hB12
  clear hb
  go_wp2_with fail
  refine (c46 (some ⟨g1, 0, none⟩) (some ⟨g2, 0, none⟩) 6 6 Mo.causes _ (by decide) (RdS.of_block hc1 rfl) (RdS.of_block hc2 rfl)).mono ?_
  rintro e w14 ⟨rfl, hb⟩
  have hS := hb
  have hB14 := hB13.call hS rfl
  replace H := H.below hS
  replace h2 := h2.below hS
  replace t5 := blkb t5 hS
  replace t7 := blkb t7 hS
  replace t11 := blkb t11 hS
  replace t12 := blkb t12 hS
  replace hc1 := blkb hc1 hS
  replace hc2 := blkb hc2 hS
  clear hS hB13
  clear hb
  clear hc1
  clear hc2
  go_wp2_with fail
  refine (H53.out _ HL.out H).mono ?_
  rintro e w15 ⟨_, rfl, ⟨A1, C1, rfl, h1⟩, hb⟩
  have hS := hb
  have hB15 := hB14.call hS rfl
  replace H := H.below hS
  replace h2 := h2.below hS
  replace t5 := blkb t5 hS
  replace t7 := blkb t7 hS
  replace t11 := blkb t11 hS
  replace t12 := blkb t12 hS
  clear hS hB14
  clear hb
  go_wp2_with fail
  refine (H62.out _ A1 C1 HL.out HSZ.out h1).mono ?_
  rintro e w16 ⟨rfl, hb⟩
  have hS := hb
  have hB16 := hB15.call hS rfl
  replace H := H.below hS
  replace h2 := h2.below hS
  replace t5 := blkb t5 hS
  replace t7 := blkb t7 hS
  replace t11 := blkb t11 hS
  replace t12 := blkb t12 hS
  replace h1 := h1.below hS
  clear hS hB15
  clear hb
  clear h1
  go_wp2_with fail
  refine (c44 A2 C2 [] _ (by decide) h2).mono ?_
  rintro e w17 ⟨_, rfl, ⟨A4, C4, rfl, h4⟩, hb⟩
  have hS := hb
  have hB17 := hB16.call hS rfl
  replace H := H.below hS
  replace h2 := h2.below hS
  replace t5 := blkb t5 hS
  replace t7 := blkb t7 hS
  replace t11 := blkb t11 hS
  replace t12 := blkb t12 hS
  clear hS hB16
  clear hb
  go_wp2_with fail
  refine (c43 A4 none C4 0 [] _ (by decide) h4 ⟨rfl, fun h => absurd h (by simp)⟩).mono ?_
  rintro e w18 ⟨rfl, hb⟩
  have hS := hb
  have hB18 := hB17.call hS rfl
  replace H := H.below hS
  replace h2 := h2.below hS
  replace t5 := blkb t5 hS
  replace t7 := blkb t7 hS
  replace t11 := blkb t11 hS
  replace t12 := blkb t12 hS
  replace h4 := h4.below hS
  clear hS hB17
  clear hb
  have pt5_0 : w18.cell? ⟨bt5, 0, none⟩ = some (.int .i64 0) := cell_at t5 rfl
  have pt5_1 : w18.cell? ⟨bt5, 1, none⟩ = some (.int .i64 0) := cell_at t5 rfl
  have pt5_2 : w18.cell? ⟨bt5, 2, none⟩ = some (.int .i64 0) := cell_at t5 rfl
  have pt5_3 : w18.cell? ⟨bt5, 3, none⟩ = some (.int .i64 0) := cell_at t5 rfl
  have pt5_4 : w18.cell? ⟨bt5, 4, none⟩ = some (.int .i64 0) := cell_at t5 rfl
  have pt5_5 : w18.cell? ⟨bt5, 5, none⟩ = some (.int .i64 0) := cell_at t5 rfl
  have pt11_0 : w18.cell? ⟨bt11, 0, none⟩ = some (.int .i64 0) := cell_at t11 rfl
  have pt11_1 : w18.cell? ⟨bt11, 1, none⟩ = some (.int .i64 0) := cell_at t11 rfl
  have pt11_2 : w18.cell? ⟨bt11, 2, none⟩ = some (.int .i64 0) := cell_at t11 rfl
  have pt11_3 : w18.cell? ⟨bt11, 3, none⟩ = some (.int .i64 0) := cell_at t11 rfl
  have pt11_4 : w18.cell? ⟨bt11, 4, none⟩ = some (.int .i64 0) := cell_at t11 rfl
  have pt11_5 : w18.cell? ⟨bt11, 5, none⟩ = some (.int .i64 0) := cell_at t11 rfl
  have pt7_0 : w18.cell? ⟨bt7, 0, none⟩ = some (.int .i64 da) := cell_at t7 rfl
  have pt7_1 : w18.cell? ⟨bt7, 1, none⟩ = some (.int .i64 db) := cell_at t7 rfl
  have pt12_0 : w18.cell? ⟨bt12, 0, none⟩ = some (.int .i64 da) := cell_at t12 rfl
  have pt12_1 : w18.cell? ⟨bt12, 1, none⟩ = some (.int .i64 db) := cell_at t12 rfl
  go_wp2_with fail
  refine (c15 _).mono ?_
  rintro e wz ⟨rfl, hz⟩
  go_wp2
  go_ret
  exact ⟨rfl, hB18.call hz rfl⟩

theorem l9 (A : Option Addr) (cap : Nat) (l : List Ent) (w : World) (hl0 : l.length ≤ 9223372036854775807) (H : RdL w 3 Ent.enc A l) :
    Calls Tryz.prog 9 #[.slice A l.length cap] w fun en w' => en = .returned (.bool true) ∧ Below w.heap.size w w' := by
  by_cases h : Mo.entries l = 0
  · exact l9_ok A cap l w hl0 H h
  · exact l9_bad A cap l w hl0 H h

end Go.Proofs.YtndhjkammoeikaaGreatDoor
namespace Go.Proofs.YtndhjkammoeikaaGreatDoor
open Go.RowKit
set_option maxHeartbeats 1000000
set_option maxRecDepth 20000
theorem c53o (A : Option Addr) (cap : Nat) (l : List Ent) (w : World) (hl : l.length ≤ 1000000) (H : RdL w 3 Ent.enc A l) :
    Calls Tryz.prog 53 #[.slice A l.length cap] w fun en w' => ∃ x, en = .returned x ∧ w'.ownsRow w.heap.size 134 3 x l.length (l.flatMap Ent.enc) ∧ Below w.heap.size w w' := by
  obtain ⟨i0, hi, hz0, hz1, hz2⟩ := info_parts info134
  obtain ⟨n, hn⟩ : ∃ n, n = l.length := ⟨_, rfl⟩
  rw [← hn] at hl ⊢
  have Hn := Lib.hid hn
  clear hn
  go_enter Tryz.func53, Tryz.ntmps53
  go_wp2
  go_loopw [3, 8] (fun x i wr => ∃ k : Nat, k ≤ n ∧ i = .int .i64 k ∧ wr.ownsRow w.heap.size 134 3 x k ((l.take k).flatMap Ent.enc) ∧ Below w.heap.size w wr) (fun _ i _ => n - (intOf i).toNat)
  case atStart => exact ⟨0, Nat.zero_le _, rfl, World.ownsRow_nil _ _ _ _, Below.refl _ _⟩
  case round =>
    obtain ⟨k, hk, rfl, hown, hB⟩ := hrel
    by_cases hlt : k < n
    · obtain ⟨b, off, s, rfl, hx, hb, hc⟩ := (H.below hB).at Ent.len (by rw [← Hn.out]; exact hlt)
      have q0 : wr.cell? ⟨b, off + k * 3, none⟩ = some (.int .i64 s.f) := hc 0 (by omega)
      have q1 : wr.cell? ⟨b, off + k * 3 + 1, none⟩ = some (.int .i64 s.t) := hc 1 (by omega)
      have q2 : wr.cell? ⟨b, off + k * 3 + 2, none⟩ = some (.string s.c) := hc 2 (by omega)
      have hst : Hid ((l.take (k + 1)).flatMap Ent.enc = (l.take k).flatMap Ent.enc ++ [.int .i64 s.f, .int .i64 s.t, .string s.c]) := by
        show _ = _
        obtain ⟨hk', rfl⟩ := List.getElem?_eq_some_iff.1 hx
        rw [List.take_succ_eq_append_getElem hk', List.flatMap_append]; simp [Ent.enc]
      have hsz := hB.size
      have hown1 := own_below hown ((Below.refl wr.heap.size wr).alloc (Nat.le_refl _) (Obj.cells #[.int .i64 s.f, .int .i64 s.t, .string s.c] 188))
      have hB1 := hB.alloc hsz (Obj.cells #[.int .i64 s.f, .int .i64 s.t, .string s.c] 188)
      clear hc hx hown
      go_wp2_with (at_builtin; refine wpList_append_own _ rfl _ _ 74 rfl w.heap.size 134 i0 (.agg #[.int .i64 0, .int .i64 0, .string ByteArray.empty]) 3 32 Tryz.underlying74 hi hz0 hz1 hz2 rfl (by decide) _ _ _ rfl (hown1.alloc _) ⟨wr.heap.size + 1, 0, none⟩ 1 1 [.int .i64 s.f, .int .i64 s.t, .string s.c] rfl rfl (news_one _ _ (by simp)) (by intro x hx; simp at hx; first | (subst hx; rfl) | (rcases hx with rfl | rfl <;> rfl) | (rcases hx with rfl | rfl | rfl <;> rfl)) (by unfold maxLen; omega) (by omega) (by simp; omega) ?_)
      intro x' w3 hown3 hg3 _
      have hB3 : Below w.heap.size w w3 := (hB1.alloc hB1.size _).grown hg3 (by simp; omega) (fun g hg => (hown1.lt g hg).1)
      rw [← hst.out] at hown3
      have HO := Lib.hid hown3
      clear hown3 hg3 hown1
      go_wp2
      go_roundw
      case rel => exact ⟨k + 1, by omega, by go_num, HO.out, hB3⟩
      case measure => simp [intOf]; omega
    · obtain rfl : k = n := by omega
      have hown' : wr.ownsRow w.heap.size 134 3 u3 k (l.flatMap Ent.enc) := by
        have h := hown
        rw [List.take_of_length_le (by rw [← Hn.out]; exact Nat.le_refl _)] at h
        exact h
      clear hown
      have HO := Lib.hid hown'
      clear hown'
      go_wp2
      go_ret
      exact ⟨_, rfl, HO.out, hB⟩

theorem c67o (A : Option Addr) (cap : Nat) (l : List Res) (w : World) (hl : l.length ≤ 1000000) (H : RdL w 3 Res.enc A l) :
    Calls Tryz.prog 67 #[.slice A l.length cap] w fun en w' => ∃ x, en = .returned x ∧ w'.ownsRow w.heap.size 210 3 x l.length (l.flatMap Res.enc) ∧ Below w.heap.size w w' := by
  obtain ⟨i0, hi, hz0, hz1, hz2⟩ := info_parts info210
  obtain ⟨n, hn⟩ : ∃ n, n = l.length := ⟨_, rfl⟩
  rw [← hn] at hl ⊢
  have Hn := Lib.hid hn
  clear hn
  go_enter Tryz.func67, Tryz.ntmps67
  go_wp2
  go_loopw [3, 8] (fun x i wr => ∃ k : Nat, k ≤ n ∧ i = .int .i64 k ∧ wr.ownsRow w.heap.size 210 3 x k ((l.take k).flatMap Res.enc) ∧ Below w.heap.size w wr) (fun _ i _ => n - (intOf i).toNat)
  case atStart => exact ⟨0, Nat.zero_le _, rfl, World.ownsRow_nil _ _ _ _, Below.refl _ _⟩
  case round =>
    obtain ⟨k, hk, rfl, hown, hB⟩ := hrel
    by_cases hlt : k < n
    · obtain ⟨b, off, s, rfl, hx, hb, hc⟩ := (H.below hB).at Res.len (by rw [← Hn.out]; exact hlt)
      have q0 : wr.cell? ⟨b, off + k * 3, none⟩ = some (.string s.n) := hc 0 (by omega)
      have q1 : wr.cell? ⟨b, off + k * 3 + 1, none⟩ = some (.int .i64 s.f) := hc 1 (by omega)
      have q2 : wr.cell? ⟨b, off + k * 3 + 2, none⟩ = some (.int .i64 s.w) := hc 2 (by omega)
      have hst : Hid ((l.take (k + 1)).flatMap Res.enc = (l.take k).flatMap Res.enc ++ [.string s.n, .int .i64 s.f, .int .i64 s.w]) := by
        show _ = _
        obtain ⟨hk', rfl⟩ := List.getElem?_eq_some_iff.1 hx
        rw [List.take_succ_eq_append_getElem hk', List.flatMap_append]; simp [Res.enc]
      have hsz := hB.size
      have hown1 := own_below hown ((Below.refl wr.heap.size wr).alloc (Nat.le_refl _) (Obj.cells #[.string s.n, .int .i64 s.f, .int .i64 s.w] 202))
      have hB1 := hB.alloc hsz (Obj.cells #[.string s.n, .int .i64 s.f, .int .i64 s.w] 202)
      clear hc hx hown
      go_wp2_with (at_builtin; refine wpList_append_own _ rfl _ _ 131 rfl w.heap.size 210 i0 (.agg #[.string ByteArray.empty, .int .i64 0, .int .i64 0]) 3 32 Tryz.underlying131 hi hz0 hz1 hz2 rfl (by decide) _ _ _ rfl (hown1.alloc _) ⟨wr.heap.size + 1, 0, none⟩ 1 1 [.string s.n, .int .i64 s.f, .int .i64 s.w] rfl rfl (news_one _ _ (by simp)) (by intro x hx; simp at hx; first | (subst hx; rfl) | (rcases hx with rfl | rfl <;> rfl) | (rcases hx with rfl | rfl | rfl <;> rfl)) (by unfold maxLen; omega) (by omega) (by simp; omega) ?_)
      intro x' w3 hown3 hg3 _
      have hB3 : Below w.heap.size w w3 := (hB1.alloc hB1.size _).grown hg3 (by simp; omega) (fun g hg => (hown1.lt g hg).1)
      rw [← hst.out] at hown3
      have HO := Lib.hid hown3
      clear hown3 hg3 hown1
      go_wp2
      go_roundw
      case rel => exact ⟨k + 1, by omega, by go_num, HO.out, hB3⟩
      case measure => simp [intOf]; omega
    · obtain rfl : k = n := by omega
      have hown' : wr.ownsRow w.heap.size 210 3 u3 k (l.flatMap Res.enc) := by
        have h := hown
        rw [List.take_of_length_le (by rw [← Hn.out]; exact Nat.le_refl _)] at h
        exact h
      clear hown
      have HO := Lib.hid hown'
      clear hown'
      go_wp2
      go_ret
      exact ⟨_, rfl, HO.out, hB⟩

end Go.Proofs.YtndhjkammoeikaaGreatDoor
