/- A part of the proofs about chapter 9: contracts of functions and plain laws (W66, PMore2, W72). -/
import Derived.Test.YtndhjkammoeikaaGreatDoorL02
import Derived.Test.YtndhjkammoeikaaGreatDoorA16
import Derived.Test.YtndhjkammoeikaaGreatDoorL01
set_option linter.all false
namespace Go.Proofs.YtndhjkammoeikaaGreatDoor
open Go.RowKit
set_option maxHeartbeats 1000000
set_option maxRecDepth 20000

theorem u38 (v : Ves) (u : Wat) (A : Option Addr) (cap : Nat) (l : List Sgt) (S : Option Addr) (scap : Nat) (sh : List Spn) (tk : Int) (w : World) (hl : l.length ≤ 1000000) (H : RdL w 3 Sgt.enc A l) (hls : sh.length ≤ 1000000) (HS : RdL w 2 Spn.enc S sh) (P : Int × Int) (hP : P = Mo.window v u l sh tk) :
    Calls Tryz.prog 38 #[.agg #[.int .i64 v.sx, .int .i64 v.sy, .int .i64 v.dx, .int .i64 v.dy, .int .i64 v.n], .agg #[.int .i64 u.ring, .int .i64 u.speed, .int .i64 u.loss, .int .i64 u.clear, .int .i64 u.soft], .slice A l.length cap, .slice S sh.length scap, .int .i64 tk] w fun en w' => en = .returned (.tuple #[.int .i64 P.1, .int .i64 P.2]) ∧ Below w.heap.size w w' := by
  subst hP
  unfold Mo.window
  by_cases h : Mo.winE v u l sh tk = 0
  · rw [if_neg (by rw [h]; simp)]
    exact c38_ok v u A cap l S scap sh tk w H HS h
  · rw [if_pos h]
    exact c38_bad v u A cap l S scap sh tk w hl H hls HS h

theorem u41 (v : Ves) (u : Wat) (A : Option Addr) (cap : Nat) (l : List Sgt) (S : Option Addr) (scap : Nat) (sh : List Spn) (tk : Int) (w : World) (hl : l.length ≤ 1000000) (H : RdL w 3 Sgt.enc A l) (hls : sh.length ≤ 1000000) (HS : RdL w 2 Spn.enc S sh) (P : Int × Int) (hP : P = Mo.window v u l sh tk) :
    Calls Tryz.prog 41 #[.agg #[.int .i64 v.sx, .int .i64 v.sy, .int .i64 v.dx, .int .i64 v.dy, .int .i64 v.n], .agg #[.int .i64 u.ring, .int .i64 u.speed, .int .i64 u.loss, .int .i64 u.clear, .int .i64 u.soft], .slice A l.length cap, .slice S sh.length scap, .int .i64 tk] w fun en w' => en = .returned (.tuple #[.int .i64 P.1, .int .i64 P.2]) ∧ Below w.heap.size w w' := by
  subst hP
  unfold Mo.window
  by_cases h : Mo.winE v u l sh tk = 0
  · rw [if_neg (by rw [h]; simp)]
    have hk : 1 ≤ tk := (Mo.range_zero (Mo.first_zero h (Mo.range tk 1 4096) (by simp))).1
    rw [Mo.findW_search _ _ _ hk]
    exact c41_ok v u A cap l S scap sh tk w H HS h
  · rw [if_pos h]
    exact c41_bad v u A cap l S scap sh tk w hl H hls HS h

theorem l5 (v : Ves) (u : Wat) (A : Option Addr) (cap : Nat) (l : List Sgt) (S : Option Addr) (scap : Nat) (sh : List Spn) (G : Option Addr) (gcap : Nat) (we : List Spn) (tk : Int) (w : World) (H : RdL w 3 Sgt.enc A l) (HS : RdL w 2 Spn.enc S sh) (HG : RdL w 2 Spn.enc G we) (hs0 : S = none → scap = 0) (hg0 : G = none → gcap = 0) :
    Calls Tryz.prog 5 #[.agg #[.int .i64 v.sx, .int .i64 v.sy, .int .i64 v.dx, .int .i64 v.dy, .int .i64 v.n], .agg #[.int .i64 u.ring, .int .i64 u.speed, .int .i64 u.loss, .int .i64 u.clear, .int .i64 u.soft, .slice A l.length cap], .agg #[.slice S sh.length scap, .slice G we.length gcap, .int .i64 tk]] w fun en w' => en = .returned (.bool true) ∧ Below w.heap.size w w' := by
  obtain ⟨N, hN⟩ : ∃ N, N = l.length := ⟨_, rfl⟩
  obtain ⟨M, hM⟩ : ∃ M, M = sh.length := ⟨_, rfl⟩
  obtain ⟨R, hR⟩ : ∃ R, R = we.length := ⟨_, rfl⟩
  obtain ⟨P, hP⟩ : ∃ P, P = Mo.window v u l sh tk := ⟨_, rfl⟩
  obtain ⟨D, hD⟩ : ∃ D, D = Mo.diary v u l sh we := ⟨_, rfl⟩
  have hdl : D.1.length ≤ 64 := by
    rw [hD]
    unfold Mo.diary
    split
    · simp
    · unfold Mo.cap64
      split <;> simp <;> omega
  rw [← hN, ← hM, ← hR]
  have HN := Lib.hid hN
  have HM := Lib.hid hM
  have HR := Lib.hid hR
  have HP := Lib.hid hP
  have HD := Lib.hid hD
  have HS0 := Lib.hid hs0
  have HG0 := Lib.hid hg0
  clear hN hM hR hP hD hs0 hg0
  go_enter Tryz.func5, Tryz.ntmps5
  obtain ⟨w0, hW⟩ : ∃ W, W = ((w.alloc (Obj.cells #[.int .i64 v.sx, .int .i64 v.sy, .int .i64 v.dx, .int .i64 v.dy, .int .i64 v.n] 25)).alloc (Obj.cells #[.int .i64 u.ring, .int .i64 u.speed, .int .i64 u.loss, .int .i64 u.clear, .int .i64 u.soft, .slice A N cap] 60)).alloc (Obj.cells #[.slice S M scap, .slice G R gcap, .int .i64 tk] 69) := ⟨_, rfl⟩
  have hT0 : w0.heap[w.heap.size]? = some (.cells #[.int .i64 v.sx, .int .i64 v.sy, .int .i64 v.dx, .int .i64 v.dy, .int .i64 v.n] 25 (0, 0)) := by rw [hW]; exact heap_old (by simp <;> omega) (heap_old (by simp <;> omega) (heap_new (by simp)))
  have hT1 : w0.heap[w.heap.size + 1]? = some (.cells #[.int .i64 u.ring, .int .i64 u.speed, .int .i64 u.loss, .int .i64 u.clear, .int .i64 u.soft, .slice A N cap] 60 (0, 0)) := by rw [hW]; exact heap_old (by simp <;> omega) (heap_new (by simp))
  have hT2 : w0.heap[w.heap.size + 1 + 1]? = some (.cells #[.slice S M scap, .slice G R gcap, .int .i64 tk] 69 (0, 0)) := by rw [hW]; exact heap_new (by simp)
  have hB0 : Below w.heap.size w w0 := by rw [hW]; exact ((((Below.refl _ _).alloc (by first | omega | (simp <;> omega)) _).alloc (by first | omega | (simp <;> omega)) _).alloc (by first | omega | (simp <;> omega)) _)
  replace H := H.below hB0
  replace HS := HS.below hB0
  replace HG := HG.below hB0
  go_wp2_with fail
  rw [← hW]
  clear hW
  have qhT0_0 : w0.cell? ⟨w.heap.size, 0, none⟩ = some (.int .i64 v.sx) := cell_at hT0 rfl
  have qhT0_1 : w0.cell? ⟨w.heap.size, 1, none⟩ = some (.int .i64 v.sy) := cell_at hT0 rfl
  have qhT0_2 : w0.cell? ⟨w.heap.size, 2, none⟩ = some (.int .i64 v.dx) := cell_at hT0 rfl
  have qhT0_3 : w0.cell? ⟨w.heap.size, 3, none⟩ = some (.int .i64 v.dy) := cell_at hT0 rfl
  have qhT0_4 : w0.cell? ⟨w.heap.size, 4, none⟩ = some (.int .i64 v.n) := cell_at hT0 rfl
  have qhT1_0 : w0.cell? ⟨w.heap.size + 1, 0, none⟩ = some (.int .i64 u.ring) := cell_at hT1 rfl
  have qhT1_1 : w0.cell? ⟨w.heap.size + 1, 1, none⟩ = some (.int .i64 u.speed) := cell_at hT1 rfl
  have qhT1_2 : w0.cell? ⟨w.heap.size + 1, 2, none⟩ = some (.int .i64 u.loss) := cell_at hT1 rfl
  have qhT1_3 : w0.cell? ⟨w.heap.size + 1, 3, none⟩ = some (.int .i64 u.clear) := cell_at hT1 rfl
  have qhT1_4 : w0.cell? ⟨w.heap.size + 1, 4, none⟩ = some (.int .i64 u.soft) := cell_at hT1 rfl
  have qhT1_5 : w0.cell? ⟨w.heap.size + 1, 5, none⟩ = some (.slice A N cap) := cell_at hT1 rfl
  have qhT2_0 : w0.cell? ⟨w.heap.size + 1 + 1, 0, none⟩ = some (.slice S M scap) := cell_at hT2 rfl
  have qhT2_1 : w0.cell? ⟨w.heap.size + 1 + 1, 1, none⟩ = some (.slice G R gcap) := cell_at hT2 rfl
  have qhT2_2 : w0.cell? ⟨w.heap.size + 1 + 1, 2, none⟩ = some (.int .i64 tk) := cell_at hT2 rfl
  go_wp2_with fail
  refine (c14 v A N cap _).mono ?_
  rintro e w1 ⟨⟨b, rfl, hb1⟩, hb⟩
  clear qhT0_0 qhT0_1 qhT0_2 qhT0_3 qhT0_4 qhT1_0 qhT1_1 qhT1_2 qhT1_3 qhT1_4 qhT1_5 qhT2_0 qhT2_1 qhT2_2
  have hS := hb
  have hB1 := hB0.call hS rfl
  replace hT0 := blkb hT0 hS
  replace hT1 := blkb hT1 hS
  replace hT2 := blkb hT2 hS
  replace H := H.below hS
  replace HS := HS.below hS
  replace HG := HG.below hS
  clear hS hB0
  have qhT0_0 : w1.cell? ⟨w.heap.size, 0, none⟩ = some (.int .i64 v.sx) := cell_at hT0 rfl
  have qhT0_1 : w1.cell? ⟨w.heap.size, 1, none⟩ = some (.int .i64 v.sy) := cell_at hT0 rfl
  have qhT0_2 : w1.cell? ⟨w.heap.size, 2, none⟩ = some (.int .i64 v.dx) := cell_at hT0 rfl
  have qhT0_3 : w1.cell? ⟨w.heap.size, 3, none⟩ = some (.int .i64 v.dy) := cell_at hT0 rfl
  have qhT0_4 : w1.cell? ⟨w.heap.size, 4, none⟩ = some (.int .i64 v.n) := cell_at hT0 rfl
  have qhT1_0 : w1.cell? ⟨w.heap.size + 1, 0, none⟩ = some (.int .i64 u.ring) := cell_at hT1 rfl
  have qhT1_1 : w1.cell? ⟨w.heap.size + 1, 1, none⟩ = some (.int .i64 u.speed) := cell_at hT1 rfl
  have qhT1_2 : w1.cell? ⟨w.heap.size + 1, 2, none⟩ = some (.int .i64 u.loss) := cell_at hT1 rfl
  have qhT1_3 : w1.cell? ⟨w.heap.size + 1, 3, none⟩ = some (.int .i64 u.clear) := cell_at hT1 rfl
  have qhT1_4 : w1.cell? ⟨w.heap.size + 1, 4, none⟩ = some (.int .i64 u.soft) := cell_at hT1 rfl
  have qhT1_5 : w1.cell? ⟨w.heap.size + 1, 5, none⟩ = some (.slice A N cap) := cell_at hT1 rfl
  have qhT2_0 : w1.cell? ⟨w.heap.size + 1 + 1, 0, none⟩ = some (.slice S M scap) := cell_at hT2 rfl
  have qhT2_1 : w1.cell? ⟨w.heap.size + 1 + 1, 1, none⟩ = some (.slice G R gcap) := cell_at hT2 rfl
  have qhT2_2 : w1.cell? ⟨w.heap.size + 1 + 1, 2, none⟩ = some (.int .i64 tk) := cell_at hT2 rfl
  clear hb
  cases b
  case false =>
    go_wp2_with fail
    refine (c15 _).mono ?_
    rintro e wz ⟨rfl, hz⟩
    go_wp2
    go_ret
    exact ⟨rfl, hB1.call hz rfl⟩
  have hl := hb1 rfl
  clear hb1
  go_wp2_with fail
  refine (c37 S M scap _).mono ?_
  rintro e w' ⟨⟨b, rfl, hb2⟩, rfl⟩
  cases b
  case false =>
    go_wp2_with fail
    refine (c15 _).mono ?_
    rintro e wz ⟨rfl, hz⟩
    go_wp2
    go_ret
    exact ⟨rfl, hB1.call hz rfl⟩
  have hm := hb2 rfl
  clear hb2
  go_wp2_with fail
  refine (c37 G R gcap _).mono ?_
  rintro e w' ⟨⟨b, rfl, hb3⟩, rfl⟩
  cases b
  case false =>
    go_wp2_with fail
    refine (c15 _).mono ?_
    rintro e wz ⟨rfl, hz⟩
    go_wp2
    go_ret
    exact ⟨rfl, hB1.call hz rfl⟩
  have hr := hb3 rfl
  clear hb3
  go_wp2
  have hl6 : l.length ≤ 1000000 := by rw [← HN.out]; omega
  have hm6 : sh.length ≤ 1000000 := by rw [← HM.out]; omega
  have hr6 : we.length ≤ 1000000 := by rw [← HR.out]; omega
  refine wp_region_plan [(0, true), (1, true), (2, true), (3, true), (4, true), (6, true), (7, true), (9, true), (10, true), (5, false), (8, false), (11, false), (12, true), (13, true), (14, true), (15, true), (16, true)] w1.heap.size (by kernel_rfl) (by kernel_rfl) (Nat.le_refl _) (fun _ _ d _ _ h => by cases d <;> exact h) ?_
  have hC : Below w1.heap.size w1 w1 := Below.refl _ _
  have zhT0 : w.heap.size < w1.heap.size := (Array.getElem?_eq_some_iff.1 hT0).1
  have zhT1 : w.heap.size + 1 < w1.heap.size := (Array.getElem?_eq_some_iff.1 hT1).1
  have zhT2 : w.heap.size + 1 + 1 < w1.heap.size := (Array.getElem?_eq_some_iff.1 hT2).1
  repeat (first | (refine wpPlanA_skip _ rfl (by rfl) ?_; simp only [Act.put, List.setIfInBounds_toArray, List.set_cons_zero, List.set_cons_succ]) | (refine wpPlanA_soft _ ?_ rfl (by rfl) ?_ ?_; rotate_left; (intro wq hq hcq; go_simp; first | exact rfl | exact ⟨rfl, rfl⟩); simp only [Act.put, List.setIfInBounds_toArray, List.set_cons_zero, List.set_cons_succ]))
  simp only [HN.out, HM.out, HR.out]
  refine wpPlanA_hard _ rfl (by rfl) (fun w2 hS K hK => ?_)
  have hB2 := hB1.call hS rfl
  replace hC := hC.call hS rfl
  replace hT0 := blkb hT0 hS
  replace hT1 := blkb hT1 hS
  replace hT2 := blkb hT2 hS
  replace H := H.below hS
  replace HS := HS.below hS
  replace HG := HG.below hS
  clear hS hB1
  go_simp
  refine (c17 A cap l _ hl6 H).mono ?_
  rintro e w3 ⟨_, rfl, ⟨AT, CT, rfl, ht⟩, hb⟩
  have hB3 := hB2.call hb rfl
  replace hC := hC.call hb rfl
  replace hT0 := blkb hT0 hb
  replace hT1 := blkb hT1 hb
  replace hT2 := blkb hT2 hb
  replace H := H.below hb
  replace HS := HS.below hb
  replace HG := HG.below hb
  clear hb hB2
  refine hK _ _ hC ?_
  clear hK K
  try simp only [Act.put, List.setIfInBounds_toArray, List.set_cons_zero, List.set_cons_succ]
  refine wpPlanA_hard _ rfl (by rfl) (fun w4 hS K hK => ?_)
  have hB4 := hB3.call hS rfl
  replace hC := hC.call hS rfl
  replace hT0 := blkb hT0 hS
  replace hT1 := blkb hT1 hS
  replace hT2 := blkb hT2 hS
  replace H := H.below hS
  replace HS := HS.below hS
  replace HG := HG.below hS
  replace ht := ht.below hS
  clear hS hB3
  go_simp
  refine (c39 S scap sh _ hm6 HS HS0.out).mono ?_
  rintro e w5 ⟨_, rfl, ⟨AS, CS, rfl, hts⟩, hb⟩
  have hB5 := hB4.call hb rfl
  replace hC := hC.call hb rfl
  replace hT0 := blkb hT0 hb
  replace hT1 := blkb hT1 hb
  replace hT2 := blkb hT2 hb
  replace H := H.below hb
  replace HS := HS.below hb
  replace HG := HG.below hb
  replace ht := ht.below hb
  clear hb hB4
  refine hK _ _ hC ?_
  clear hK K
  try simp only [Act.put, List.setIfInBounds_toArray, List.set_cons_zero, List.set_cons_succ]
  refine wpPlanA_hard _ rfl (by rfl) (fun w6 hS K hK => ?_)
  have hB6 := hB5.call hS rfl
  replace hC := hC.call hS rfl
  replace hT0 := blkb hT0 hS
  replace hT1 := blkb hT1 hS
  replace hT2 := blkb hT2 hS
  replace H := H.below hS
  replace HS := HS.below hS
  replace HG := HG.below hS
  replace ht := ht.below hS
  replace hts := hts.below hS
  clear hS hB5
  go_simp
  refine (u38 v u AT CT l AS CS sh tk _ hl6 ht hm6 hts P HP.out).mono ?_
  rintro e w7 ⟨rfl, hb⟩
  have hB7 := hB6.call hb rfl
  replace hC := hC.call hb rfl
  replace hT0 := blkb hT0 hb
  replace hT1 := blkb hT1 hb
  replace hT2 := blkb hT2 hb
  replace H := H.below hb
  replace HS := HS.below hb
  replace HG := HG.below hb
  replace ht := ht.below hb
  replace hts := hts.below hb
  clear hb hB6
  refine hK _ _ hC ?_
  clear hK K
  try simp only [Act.put, List.setIfInBounds_toArray, List.set_cons_zero, List.set_cons_succ]
  repeat (first | (refine wpPlanA_skip _ rfl (by rfl) ?_; simp only [Act.put, List.setIfInBounds_toArray, List.set_cons_zero, List.set_cons_succ]) | (refine wpPlanA_soft _ ?_ rfl (by rfl) ?_ ?_; rotate_left; (intro wq hq hcq; go_simp; first | exact rfl | exact ⟨rfl, rfl⟩); simp only [Act.put, List.setIfInBounds_toArray, List.set_cons_zero, List.set_cons_succ]))
  clear qhT0_0 qhT0_1 qhT0_2 qhT0_3 qhT0_4 qhT1_0 qhT1_1 qhT1_2 qhT1_3 qhT1_4 qhT1_5 qhT2_0 qhT2_1 qhT2_2
  refine wpPlanA_nil (fun w8 hS => ?_)
  clear hC zhT0 zhT1 zhT2
  have hB8 := hB7.call hS rfl
  replace hT0 := blkb hT0 hS
  replace hT1 := blkb hT1 hS
  replace hT2 := blkb hT2 hS
  replace H := H.below hS
  replace HS := HS.below hS
  replace HG := HG.below hS
  replace ht := ht.below hS
  replace hts := hts.below hS
  clear hS hB7
  have qhT0_0 : w8.cell? ⟨w.heap.size, 0, none⟩ = some (.int .i64 v.sx) := cell_at hT0 rfl
  have qhT0_1 : w8.cell? ⟨w.heap.size, 1, none⟩ = some (.int .i64 v.sy) := cell_at hT0 rfl
  have qhT0_2 : w8.cell? ⟨w.heap.size, 2, none⟩ = some (.int .i64 v.dx) := cell_at hT0 rfl
  have qhT0_3 : w8.cell? ⟨w.heap.size, 3, none⟩ = some (.int .i64 v.dy) := cell_at hT0 rfl
  have qhT0_4 : w8.cell? ⟨w.heap.size, 4, none⟩ = some (.int .i64 v.n) := cell_at hT0 rfl
  have qhT1_0 : w8.cell? ⟨w.heap.size + 1, 0, none⟩ = some (.int .i64 u.ring) := cell_at hT1 rfl
  have qhT1_1 : w8.cell? ⟨w.heap.size + 1, 1, none⟩ = some (.int .i64 u.speed) := cell_at hT1 rfl
  have qhT1_2 : w8.cell? ⟨w.heap.size + 1, 2, none⟩ = some (.int .i64 u.loss) := cell_at hT1 rfl
  have qhT1_3 : w8.cell? ⟨w.heap.size + 1, 3, none⟩ = some (.int .i64 u.clear) := cell_at hT1 rfl
  have qhT1_4 : w8.cell? ⟨w.heap.size + 1, 4, none⟩ = some (.int .i64 u.soft) := cell_at hT1 rfl
  have qhT1_5 : w8.cell? ⟨w.heap.size + 1, 5, none⟩ = some (.slice A N cap) := cell_at hT1 rfl
  have qhT2_0 : w8.cell? ⟨w.heap.size + 1 + 1, 0, none⟩ = some (.slice S M scap) := cell_at hT2 rfl
  have qhT2_1 : w8.cell? ⟨w.heap.size + 1 + 1, 1, none⟩ = some (.slice G R gcap) := cell_at hT2 rfl
  have qhT2_2 : w8.cell? ⟨w.heap.size + 1 + 1, 2, none⟩ = some (.int .i64 tk) := cell_at hT2 rfl
  clear ht
  clear hts
  simp only [← HN.out, ← HM.out, ← HR.out]
  go_wp2
  refine wp_region_plan [(0, true), (1, true), (2, true), (3, true), (4, true), (6, true), (7, true), (9, true), (10, true), (5, false), (8, false), (11, false), (12, false), (13, true), (14, true), (15, true), (16, true), (17, true)] w8.heap.size (by kernel_rfl) (by kernel_rfl) (Nat.le_refl _) (fun _ _ d _ _ h => by cases d <;> exact h) ?_
  have hC : Below w8.heap.size w8 w8 := Below.refl _ _
  have zhT0 : w.heap.size < w8.heap.size := (Array.getElem?_eq_some_iff.1 hT0).1
  have zhT1 : w.heap.size + 1 < w8.heap.size := (Array.getElem?_eq_some_iff.1 hT1).1
  have zhT2 : w.heap.size + 1 + 1 < w8.heap.size := (Array.getElem?_eq_some_iff.1 hT2).1
  repeat (first | (refine wpPlanA_skip _ rfl (by rfl) ?_; simp only [Act.put, List.setIfInBounds_toArray, List.set_cons_zero, List.set_cons_succ]) | (refine wpPlanA_soft _ ?_ rfl (by rfl) ?_ ?_; rotate_left; (intro wq hq hcq; go_simp; first | exact rfl | exact ⟨rfl, rfl⟩); simp only [Act.put, List.setIfInBounds_toArray, List.set_cons_zero, List.set_cons_succ]))
  simp only [HN.out, HM.out, HR.out]
  refine wpPlanA_hard _ rfl (by rfl) (fun w9 hS K hK => ?_)
  have hB9 := hB8.call hS rfl
  replace hC := hC.call hS rfl
  replace hT0 := blkb hT0 hS
  replace hT1 := blkb hT1 hS
  replace hT2 := blkb hT2 hS
  replace H := H.below hS
  replace HS := HS.below hS
  replace HG := HG.below hS
  clear hS hB8
  go_simp
  refine (c17 A cap l _ hl6 H).mono ?_
  rintro e w10 ⟨_, rfl, ⟨AT, CT, rfl, ht⟩, hb⟩
  have hB10 := hB9.call hb rfl
  replace hC := hC.call hb rfl
  replace hT0 := blkb hT0 hb
  replace hT1 := blkb hT1 hb
  replace hT2 := blkb hT2 hb
  replace H := H.below hb
  replace HS := HS.below hb
  replace HG := HG.below hb
  clear hb hB9
  refine hK _ _ hC ?_
  clear hK K
  try simp only [Act.put, List.setIfInBounds_toArray, List.set_cons_zero, List.set_cons_succ]
  refine wpPlanA_hard _ rfl (by rfl) (fun w11 hS K hK => ?_)
  have hB11 := hB10.call hS rfl
  replace hC := hC.call hS rfl
  replace hT0 := blkb hT0 hS
  replace hT1 := blkb hT1 hS
  replace hT2 := blkb hT2 hS
  replace H := H.below hS
  replace HS := HS.below hS
  replace HG := HG.below hS
  replace ht := ht.below hS
  clear hS hB10
  go_simp
  refine (c39 S scap sh _ hm6 HS HS0.out).mono ?_
  rintro e w12 ⟨_, rfl, ⟨AS, CS, rfl, hts⟩, hb⟩
  have hB12 := hB11.call hb rfl
  replace hC := hC.call hb rfl
  replace hT0 := blkb hT0 hb
  replace hT1 := blkb hT1 hb
  replace hT2 := blkb hT2 hb
  replace H := H.below hb
  replace HS := HS.below hb
  replace HG := HG.below hb
  replace ht := ht.below hb
  clear hb hB11
  refine hK _ _ hC ?_
  clear hK K
  try simp only [Act.put, List.setIfInBounds_toArray, List.set_cons_zero, List.set_cons_succ]
  refine wpPlanA_hard _ rfl (by rfl) (fun w13 hS K hK => ?_)
  have hB13 := hB12.call hS rfl
  replace hC := hC.call hS rfl
  replace hT0 := blkb hT0 hS
  replace hT1 := blkb hT1 hS
  replace hT2 := blkb hT2 hS
  replace H := H.below hS
  replace HS := HS.below hS
  replace HG := HG.below hS
  replace ht := ht.below hS
  replace hts := hts.below hS
  clear hS hB12
  go_simp
  refine (c39 G gcap we _ hr6 HG HG0.out).mono ?_
  rintro e w14 ⟨_, rfl, ⟨AG, CG, rfl, htg⟩, hb⟩
  have hB14 := hB13.call hb rfl
  replace hC := hC.call hb rfl
  replace hT0 := blkb hT0 hb
  replace hT1 := blkb hT1 hb
  replace hT2 := blkb hT2 hb
  replace H := H.below hb
  replace HS := HS.below hb
  replace HG := HG.below hb
  replace ht := ht.below hb
  replace hts := hts.below hb
  clear hb hB13
  refine hK _ _ hC ?_
  clear hK K
  try simp only [Act.put, List.setIfInBounds_toArray, List.set_cons_zero, List.set_cons_succ]
  have h40 := fun w1 (H1 : RdL w1 3 Sgt.enc AT l) (H2 : RdL w1 2 Spn.enc AS sh) (H3 : RdL w1 2 Spn.enc AG we) => c40 v u AT CT l AS CS sh AG CG we w1 hl6 hm6 hr6 H1 H2 H3
  rw [← HD.out] at h40
  have H40 := Lib.hid h40
  clear h40
  refine wpPlanA_hard _ rfl (by rfl) (fun w15 hS K hK => ?_)
  have hB15 := hB14.call hS rfl
  replace hC := hC.call hS rfl
  replace hT0 := blkb hT0 hS
  replace hT1 := blkb hT1 hS
  replace hT2 := blkb hT2 hS
  replace H := H.below hS
  replace HS := HS.below hS
  replace HG := HG.below hS
  replace ht := ht.below hS
  replace hts := hts.below hS
  replace htg := htg.below hS
  clear hS hB14
  go_simp
  refine (H40.out _ ht hts htg).mono ?_
  rintro e w16 ⟨_, rfl, ⟨A1, C1, rfl, h1⟩, hb⟩
  have hB16 := hB15.call hb rfl
  replace hC := hC.call hb rfl
  replace hT0 := blkb hT0 hb
  replace hT1 := blkb hT1 hb
  replace hT2 := blkb hT2 hb
  replace H := H.below hb
  replace HS := HS.below hb
  replace HG := HG.below hb
  replace ht := ht.below hb
  replace hts := hts.below hb
  replace htg := htg.below hb
  clear hb hB15
  refine hK _ _ hC ?_
  clear hK K
  try simp only [Act.put, List.setIfInBounds_toArray, List.set_cons_zero, List.set_cons_succ]
  repeat (first | (refine wpPlanA_skip _ rfl (by rfl) ?_; simp only [Act.put, List.setIfInBounds_toArray, List.set_cons_zero, List.set_cons_succ]) | (refine wpPlanA_soft _ ?_ rfl (by rfl) ?_ ?_; rotate_left; (intro wq hq hcq; go_simp; first | exact rfl | exact ⟨rfl, rfl⟩); simp only [Act.put, List.setIfInBounds_toArray, List.set_cons_zero, List.set_cons_succ]))
  clear qhT0_0 qhT0_1 qhT0_2 qhT0_3 qhT0_4 qhT1_0 qhT1_1 qhT1_2 qhT1_3 qhT1_4 qhT1_5 qhT2_0 qhT2_1 qhT2_2
  refine wpPlanA_nil (fun w17 hS => ?_)
  clear hC zhT0 zhT1 zhT2
  have hB17 := hB16.call hS rfl
  replace hT0 := blkb hT0 hS
  replace hT1 := blkb hT1 hS
  replace hT2 := blkb hT2 hS
  replace H := H.below hS
  replace HS := HS.below hS
  replace HG := HG.below hS
  replace ht := ht.below hS
  replace hts := hts.below hS
  replace htg := htg.below hS
  replace h1 := h1.below hS
  clear hS hB16
  have qhT0_0 : w17.cell? ⟨w.heap.size, 0, none⟩ = some (.int .i64 v.sx) := cell_at hT0 rfl
  have qhT0_1 : w17.cell? ⟨w.heap.size, 1, none⟩ = some (.int .i64 v.sy) := cell_at hT0 rfl
  have qhT0_2 : w17.cell? ⟨w.heap.size, 2, none⟩ = some (.int .i64 v.dx) := cell_at hT0 rfl
  have qhT0_3 : w17.cell? ⟨w.heap.size, 3, none⟩ = some (.int .i64 v.dy) := cell_at hT0 rfl
  have qhT0_4 : w17.cell? ⟨w.heap.size, 4, none⟩ = some (.int .i64 v.n) := cell_at hT0 rfl
  have qhT1_0 : w17.cell? ⟨w.heap.size + 1, 0, none⟩ = some (.int .i64 u.ring) := cell_at hT1 rfl
  have qhT1_1 : w17.cell? ⟨w.heap.size + 1, 1, none⟩ = some (.int .i64 u.speed) := cell_at hT1 rfl
  have qhT1_2 : w17.cell? ⟨w.heap.size + 1, 2, none⟩ = some (.int .i64 u.loss) := cell_at hT1 rfl
  have qhT1_3 : w17.cell? ⟨w.heap.size + 1, 3, none⟩ = some (.int .i64 u.clear) := cell_at hT1 rfl
  have qhT1_4 : w17.cell? ⟨w.heap.size + 1, 4, none⟩ = some (.int .i64 u.soft) := cell_at hT1 rfl
  have qhT1_5 : w17.cell? ⟨w.heap.size + 1, 5, none⟩ = some (.slice A N cap) := cell_at hT1 rfl
  have qhT2_0 : w17.cell? ⟨w.heap.size + 1 + 1, 0, none⟩ = some (.slice S M scap) := cell_at hT2 rfl
  have qhT2_1 : w17.cell? ⟨w.heap.size + 1 + 1, 1, none⟩ = some (.slice G R gcap) := cell_at hT2 rfl
  have qhT2_2 : w17.cell? ⟨w.heap.size + 1 + 1, 2, none⟩ = some (.int .i64 tk) := cell_at hT2 rfl
  clear ht
  clear hts
  clear htg
  clear H40
  simp only [← HN.out, ← HM.out, ← HR.out]
  have h41 := fun w1 (H1 : RdL w1 3 Sgt.enc A l) (H2 : RdL w1 2 Spn.enc S sh) => u41 v u A cap l S scap sh tk w1 hl6 H1 hm6 H2 P HP.out
  have h42 := fun w1 (H1 : RdL w1 3 Sgt.enc A l) (H2 : RdL w1 2 Spn.enc S sh) (H3 : RdL w1 2 Spn.enc G we) => c42 v u A cap l S scap sh G gcap we w1 hl6 hm6 hr6 H1 H2 H3
  rw [← HD.out] at h42
  rw [← HN.out, ← HM.out] at h41
  rw [← HN.out, ← HM.out, ← HR.out] at h42
  have H41 := Lib.hid h41
  have H42 := Lib.hid h42
  clear h41 h42
  go_wp2_with fail
  refine (H41.out _ H HS).mono ?_
  rintro e w18 ⟨rfl, hb⟩
  clear qhT0_0 qhT0_1 qhT0_2 qhT0_3 qhT0_4 qhT1_0 qhT1_1 qhT1_2 qhT1_3 qhT1_4 qhT1_5 qhT2_0 qhT2_1 qhT2_2
  have hS := hb
  have hB18 := hB17.call hS rfl
  replace hT0 := blkb hT0 hS
  replace hT1 := blkb hT1 hS
  replace hT2 := blkb hT2 hS
  replace H := H.below hS
  replace HS := HS.below hS
  replace HG := HG.below hS
  replace h1 := h1.below hS
  clear hS hB17
  have qhT0_0 : w18.cell? ⟨w.heap.size, 0, none⟩ = some (.int .i64 v.sx) := cell_at hT0 rfl
  have qhT0_1 : w18.cell? ⟨w.heap.size, 1, none⟩ = some (.int .i64 v.sy) := cell_at hT0 rfl
  have qhT0_2 : w18.cell? ⟨w.heap.size, 2, none⟩ = some (.int .i64 v.dx) := cell_at hT0 rfl
  have qhT0_3 : w18.cell? ⟨w.heap.size, 3, none⟩ = some (.int .i64 v.dy) := cell_at hT0 rfl
  have qhT0_4 : w18.cell? ⟨w.heap.size, 4, none⟩ = some (.int .i64 v.n) := cell_at hT0 rfl
  have qhT1_0 : w18.cell? ⟨w.heap.size + 1, 0, none⟩ = some (.int .i64 u.ring) := cell_at hT1 rfl
  have qhT1_1 : w18.cell? ⟨w.heap.size + 1, 1, none⟩ = some (.int .i64 u.speed) := cell_at hT1 rfl
  have qhT1_2 : w18.cell? ⟨w.heap.size + 1, 2, none⟩ = some (.int .i64 u.loss) := cell_at hT1 rfl
  have qhT1_3 : w18.cell? ⟨w.heap.size + 1, 3, none⟩ = some (.int .i64 u.clear) := cell_at hT1 rfl
  have qhT1_4 : w18.cell? ⟨w.heap.size + 1, 4, none⟩ = some (.int .i64 u.soft) := cell_at hT1 rfl
  have qhT1_5 : w18.cell? ⟨w.heap.size + 1, 5, none⟩ = some (.slice A N cap) := cell_at hT1 rfl
  have qhT2_0 : w18.cell? ⟨w.heap.size + 1 + 1, 0, none⟩ = some (.slice S M scap) := cell_at hT2 rfl
  have qhT2_1 : w18.cell? ⟨w.heap.size + 1 + 1, 1, none⟩ = some (.slice G R gcap) := cell_at hT2 rfl
  have qhT2_2 : w18.cell? ⟨w.heap.size + 1 + 1, 2, none⟩ = some (.int .i64 tk) := cell_at hT2 rfl
  clear hb
  go_wp2_with fail
  refine (H42.out _ H HS HG).mono ?_
  rintro e w19 ⟨_, rfl, ⟨A2, C2, rfl, h2⟩, hb⟩
  clear qhT0_0 qhT0_1 qhT0_2 qhT0_3 qhT0_4 qhT1_0 qhT1_1 qhT1_2 qhT1_3 qhT1_4 qhT1_5 qhT2_0 qhT2_1 qhT2_2
  have hS := hb
  have hB19 := hB18.call hS rfl
  replace hT0 := blkb hT0 hS
  replace hT1 := blkb hT1 hS
  replace hT2 := blkb hT2 hS
  replace H := H.below hS
  replace HS := HS.below hS
  replace HG := HG.below hS
  replace h1 := h1.below hS
  clear hS hB18
  have qhT0_0 : w19.cell? ⟨w.heap.size, 0, none⟩ = some (.int .i64 v.sx) := cell_at hT0 rfl
  have qhT0_1 : w19.cell? ⟨w.heap.size, 1, none⟩ = some (.int .i64 v.sy) := cell_at hT0 rfl
  have qhT0_2 : w19.cell? ⟨w.heap.size, 2, none⟩ = some (.int .i64 v.dx) := cell_at hT0 rfl
  have qhT0_3 : w19.cell? ⟨w.heap.size, 3, none⟩ = some (.int .i64 v.dy) := cell_at hT0 rfl
  have qhT0_4 : w19.cell? ⟨w.heap.size, 4, none⟩ = some (.int .i64 v.n) := cell_at hT0 rfl
  have qhT1_0 : w19.cell? ⟨w.heap.size + 1, 0, none⟩ = some (.int .i64 u.ring) := cell_at hT1 rfl
  have qhT1_1 : w19.cell? ⟨w.heap.size + 1, 1, none⟩ = some (.int .i64 u.speed) := cell_at hT1 rfl
  have qhT1_2 : w19.cell? ⟨w.heap.size + 1, 2, none⟩ = some (.int .i64 u.loss) := cell_at hT1 rfl
  have qhT1_3 : w19.cell? ⟨w.heap.size + 1, 3, none⟩ = some (.int .i64 u.clear) := cell_at hT1 rfl
  have qhT1_4 : w19.cell? ⟨w.heap.size + 1, 4, none⟩ = some (.int .i64 u.soft) := cell_at hT1 rfl
  have qhT1_5 : w19.cell? ⟨w.heap.size + 1, 5, none⟩ = some (.slice A N cap) := cell_at hT1 rfl
  have qhT2_0 : w19.cell? ⟨w.heap.size + 1 + 1, 0, none⟩ = some (.slice S M scap) := cell_at hT2 rfl
  have qhT2_1 : w19.cell? ⟨w.heap.size + 1 + 1, 1, none⟩ = some (.slice G R gcap) := cell_at hT2 rfl
  have qhT2_2 : w19.cell? ⟨w.heap.size + 1 + 1, 2, none⟩ = some (.int .i64 tk) := cell_at hT2 rfl
  clear hb
  go_wp2_with fail
  refine (c44 A1 C1 D.1 _ (by omega) h1).mono ?_
  rintro e w20 ⟨_, rfl, ⟨A3, C3, rfl, h3⟩, hb⟩
  clear qhT0_0 qhT0_1 qhT0_2 qhT0_3 qhT0_4 qhT1_0 qhT1_1 qhT1_2 qhT1_3 qhT1_4 qhT1_5 qhT2_0 qhT2_1 qhT2_2
  have hS := hb
  have hB20 := hB19.call hS rfl
  replace hT0 := blkb hT0 hS
  replace hT1 := blkb hT1 hS
  replace hT2 := blkb hT2 hS
  replace H := H.below hS
  replace HS := HS.below hS
  replace HG := HG.below hS
  replace h1 := h1.below hS
  replace h2 := h2.below hS
  clear hS hB19
  have qhT0_0 : w20.cell? ⟨w.heap.size, 0, none⟩ = some (.int .i64 v.sx) := cell_at hT0 rfl
  have qhT0_1 : w20.cell? ⟨w.heap.size, 1, none⟩ = some (.int .i64 v.sy) := cell_at hT0 rfl
  have qhT0_2 : w20.cell? ⟨w.heap.size, 2, none⟩ = some (.int .i64 v.dx) := cell_at hT0 rfl
  have qhT0_3 : w20.cell? ⟨w.heap.size, 3, none⟩ = some (.int .i64 v.dy) := cell_at hT0 rfl
  have qhT0_4 : w20.cell? ⟨w.heap.size, 4, none⟩ = some (.int .i64 v.n) := cell_at hT0 rfl
  have qhT1_0 : w20.cell? ⟨w.heap.size + 1, 0, none⟩ = some (.int .i64 u.ring) := cell_at hT1 rfl
  have qhT1_1 : w20.cell? ⟨w.heap.size + 1, 1, none⟩ = some (.int .i64 u.speed) := cell_at hT1 rfl
  have qhT1_2 : w20.cell? ⟨w.heap.size + 1, 2, none⟩ = some (.int .i64 u.loss) := cell_at hT1 rfl
  have qhT1_3 : w20.cell? ⟨w.heap.size + 1, 3, none⟩ = some (.int .i64 u.clear) := cell_at hT1 rfl
  have qhT1_4 : w20.cell? ⟨w.heap.size + 1, 4, none⟩ = some (.int .i64 u.soft) := cell_at hT1 rfl
  have qhT1_5 : w20.cell? ⟨w.heap.size + 1, 5, none⟩ = some (.slice A N cap) := cell_at hT1 rfl
  have qhT2_0 : w20.cell? ⟨w.heap.size + 1 + 1, 0, none⟩ = some (.slice S M scap) := cell_at hT2 rfl
  have qhT2_1 : w20.cell? ⟨w.heap.size + 1 + 1, 1, none⟩ = some (.slice G R gcap) := cell_at hT2 rfl
  have qhT2_2 : w20.cell? ⟨w.heap.size + 1 + 1, 2, none⟩ = some (.int .i64 tk) := cell_at hT2 rfl
  clear hb
  go_wp2_with fail
  refine (c43 A3 A2 C3 C2 D.1 _ (by omega) h3 h2).mono ?_
  rintro e w21 ⟨rfl, hb⟩
  clear qhT0_0 qhT0_1 qhT0_2 qhT0_3 qhT0_4 qhT1_0 qhT1_1 qhT1_2 qhT1_3 qhT1_4 qhT1_5 qhT2_0 qhT2_1 qhT2_2
  have hS := hb
  have hB21 := hB20.call hS rfl
  replace hT0 := blkb hT0 hS
  replace hT1 := blkb hT1 hS
  replace hT2 := blkb hT2 hS
  replace H := H.below hS
  replace HS := HS.below hS
  replace HG := HG.below hS
  replace h1 := h1.below hS
  replace h2 := h2.below hS
  replace h3 := h3.below hS
  clear hS hB20
  have qhT0_0 : w21.cell? ⟨w.heap.size, 0, none⟩ = some (.int .i64 v.sx) := cell_at hT0 rfl
  have qhT0_1 : w21.cell? ⟨w.heap.size, 1, none⟩ = some (.int .i64 v.sy) := cell_at hT0 rfl
  have qhT0_2 : w21.cell? ⟨w.heap.size, 2, none⟩ = some (.int .i64 v.dx) := cell_at hT0 rfl
  have qhT0_3 : w21.cell? ⟨w.heap.size, 3, none⟩ = some (.int .i64 v.dy) := cell_at hT0 rfl
  have qhT0_4 : w21.cell? ⟨w.heap.size, 4, none⟩ = some (.int .i64 v.n) := cell_at hT0 rfl
  have qhT1_0 : w21.cell? ⟨w.heap.size + 1, 0, none⟩ = some (.int .i64 u.ring) := cell_at hT1 rfl
  have qhT1_1 : w21.cell? ⟨w.heap.size + 1, 1, none⟩ = some (.int .i64 u.speed) := cell_at hT1 rfl
  have qhT1_2 : w21.cell? ⟨w.heap.size + 1, 2, none⟩ = some (.int .i64 u.loss) := cell_at hT1 rfl
  have qhT1_3 : w21.cell? ⟨w.heap.size + 1, 3, none⟩ = some (.int .i64 u.clear) := cell_at hT1 rfl
  have qhT1_4 : w21.cell? ⟨w.heap.size + 1, 4, none⟩ = some (.int .i64 u.soft) := cell_at hT1 rfl
  have qhT1_5 : w21.cell? ⟨w.heap.size + 1, 5, none⟩ = some (.slice A N cap) := cell_at hT1 rfl
  have qhT2_0 : w21.cell? ⟨w.heap.size + 1 + 1, 0, none⟩ = some (.slice S M scap) := cell_at hT2 rfl
  have qhT2_1 : w21.cell? ⟨w.heap.size + 1 + 1, 1, none⟩ = some (.slice G R gcap) := cell_at hT2 rfl
  have qhT2_2 : w21.cell? ⟨w.heap.size + 1 + 1, 2, none⟩ = some (.int .i64 tk) := cell_at hT2 rfl
  clear hb
  go_wp2_with fail
  refine (c15 _).mono ?_
  rintro e wz ⟨rfl, hz⟩
  go_wp2
  go_ret
  exact ⟨rfl, hB21.call hz rfl⟩

end Go.Proofs.YtndhjkammoeikaaGreatDoor
/- Plain laws for chapter 9: milder watches are valid, fewer sightings are valid; what a window says. -/
namespace Go.Proofs.YtndhjkammoeikaaGreatDoor
namespace Mo
theorem first_of {l : List Int} (h : ∀ x ∈ l, x = 0) : first l = 0 := by
  induction l with
  | nil => rfl
  | cons a l ih =>
    unfold first
    rw [if_neg (by simpa using h a (by simp))]
    exact ih fun x hx => h x (by simp [hx])
theorem range_of {n lo hi : Int} (h : lo ≤ n ∧ n ≤ hi) : range n lo hi = 0 := by
  unfold range
  rw [if_neg (by omega)]
theorem wat_of {u : Wat} (h : WOk u) : wat u = 0 := by
  apply first_of
  intro x hx
  simp only [List.mem_cons, List.not_mem_nil, or_false] at hx
  rcases hx with rfl | rfl | rfl | rfl | rfl
  · exact range_of h.ring
  · exact range_of h.speed
  · exact range_of h.loss
  · exact range_of h.clear
  · exact range_of h.soft
theorem each_of {n most : Nat} {f : Nat → Int} (hn : n ≤ most) (h : ∀ k, k < n → f k = 0) : each n most f = 0 := by
  unfold each
  rw [if_neg (by omega)]
  apply first_of
  intro x hx
  obtain ⟨k, hk, rfl⟩ := List.mem_map.1 hx
  exact h k (List.mem_range.1 hk)
theorem sightings_take {l : List Sgt} (h : sightings l = 0) (m : Nat) : sightings (l.take m) = 0 := by
  obtain ⟨h1, h2⟩ := each_zero h
  refine each_of (by rw [List.length_take]; omega) fun k hk => ?_
  rw [List.length_take] at hk
  have h3 := h2 k (by omega)
  unfold sgt1 at h3 ⊢
  rw [List.getElem?_take_of_lt (by omega)]
  by_cases h0 : 0 < k
  · rw [List.getElem?_take_of_lt (by omega)]
    exact h3
  · have hk0 : k = 0 := by omega
    subst hk0
    simpa using h3
theorem all_parts {v : Ves} {u : Wat} {l : List Sgt} (h : all v u l = 0) : ves v = 0 ∧ wat u = 0 ∧ sightings l = 0 := by
  have := first_zero h
  exact ⟨this _ (by simp), this _ (by simp), this _ (by simp)⟩
theorem all_of {v : Ves} {u : Wat} {l : List Sgt} (h1 : ves v = 0) (h2 : wat u = 0) (h3 : sightings l = 0) : all v u l = 0 := by
  apply first_of
  intro x hx
  simp only [List.mem_cons, List.not_mem_nil, or_false] at hx
  rcases hx with rfl | rfl | rfl
  · exact h1
  · exact h2
  · exact h3
/-- the four milder watches -/
def mild (u : Wat) (j : Nat) : Wat := match j with
  | 0 => ⟨max 0 (u.ring - 3), u.speed, u.loss, u.clear, u.soft⟩
  | 1 => ⟨u.ring, max 0 (u.speed - 1), u.loss, u.clear, u.soft⟩
  | 2 => ⟨u.ring, u.speed, max 0 (u.loss - 1), u.clear, u.soft⟩
  | _ => ⟨u.ring, u.speed, u.loss, max 0 (u.clear - 1), u.soft⟩
theorem mild_ok {u : Wat} (h : WOk u) (j : Nat) : Milder u (mild u j) ∧ WOk (mild u j) := by
  obtain ⟨h1, h2, h3, h4, h5⟩ := h
  match j with
  | 0 => exact ⟨⟨by simp only [mild]; omega, by simp only [mild]; omega, by simp only [mild]; omega, by simp only [mild]; omega, rfl⟩, ⟨by simp only [mild]; omega, h2, h3, h4, h5⟩⟩
  | 1 => exact ⟨⟨by simp only [mild]; omega, by simp only [mild]; omega, by simp only [mild]; omega, by simp only [mild]; omega, rfl⟩, ⟨h1, by simp only [mild]; omega, h3, h4, h5⟩⟩
  | 2 => exact ⟨⟨by simp only [mild]; omega, by simp only [mild]; omega, by simp only [mild]; omega, by simp only [mild]; omega, rfl⟩, ⟨h1, h2, by simp only [mild]; omega, h4, h5⟩⟩
  | (n + 3) => exact ⟨⟨by simp only [mild]; omega, by simp only [mild]; omega, by simp only [mild]; omega, by simp only [mild]; omega, rfl⟩, ⟨h1, h2, h3, by simp only [mild]; omega, h5⟩⟩
theorem all_mild {v : Ves} {u : Wat} {l : List Sgt} (h : all v u l = 0) (j m : Nat) : all v (mild u j) (l.take m) = 0 := by
  obtain ⟨h1, h2, h3⟩ := all_parts h
  exact all_of h1 (wat_of (mild_ok (wat_ok h2) j).2) (sightings_take h3 m)
theorem all_mild' {v : Ves} {u : Wat} {l : List Sgt} (h : all v u l = 0) (j : Nat) : all v (mild u j) l = 0 := by
  have := all_mild h j l.length
  rwa [List.take_length] at this
theorem level_mild {v : Ves} {u : Wat} {l : List Sgt} (h : all v u l = 0) (j m : Nat) (t : Nat) : level v u l t ≤ level v (mild u j) l t ∧ level v (mild u j) l t ≤ level v (mild u j) (l.take m) t := by
  obtain ⟨h1, h2, h3⟩ := all_parts h
  have hm := mild_ok (wat_ok h2) j
  exact ⟨level_mono hm.1 (fun s hs => hs) t, level_mono (Milder.refl hm.2) (fun s hs => List.mem_of_mem_take hs) t⟩
theorem lv_get (v : Ves) (u : Wat) (l : List Sgt) (k : Nat) (h : k < v.n.toNat) : ((levels v u l).map (Value.int .i64)).toArray[k]? = some (.int .i64 (level v u l k)) := by
  simp [levels, h]
theorem winE_zero {v : Ves} {u : Wat} {l : List Sgt} {sh : List Spn} {k : Int} (h1 : all v u l = 0) (h2 : spans sh = 0) (h3 : range k 1 4096 = 0) : winE v u l sh k = 0 := by
  apply first_of
  intro x hx
  simp only [List.mem_cons, List.not_mem_nil, or_false] at hx
  rcases hx with rfl | rfl | rfl
  · exact h1
  · exact h2
  · exact h3
/-- what a window says -/
theorem window_facts {v : Ves} {u : Wat} {l : List Sgt} {sh : List Spn} {K : Nat} (h1 : all v u l = 0) (h2 : spans sh = 0) (hK : 1 ≤ K) (hK2 : K ≤ 4096) :
    (window v u l sh K).2 = 7 ∨ ∃ n : Nat, window v u l sh K = ((n : Int), 0) ∧ n + K ≤ v.n.toNat ∧ (∀ i, i < K → level v u l (n + i) = u.soft + 1 ∧ inSp sh ((n + i : Nat) : Int) = true) ∧
      (2 ≤ K → ∃ m : Int, window v u l sh ((K : Int) - 1) = (m, 0) ∧ m ≤ n) := by
  have hz : ∀ k : Nat, 1 ≤ k → k ≤ 4096 → window v u l sh (k : Int) = search (winP v u l sh) k v.n.toNat := by
    intro k hk hk2
    unfold window
    rw [if_neg (by rw [winE_zero h1 h2 (range_of (by omega))]; simp), findW_search _ _ _ (by omega)]
    rfl
  rw [hz K hK hK2]
  cases hs : search (winP v u l sh) K v.n.toNat with
  | mk a b =>
    by_cases hb : b = 0
    · subst hb
      right
      obtain ⟨n, rfl, hn, hp, _⟩ := search_some _ _ _ _ hs
      refine ⟨n, rfl, by omega, fun i hi => ?_, fun h2 => ?_⟩
      · have := (allp_iff _ _ _).1 hp i hi
        unfold winP at this
        rw [Bool.and_eq_true] at this
        exact ⟨by simpa using this.1, this.2⟩
      · obtain ⟨m, hm, hle⟩ := search_less _ _ _ _ h2 hs
        refine ⟨m, ?_, hle⟩
        have := hz (K - 1) (by omega) (by omega)
        rw [hm] at this
        rw [← this]
        congr 1
        omega
    · left
      unfold search at hs
      split at hs
      · exact absurd (congrArg Prod.snd hs).symm hb
      · exact (congrArg Prod.snd hs).symm
theorem inSp_take {r : List Spn} {j : Nat} {s : Spn} (h : r[j]? = some s) (t : Int) : inSp (r.take (j + 1)) t = (inSp (r.take j) t || has s.f s.t t) := by
  obtain ⟨hj, rfl⟩ := List.getElem?_eq_some_iff.1 h
  unfold inSp
  rw [List.take_succ_eq_append_getElem hj, List.any_append, List.any_cons, List.any_nil, Bool.or_false]
end Mo
end Go.Proofs.YtndhjkammoeikaaGreatDoor
namespace Go.Proofs.YtndhjkammoeikaaGreatDoor
open Go.RowKit
set_option maxHeartbeats 100000000
set_option maxRecDepth 20000

theorem wrapI72 (n : Int) (h0 : -9223372036854775808 ≤ n) (h1 : n ≤ 9223372036854775807) : IntKind.i64.wrap n = n := by rw [IntKind.wrap_i64]; omega
theorem RdL.take3 {w : World} {A : Option Addr} {n : Nat} {l : List Sgt} (H : RdS w 3 A n (l.flatMap Sgt.enc)) (m : Nat) (h : m ≤ n) (hn : n = l.length) : RdS w 3 A m ((l.take m).flatMap Sgt.enc) := by
  have hlen : ∀ l : List Sgt, (l.flatMap Sgt.enc).length = l.length * 3 := by
    intro l
    induction l with
    | nil => rfl
    | cons a l ih => rw [List.flatMap_cons, List.length_append, ih, Sgt.len, List.length_cons]; omega
  have e : l.flatMap Sgt.enc = (l.take m).flatMap Sgt.enc ++ (l.drop m).flatMap Sgt.enc := by rw [← List.flatMap_append, List.take_append_drop]
  have hm : ((l.take m).flatMap Sgt.enc).length = m * 3 := by rw [hlen, List.length_take]; omega
  refine ⟨hm, fun h0 => ?_⟩
  obtain ⟨b, off, rfl, hb, hc⟩ := H.2 (by omega)
  refine ⟨b, off, rfl, hb, fun j hj => ?_⟩
  rw [hc j (by rw [H.1]; omega), e, List.getElem?_append_left hj]
theorem slice_pre (A : Option Addr) (n cap : Nat) (h : n - 1 ≤ cap) (h0 : A = none → cap = 0) (W : World) : (Instr.slice 28 (.slice A n cap) none (some (.int .i64 ((n - 1 : Nat) : Int))) none).run Tryz.prog W = .ok (.slice A (n - 1) cap) W := by
  have hu : Tryz.prog.underlying 28 = some (.slice (Tryz.prog.elem 28)) := by kernel_rfl
  have hs : (sizeOf (Tryz.prog.elem 28)).run Tryz.prog W = .ok 3 W := by
    have : Tryz.prog.elem 28 = 104 := by kernel_rfl
    rw [this]
    go_simp
  rw [run_slice_h W 28 A n cap hu .i64 ((n - 1 : Nat) : Int) (by omega) (by omega), hs]
  simp only [Result.andThen_ok, sliced, Int.toNat_natCast, Nat.sub_zero, Nat.zero_mul]
  cases A with
  | none => simp
  | some a =>
    have : a.add 0 = a := by cases a; simp [Addr.add]
    simp [this]
theorem u50 (v : Ves) (u : Wat) (A : Option Addr) (cap : Nat) (l : List Sgt) (w : World) (H : RdL w 3 Sgt.enc A l) (hall : Mo.all v u l = 0) :
    Calls Tryz.prog 50 #[.agg #[.int .i64 v.sx, .int .i64 v.sy, .int .i64 v.dx, .int .i64 v.dy, .int .i64 v.n], .agg #[.int .i64 u.ring, .int .i64 u.speed, .int .i64 u.loss, .int .i64 u.clear, .int .i64 u.soft], .slice A l.length cap] w fun en w' => ∃ g : Nat, en = .returned (.slice (some ⟨g, 0, none⟩) v.n.toNat v.n.toNat) ∧ w'.heap[g]? = some (.cells ((Mo.levels v u l).map (Value.int .i64)).toArray 3 (0, 0)) ∧ Below w.heap.size w w' := by
  obtain ⟨hvo, _, hl64, _⟩ := Mo.all_ok hall
  have hNb := hvo.n
  obtain ⟨N, hN⟩ : ∃ N, N = v.n.toNat := ⟨_, rfl⟩
  have hNv : v.n = (N : Int) := by omega
  have h17 := fun w1 (H1 : RdS w1 3 A l.length (l.flatMap Sgt.enc)) => c17 A cap l w1 (by omega) H1
  have h18 := fun w1 A cap (H1 : RdS w1 3 A l.length (l.flatMap Sgt.enc)) => c18_ok v u A cap l w1 H1 hall
  replace H : RdS w 3 A l.length (l.flatMap Sgt.enc) := H
  obtain ⟨M, hM⟩ : ∃ M, M = l.length := ⟨_, rfl⟩
  rw [← hM] at H h17 h18 ⊢
  rw [← hN] at h18 ⊢
  rw [hNv] at h18 ⊢
  have H17 := Lib.hid h17
  have H18 := Lib.hid h18
  have hnn : ((N : Int) != (N : Int)) = false := by simp
  clear h17 h18 hM hN hNb hvo hl64
  go_enter Tryz.func50, Tryz.ntmps50
  obtain ⟨w0, hW⟩ : ∃ W, W = (w.alloc (Obj.cells #[.int .i64 v.sx, .int .i64 v.sy, .int .i64 v.dx, .int .i64 v.dy, .int .i64 (N : Int)] 25)).alloc (Obj.cells #[.int .i64 u.ring, .int .i64 u.speed, .int .i64 u.loss, .int .i64 u.clear, .int .i64 u.soft] 27) := ⟨_, rfl⟩
  have hT0 : w0.heap[w.heap.size]? = some (.cells #[.int .i64 v.sx, .int .i64 v.sy, .int .i64 v.dx, .int .i64 v.dy, .int .i64 (N : Int)] 25 (0, 0)) := by rw [hW]; exact heap_old (by simp <;> omega) (heap_new (by simp))
  have hT1 : w0.heap[w.heap.size + 1]? = some (.cells #[.int .i64 u.ring, .int .i64 u.speed, .int .i64 u.loss, .int .i64 u.clear, .int .i64 u.soft] 27 (0, 0)) := by rw [hW]; exact heap_new (by simp)
  have hB0 : Below w.heap.size w w0 := by rw [hW]; exact (((Below.refl _ _).alloc (by first | omega | (simp <;> omega)) _).alloc (by first | omega | (simp <;> omega)) _)
  replace H := H.below hB0
  go_wp2_with fail
  rw [← hW]
  clear hW
  have qhT0_0 : w0.cell? ⟨w.heap.size, 0, none⟩ = some (.int .i64 v.sx) := cell_at hT0 rfl
  have qhT0_1 : w0.cell? ⟨w.heap.size, 1, none⟩ = some (.int .i64 v.sy) := cell_at hT0 rfl
  have qhT0_2 : w0.cell? ⟨w.heap.size, 2, none⟩ = some (.int .i64 v.dx) := cell_at hT0 rfl
  have qhT0_3 : w0.cell? ⟨w.heap.size, 3, none⟩ = some (.int .i64 v.dy) := cell_at hT0 rfl
  have qhT0_4 : w0.cell? ⟨w.heap.size, 4, none⟩ = some (.int .i64 (N : Int)) := cell_at hT0 rfl
  have qhT1_0 : w0.cell? ⟨w.heap.size + 1, 0, none⟩ = some (.int .i64 u.ring) := cell_at hT1 rfl
  have qhT1_1 : w0.cell? ⟨w.heap.size + 1, 1, none⟩ = some (.int .i64 u.speed) := cell_at hT1 rfl
  have qhT1_2 : w0.cell? ⟨w.heap.size + 1, 2, none⟩ = some (.int .i64 u.loss) := cell_at hT1 rfl
  have qhT1_3 : w0.cell? ⟨w.heap.size + 1, 3, none⟩ = some (.int .i64 u.clear) := cell_at hT1 rfl
  have qhT1_4 : w0.cell? ⟨w.heap.size + 1, 4, none⟩ = some (.int .i64 u.soft) := cell_at hT1 rfl
  refine wp_region_plan [(0, true), (1, true), (2, true), (3, false), (4, false), (5, true), (6, true), (7, true), (8, true), (9, true)] w0.heap.size (by kernel_rfl) (by kernel_rfl) (Nat.le_refl _) (fun _ _ d _ _ h => by cases d <;> exact h) ?_
  have hC : Below w0.heap.size w0 w0 := Below.refl _ _
  have zhT0 : w.heap.size < w0.heap.size := (Array.getElem?_eq_some_iff.1 hT0).1
  have zhT1 : w.heap.size + 1 < w0.heap.size := (Array.getElem?_eq_some_iff.1 hT1).1
  repeat (first | (refine wpPlanA_skip _ rfl (by rfl) ?_; simp only [Act.put, List.setIfInBounds_toArray, List.set_cons_zero, List.set_cons_succ]) | (refine wpPlanA_soft _ ?_ rfl (by rfl) ?_ ?_; rotate_left; (intro wq hq hcq; go_simp; first | exact rfl | exact ⟨rfl, rfl⟩); simp only [Act.put, List.setIfInBounds_toArray, List.set_cons_zero, List.set_cons_succ]))
  refine wpPlanA_hard _ rfl (by rfl) (fun w1 hS K hK => ?_)
  have hB1 := hB0.call hS rfl
  replace hC := hC.call hS rfl
  replace hT0 := blkb hT0 hS
  replace hT1 := blkb hT1 hS
  replace H := H.below hS
  clear hS hB0
  go_simp
  refine (H17.out _ H).mono ?_
  rintro e w2 ⟨_, rfl, ⟨AT, CT, rfl, ht⟩, hb⟩
  have hB2 := hB1.call hb rfl
  replace hC := hC.call hb rfl
  replace hT0 := blkb hT0 hb
  replace hT1 := blkb hT1 hb
  replace H := H.below hb
  clear hb hB1
  refine hK _ _ hC ?_
  clear hK K
  try simp only [Act.put, List.setIfInBounds_toArray, List.set_cons_zero, List.set_cons_succ]
  refine wpPlanA_hard _ rfl (by rfl) (fun w3 hS K hK => ?_)
  have hB3 := hB2.call hS rfl
  replace hC := hC.call hS rfl
  replace hT0 := blkb hT0 hS
  replace hT1 := blkb hT1 hS
  replace H := H.below hS
  replace ht := ht.below hS
  clear hS hB2
  go_simp
  refine (H18.out _ AT CT ht).mono ?_
  rintro e w4 ⟨g, rfl, hg, _, hb⟩
  have hB4 := hB3.call hb rfl
  replace hC := hC.call hb rfl
  replace hT0 := blkb hT0 hb
  replace hT1 := blkb hT1 hb
  replace H := H.below hb
  replace ht := ht.below hb
  clear hb hB3
  refine hK _ _ hC ?_
  clear hK K
  try simp only [Act.put, List.setIfInBounds_toArray, List.set_cons_zero, List.set_cons_succ]
  repeat (first | (refine wpPlanA_skip _ rfl (by rfl) ?_; simp only [Act.put, List.setIfInBounds_toArray, List.set_cons_zero, List.set_cons_succ]) | (refine wpPlanA_soft _ ?_ rfl (by rfl) ?_ ?_; rotate_left; (intro wq hq hcq; go_simp; first | exact rfl | exact ⟨rfl, rfl⟩); simp only [Act.put, List.setIfInBounds_toArray, List.set_cons_zero, List.set_cons_succ]))
  clear qhT0_0 qhT0_1 qhT0_2 qhT0_3 qhT0_4 qhT1_0 qhT1_1 qhT1_2 qhT1_3 qhT1_4
  refine wpPlanA_nil (fun w5 hS => ?_)
  clear hC zhT0 zhT1
  have hB5 := hB4.call hS rfl
  replace hT0 := blkb hT0 hS
  replace hT1 := blkb hT1 hS
  replace H := H.below hS
  replace ht := ht.below hS
  replace hg := blkb hg hS
  clear hS hB4
  have qhT0_0 : w5.cell? ⟨w.heap.size, 0, none⟩ = some (.int .i64 v.sx) := cell_at hT0 rfl
  have qhT0_1 : w5.cell? ⟨w.heap.size, 1, none⟩ = some (.int .i64 v.sy) := cell_at hT0 rfl
  have qhT0_2 : w5.cell? ⟨w.heap.size, 2, none⟩ = some (.int .i64 v.dx) := cell_at hT0 rfl
  have qhT0_3 : w5.cell? ⟨w.heap.size, 3, none⟩ = some (.int .i64 v.dy) := cell_at hT0 rfl
  have qhT0_4 : w5.cell? ⟨w.heap.size, 4, none⟩ = some (.int .i64 (N : Int)) := cell_at hT0 rfl
  have qhT1_0 : w5.cell? ⟨w.heap.size + 1, 0, none⟩ = some (.int .i64 u.ring) := cell_at hT1 rfl
  have qhT1_1 : w5.cell? ⟨w.heap.size + 1, 1, none⟩ = some (.int .i64 u.speed) := cell_at hT1 rfl
  have qhT1_2 : w5.cell? ⟨w.heap.size + 1, 2, none⟩ = some (.int .i64 u.loss) := cell_at hT1 rfl
  have qhT1_3 : w5.cell? ⟨w.heap.size + 1, 3, none⟩ = some (.int .i64 u.clear) := cell_at hT1 rfl
  have qhT1_4 : w5.cell? ⟨w.heap.size + 1, 4, none⟩ = some (.int .i64 u.soft) := cell_at hT1 rfl
  clear ht
  go_wp2
  go_ret
  exact ⟨_, rfl, hg, hB5⟩

theorem l8_bad (v : Ves) (u : Wat) (A : Option Addr) (cap : Nat) (l : List Sgt) (S : Option Addr) (scap : Nat) (sh : List Spn) (G : Option Addr) (gn gcap : Nat) (tk : Int) (w : World) (H : RdL w 3 Sgt.enc A l) (HS : RdL w 2 Spn.enc S sh) (hAz : A = none → cap = 0) (hs0 : S = none → scap = 0) (hbad0 : ¬ (Mo.all v u l = 0 ∧ Mo.spans sh = 0 ∧ Mo.range tk 1 4096 = 0)) :
    Calls Tryz.prog 8 #[.agg #[.int .i64 v.sx, .int .i64 v.sy, .int .i64 v.dx, .int .i64 v.dy, .int .i64 v.n], .agg #[.int .i64 u.ring, .int .i64 u.speed, .int .i64 u.loss, .int .i64 u.clear, .int .i64 u.soft, .slice A l.length cap], .agg #[.slice S sh.length scap, .slice G gn gcap, .int .i64 tk]] w fun en w' => en = .returned (.bool true) ∧ Below w.heap.size w w' := by
  obtain ⟨N, hN⟩ : ∃ N, N = l.length := ⟨_, rfl⟩
  obtain ⟨M, hM⟩ : ∃ M, M = sh.length := ⟨_, rfl⟩
  obtain ⟨E, hE⟩ : ∃ E, E = Mo.all v u l := ⟨_, rfl⟩
  obtain ⟨F, hF⟩ : ∃ F, F = Mo.spans sh := ⟨_, rfl⟩
  obtain ⟨D, hD⟩ : ∃ D, D = Mo.range tk 1 4096 := ⟨_, rfl⟩
  have h14 := fun w1 A n cap => c14 v A n cap w1
  have h20 := fun w1 (h : l.length ≤ 1000000) (H1 : RdS w1 3 A l.length (l.flatMap Sgt.enc)) => c20 v u A cap l w1 h H1
  have h48 := fun w1 (h : sh.length ≤ 1000000) (H1 : RdS w1 2 S sh.length (sh.flatMap Spn.enc)) => c48 S scap sh w1 h H1
  have h49 := fun w1 => c49 tk 1 4096 w1
  have hbad : ¬ (E = 0 ∧ F = 0 ∧ D = 0) := by rw [hE, hF, hD]; exact hbad0
  rw [← hE] at h20
  rw [← hF] at h48
  rw [← hD] at h49
  replace H : RdS w 3 A l.length (l.flatMap Sgt.enc) := H
  replace HS : RdS w 2 S sh.length (sh.flatMap Spn.enc) := HS
  rw [← hN] at H h20 ⊢
  rw [← hM] at HS h48 ⊢
  have H14 := Lib.hid h14
  have H20 := Lib.hid h20
  have H48 := Lib.hid h48
  have H49 := Lib.hid h49
  clear hAz hs0 hbad0 h14 h20 h48 h49 hN hM hE hF hD
  go_enter Tryz.func8, Tryz.ntmps8
  obtain ⟨w0, hW⟩ : ∃ W, W = ((w.alloc (Obj.cells #[.int .i64 v.sx, .int .i64 v.sy, .int .i64 v.dx, .int .i64 v.dy, .int .i64 v.n] 25)).alloc (Obj.cells #[.int .i64 u.ring, .int .i64 u.speed, .int .i64 u.loss, .int .i64 u.clear, .int .i64 u.soft, .slice A N cap] 60)).alloc (Obj.cells #[.slice S M scap, .slice G gn gcap, .int .i64 tk] 69) := ⟨_, rfl⟩
  have hT0 : w0.heap[w.heap.size]? = some (.cells #[.int .i64 v.sx, .int .i64 v.sy, .int .i64 v.dx, .int .i64 v.dy, .int .i64 v.n] 25 (0, 0)) := by rw [hW]; exact heap_old (by simp <;> omega) (heap_old (by simp <;> omega) (heap_new (by simp)))
  have hT1 : w0.heap[w.heap.size + 1]? = some (.cells #[.int .i64 u.ring, .int .i64 u.speed, .int .i64 u.loss, .int .i64 u.clear, .int .i64 u.soft, .slice A N cap] 60 (0, 0)) := by rw [hW]; exact heap_old (by simp <;> omega) (heap_new (by simp))
  have hT2 : w0.heap[w.heap.size + 1 + 1]? = some (.cells #[.slice S M scap, .slice G gn gcap, .int .i64 tk] 69 (0, 0)) := by rw [hW]; exact heap_new (by simp)
  have hB0 : Below w.heap.size w w0 := by rw [hW]; exact ((((Below.refl _ _).alloc (by first | omega | (simp <;> omega)) _).alloc (by first | omega | (simp <;> omega)) _).alloc (by first | omega | (simp <;> omega)) _)
  replace H := H.below hB0
  replace HS := HS.below hB0
  go_wp2_with fail
  rw [← hW]
  clear hW
  have qhT0_0 : w0.cell? ⟨w.heap.size, 0, none⟩ = some (.int .i64 v.sx) := cell_at hT0 rfl
  have qhT0_1 : w0.cell? ⟨w.heap.size, 1, none⟩ = some (.int .i64 v.sy) := cell_at hT0 rfl
  have qhT0_2 : w0.cell? ⟨w.heap.size, 2, none⟩ = some (.int .i64 v.dx) := cell_at hT0 rfl
  have qhT0_3 : w0.cell? ⟨w.heap.size, 3, none⟩ = some (.int .i64 v.dy) := cell_at hT0 rfl
  have qhT0_4 : w0.cell? ⟨w.heap.size, 4, none⟩ = some (.int .i64 v.n) := cell_at hT0 rfl
  have qhT1_0 : w0.cell? ⟨w.heap.size + 1, 0, none⟩ = some (.int .i64 u.ring) := cell_at hT1 rfl
  have qhT1_1 : w0.cell? ⟨w.heap.size + 1, 1, none⟩ = some (.int .i64 u.speed) := cell_at hT1 rfl
  have qhT1_2 : w0.cell? ⟨w.heap.size + 1, 2, none⟩ = some (.int .i64 u.loss) := cell_at hT1 rfl
  have qhT1_3 : w0.cell? ⟨w.heap.size + 1, 3, none⟩ = some (.int .i64 u.clear) := cell_at hT1 rfl
  have qhT1_4 : w0.cell? ⟨w.heap.size + 1, 4, none⟩ = some (.int .i64 u.soft) := cell_at hT1 rfl
  have qhT1_5 : w0.cell? ⟨w.heap.size + 1, 5, none⟩ = some (.slice A N cap) := cell_at hT1 rfl
  have qhT2_0 : w0.cell? ⟨w.heap.size + 1 + 1, 0, none⟩ = some (.slice S M scap) := cell_at hT2 rfl
  have qhT2_1 : w0.cell? ⟨w.heap.size + 1 + 1, 1, none⟩ = some (.slice G gn gcap) := cell_at hT2 rfl
  have qhT2_2 : w0.cell? ⟨w.heap.size + 1 + 1, 2, none⟩ = some (.int .i64 tk) := cell_at hT2 rfl
  go_wp2_with fail
  refine (H14.out _ A N cap).mono ?_
  rintro e w1 ⟨⟨b, rfl, hb1⟩, hb⟩
  clear qhT0_0 qhT0_1 qhT0_2 qhT0_3 qhT0_4 qhT1_0 qhT1_1 qhT1_2 qhT1_3 qhT1_4 qhT1_5 qhT2_0 qhT2_1 qhT2_2
  have hS := hb
  have hB1 := hB0.call hS rfl
  replace hT0 := blkb hT0 hS
  replace hT1 := blkb hT1 hS
  replace hT2 := blkb hT2 hS
  replace H := H.below hS
  replace HS := HS.below hS
  clear hS hB0
  have qhT0_0 : w1.cell? ⟨w.heap.size, 0, none⟩ = some (.int .i64 v.sx) := cell_at hT0 rfl
  have qhT0_1 : w1.cell? ⟨w.heap.size, 1, none⟩ = some (.int .i64 v.sy) := cell_at hT0 rfl
  have qhT0_2 : w1.cell? ⟨w.heap.size, 2, none⟩ = some (.int .i64 v.dx) := cell_at hT0 rfl
  have qhT0_3 : w1.cell? ⟨w.heap.size, 3, none⟩ = some (.int .i64 v.dy) := cell_at hT0 rfl
  have qhT0_4 : w1.cell? ⟨w.heap.size, 4, none⟩ = some (.int .i64 v.n) := cell_at hT0 rfl
  have qhT1_0 : w1.cell? ⟨w.heap.size + 1, 0, none⟩ = some (.int .i64 u.ring) := cell_at hT1 rfl
  have qhT1_1 : w1.cell? ⟨w.heap.size + 1, 1, none⟩ = some (.int .i64 u.speed) := cell_at hT1 rfl
  have qhT1_2 : w1.cell? ⟨w.heap.size + 1, 2, none⟩ = some (.int .i64 u.loss) := cell_at hT1 rfl
  have qhT1_3 : w1.cell? ⟨w.heap.size + 1, 3, none⟩ = some (.int .i64 u.clear) := cell_at hT1 rfl
  have qhT1_4 : w1.cell? ⟨w.heap.size + 1, 4, none⟩ = some (.int .i64 u.soft) := cell_at hT1 rfl
  have qhT1_5 : w1.cell? ⟨w.heap.size + 1, 5, none⟩ = some (.slice A N cap) := cell_at hT1 rfl
  have qhT2_0 : w1.cell? ⟨w.heap.size + 1 + 1, 0, none⟩ = some (.slice S M scap) := cell_at hT2 rfl
  have qhT2_1 : w1.cell? ⟨w.heap.size + 1 + 1, 1, none⟩ = some (.slice G gn gcap) := cell_at hT2 rfl
  have qhT2_2 : w1.cell? ⟨w.heap.size + 1 + 1, 2, none⟩ = some (.int .i64 tk) := cell_at hT2 rfl
  clear hb
  cases b
  case false =>
    go_wp2_with fail
    refine (c15 _).mono ?_
    rintro e wz ⟨rfl, hz⟩
    go_wp2
    go_ret
    exact ⟨rfl, hB1.call hz rfl⟩
  have hl := hb1 rfl
  clear hb1
  go_wp2_with fail
  refine (c37 S M scap _).mono ?_
  rintro e w' ⟨⟨b, rfl, hb2⟩, rfl⟩
  cases b
  case false =>
    go_wp2_with fail
    refine (c15 _).mono ?_
    rintro e wz ⟨rfl, hz⟩
    go_wp2
    go_ret
    exact ⟨rfl, hB1.call hz rfl⟩
  have hm := hb2 rfl
  clear hb2
  go_wp2_with fail
  refine (H20.out _ (by omega) H).mono ?_
  rintro e w2 ⟨rfl, hb⟩
  clear qhT0_0 qhT0_1 qhT0_2 qhT0_3 qhT0_4 qhT1_0 qhT1_1 qhT1_2 qhT1_3 qhT1_4 qhT1_5 qhT2_0 qhT2_1 qhT2_2
  have hS := hb
  have hB2 := hB1.call hS rfl
  replace hT0 := blkb hT0 hS
  replace hT1 := blkb hT1 hS
  replace hT2 := blkb hT2 hS
  replace H := H.below hS
  replace HS := HS.below hS
  clear hS hB1
  have qhT0_0 : w2.cell? ⟨w.heap.size, 0, none⟩ = some (.int .i64 v.sx) := cell_at hT0 rfl
  have qhT0_1 : w2.cell? ⟨w.heap.size, 1, none⟩ = some (.int .i64 v.sy) := cell_at hT0 rfl
  have qhT0_2 : w2.cell? ⟨w.heap.size, 2, none⟩ = some (.int .i64 v.dx) := cell_at hT0 rfl
  have qhT0_3 : w2.cell? ⟨w.heap.size, 3, none⟩ = some (.int .i64 v.dy) := cell_at hT0 rfl
  have qhT0_4 : w2.cell? ⟨w.heap.size, 4, none⟩ = some (.int .i64 v.n) := cell_at hT0 rfl
  have qhT1_0 : w2.cell? ⟨w.heap.size + 1, 0, none⟩ = some (.int .i64 u.ring) := cell_at hT1 rfl
  have qhT1_1 : w2.cell? ⟨w.heap.size + 1, 1, none⟩ = some (.int .i64 u.speed) := cell_at hT1 rfl
  have qhT1_2 : w2.cell? ⟨w.heap.size + 1, 2, none⟩ = some (.int .i64 u.loss) := cell_at hT1 rfl
  have qhT1_3 : w2.cell? ⟨w.heap.size + 1, 3, none⟩ = some (.int .i64 u.clear) := cell_at hT1 rfl
  have qhT1_4 : w2.cell? ⟨w.heap.size + 1, 4, none⟩ = some (.int .i64 u.soft) := cell_at hT1 rfl
  have qhT1_5 : w2.cell? ⟨w.heap.size + 1, 5, none⟩ = some (.slice A N cap) := cell_at hT1 rfl
  have qhT2_0 : w2.cell? ⟨w.heap.size + 1 + 1, 0, none⟩ = some (.slice S M scap) := cell_at hT2 rfl
  have qhT2_1 : w2.cell? ⟨w.heap.size + 1 + 1, 1, none⟩ = some (.slice G gn gcap) := cell_at hT2 rfl
  have qhT2_2 : w2.cell? ⟨w.heap.size + 1 + 1, 2, none⟩ = some (.int .i64 tk) := cell_at hT2 rfl
  clear hb
  by_cases hE : E = 0
  rotate_left
  · as_aux_lemma =>
      have hq : (E != 0) = true := by simpa using hE
      clear hbad
      go_wp2_with fail
      refine (c15 _).mono ?_
      rintro e wz ⟨rfl, hz⟩
      go_wp2
      go_ret
      exact ⟨rfl, hB2.call hz rfl⟩
  subst hE
  go_wp2_with fail
  refine (H48.out _ (by omega) HS).mono ?_
  rintro e w3 ⟨rfl, hb⟩
  clear qhT0_0 qhT0_1 qhT0_2 qhT0_3 qhT0_4 qhT1_0 qhT1_1 qhT1_2 qhT1_3 qhT1_4 qhT1_5 qhT2_0 qhT2_1 qhT2_2
  have hS := hb
  have hB3 := hB2.call hS rfl
  replace hT0 := blkb hT0 hS
  replace hT1 := blkb hT1 hS
  replace hT2 := blkb hT2 hS
  replace H := H.below hS
  replace HS := HS.below hS
  clear hS hB2
  have qhT0_0 : w3.cell? ⟨w.heap.size, 0, none⟩ = some (.int .i64 v.sx) := cell_at hT0 rfl
  have qhT0_1 : w3.cell? ⟨w.heap.size, 1, none⟩ = some (.int .i64 v.sy) := cell_at hT0 rfl
  have qhT0_2 : w3.cell? ⟨w.heap.size, 2, none⟩ = some (.int .i64 v.dx) := cell_at hT0 rfl
  have qhT0_3 : w3.cell? ⟨w.heap.size, 3, none⟩ = some (.int .i64 v.dy) := cell_at hT0 rfl
  have qhT0_4 : w3.cell? ⟨w.heap.size, 4, none⟩ = some (.int .i64 v.n) := cell_at hT0 rfl
  have qhT1_0 : w3.cell? ⟨w.heap.size + 1, 0, none⟩ = some (.int .i64 u.ring) := cell_at hT1 rfl
  have qhT1_1 : w3.cell? ⟨w.heap.size + 1, 1, none⟩ = some (.int .i64 u.speed) := cell_at hT1 rfl
  have qhT1_2 : w3.cell? ⟨w.heap.size + 1, 2, none⟩ = some (.int .i64 u.loss) := cell_at hT1 rfl
  have qhT1_3 : w3.cell? ⟨w.heap.size + 1, 3, none⟩ = some (.int .i64 u.clear) := cell_at hT1 rfl
  have qhT1_4 : w3.cell? ⟨w.heap.size + 1, 4, none⟩ = some (.int .i64 u.soft) := cell_at hT1 rfl
  have qhT1_5 : w3.cell? ⟨w.heap.size + 1, 5, none⟩ = some (.slice A N cap) := cell_at hT1 rfl
  have qhT2_0 : w3.cell? ⟨w.heap.size + 1 + 1, 0, none⟩ = some (.slice S M scap) := cell_at hT2 rfl
  have qhT2_1 : w3.cell? ⟨w.heap.size + 1 + 1, 1, none⟩ = some (.slice G gn gcap) := cell_at hT2 rfl
  have qhT2_2 : w3.cell? ⟨w.heap.size + 1 + 1, 2, none⟩ = some (.int .i64 tk) := cell_at hT2 rfl
  clear hb
  by_cases hF : F = 0
  rotate_left
  · as_aux_lemma =>
      have hq : (F != 0) = true := by simpa using hF
      clear hbad
      go_wp2_with fail
      refine (c15 _).mono ?_
      rintro e wz ⟨rfl, hz⟩
      go_wp2
      go_ret
      exact ⟨rfl, hB3.call hz rfl⟩
  subst hF
  go_wp2_with fail
  refine (H49.out _).mono ?_
  rintro e w' ⟨rfl, rfl⟩
  have hq : (D != 0) = true := by simpa using hbad
  clear hbad
  go_wp2_with fail
  refine (c15 _).mono ?_
  rintro e wz ⟨rfl, hz⟩
  go_wp2
  go_ret
  exact ⟨rfl, hB3.call hz rfl⟩
theorem info104 : (Tryz.prog.info? 104).map (fun i => (i.zero, i.size, i.bytes)) = some (some (.agg #[.int .i64 0, .int .i64 0, .int .i64 0]), 3, 24) := by kernel_rfl
theorem setCells_two (w : World) (g o : Nat) (a b : Value) {cs : Array Value} {t : TypeId} (hh : w.heap[g]? = some (.cells cs t (0, 0))) : (w.setCells g o [a, b]).heap[g]? = some (.cells ((cs.setIfInBounds o a).setIfInBounds (o + 1) b) t (0, 0)) := by
  simp [World.setCells, World.setCell, Array.getElem?_modify, hh]
theorem wpList_store_two {P : Program} {ops : Array Oper} {rest : List Oper} {op : Oper} {a : Act} {w : World} {Q : Exit → Act → World → Prop} (hgd : op.guard = none) (ty : TypeId) (x y : Operand) (ho : op.op = .store ty x y)
    (g o : Nat) (c d : Value) (cs : Array Value) (hx : a.eval x = .pointer (some ⟨g, o, none⟩)) (hy : a.eval y = .agg #[c, d]) {t : TypeId} (hh : w.heap[g]? = some (.cells cs t (0, 0))) (hlt : o + 1 < cs.size)
    (hi : (P.info? ty).map (·.size) = some 2) (h1 : (#[c, d] : Array Value).all (·.oneCell') = true)
    (h : ∀ w', w'.heap[g]? = some (.cells ((cs.setIfInBounds o c).setIfInBounds (o + 1) d) t (0, 0)) → w.grownBy w' (some g) → w'.heap.size = w.heap.size → wpList P ops Q rest (a.put op.dst undef) w') : wpList P ops Q (op :: rest) a w :=
  wpList_store_mid hgd ty x y ho g o #[c, d] hx hy (fun j hj => by
    have hj' : o + j < cs.size := by simp at hj; omega
    constructor
    · simp [World.cell?, hh, hj']
    · simp [World.frozen?, hh]) hi h1 (h _ (setCells_two w g o c d hh) (setCells_grown g _ o w).1 (setCells_grown g _ o w).2.1)
theorem wp_load_blk {P : Program} {op : Oper} {a : Act} {w : World} {K : Act → World → Prop} {Q : Exit → Act → World → Prop} (ty : TypeId) (x : Operand) (ho : op.op = .load ty x)
    (g : Nat) (cs : Array Value) (hx : a.eval x = .pointer (some ⟨g, 0, none⟩)) {t : TypeId} {f : Nat × Nat} (hh : w.heap[g]? = some (.cells cs t f)) (d : TypeDesc) (hu : P.underlying ty = some d) (hd : d.isRow = true) (hi : (P.info? ty).map (·.size) = some cs.size)
    (h : K (a.put op.dst (.agg cs)) w) : op.wp P a w K Q := by
  unfold Oper.wp execOp
  simp only [ho, hx, Instr.loadAt, Instr.sureAddr, Sem.run_bind, Sem.run_pure, Result.andThen_ok, run_loadVar_blk hh ty d hu hd hi]
  exact h
theorem wpList_load_blk {P : Program} {ops : Array Oper} {rest : List Oper} {op : Oper} {a : Act} {w : World} {Q : Exit → Act → World → Prop} (hgd : op.guard = none) (ty : TypeId) (x : Operand) (ho : op.op = .load ty x)
    (g : Nat) (cs : Array Value) (hx : a.eval x = .pointer (some ⟨g, 0, none⟩)) {t : TypeId} {f : Nat × Nat} (hh : w.heap[g]? = some (.cells cs t f)) (d : TypeDesc) (hu : P.underlying ty = some d) (hd : d.isRow = true) (hi : (P.info? ty).map (·.size) = some cs.size)
    (h : wpList P ops Q rest (a.put op.dst (.agg cs)) w) : wpList P ops Q (op :: rest) a w :=
  wpList_plain hgd fun _ hK => wp_load_blk ty x ho g cs hx hh d hu hd hi (hK _ _ h)
theorem i102 : (Tryz.prog.info? 102).map (fun i => (i.zero, i.size)) = some (some (.agg #[.int .i64 0, .int .i64 0, .int .i64 0, .int .i64 0, .int .i64 0, .int .i64 0, .int .i64 0, .int .i64 0, .int .i64 0, .int .i64 0, .int .i64 0, .int .i64 0, .int .i64 0, .int .i64 0, .int .i64 0, .int .i64 0, .int .i64 0, .int .i64 0, .int .i64 0, .int .i64 0]), 20) := by kernel_rfl
theorem i27 : (Tryz.prog.info? 27).map (fun i => (i.size)) = some 5 := by kernel_rfl
theorem un102 : Tryz.prog.underlying 102 = some (.array 4 27) := by kernel_rfl
theorem build102 (a b c d e : Int) (W : World) : (Instr.build 102 #[(0, .agg #[.int .i64 a, .int .i64 b, .int .i64 c, .int .i64 d, .int .i64 e]), (1, .agg #[.int .i64 a, .int .i64 b, .int .i64 c, .int .i64 d, .int .i64 e]), (2, .agg #[.int .i64 a, .int .i64 b, .int .i64 c, .int .i64 d, .int .i64 e]), (3, .agg #[.int .i64 a, .int .i64 b, .int .i64 c, .int .i64 d, .int .i64 e])]).run Tryz.prog W = .ok (.agg #[.int .i64 a, .int .i64 b, .int .i64 c, .int .i64 d, .int .i64 e, .int .i64 a, .int .i64 b, .int .i64 c, .int .i64 d, .int .i64 e, .int .i64 a, .int .i64 b, .int .i64 c, .int .i64 d, .int .i64 e, .int .i64 a, .int .i64 b, .int .i64 c, .int .i64 d, .int .i64 e]) W := by
  refine run_build W _ _ _ ?_
  unfold Program.built
  obtain ⟨i, hi, hi2⟩ := Option.map_eq_some_iff.1 i102
  obtain ⟨e, he, he2⟩ := Option.map_eq_some_iff.1 i27
  rw [hi, un102]
  have hz : i.zero = _ := congrArg Prod.fst hi2
  simp only [hz, he]
  have h5 : e.size = 5 := he2
  rw [h5]
  simp [Instr.fill, Value.cells]
theorem wp_store_one {op : Oper} {a : Act} {w : World} {K : Act → World → Prop} {Q : Exit → Act → World → Prop} (x y : Operand) (ho : op.op = .store 3 x y)
    (g o : Nat) (n : Int) (cs : Array Value) (hx : a.eval x = .pointer (some ⟨g, o, none⟩)) (hy : a.eval y = .int .i64 n) {t : TypeId} (hh : w.heap[g]? = some (.cells cs t (0, 0))) (hlt : o < cs.size)
    (h : ∀ w', w'.heap[g]? = some (.cells (cs.setIfInBounds o (.int .i64 n)) t (0, 0)) → w.grownBy w' (some g) → w'.heap.size = w.heap.size → K (a.put op.dst undef) w') : op.wp Tryz.prog a w K Q := by
  have hc : w.cell? ⟨g, o, none⟩ = some cs[o] := by simp [World.cell?, hh, hlt]
  have hf : w.frozen? ⟨g, o, none⟩ = false := by simp [World.frozen?, hh]
  have hsz : (w.setCell ⟨g, o, none⟩ (.int .i64 n)).heap.size = w.heap.size := by simp [World.setCell]
  have hb : (w.setCell ⟨g, o, none⟩ (.int .i64 n)).heap[g]? = some (.cells (cs.setIfInBounds o (.int .i64 n)) t (0, 0)) := by
    simp [World.setCell, Array.getElem?_modify, hh]
  have := h (w.setCell ⟨g, o, none⟩ (.int .i64 n)) hb ⟨rfl, rfl, rfl, by rw [hsz]; exact Nat.le_refl _, fun k _ hk => Below.heap_setCell w ⟨g, o, none⟩ (.int .i64 n) k (fun e => hk (by rw [e]))⟩ hsz
  unfold Oper.wp execOp
  simp only [ho, hx, hy]
  go_simp
  exact this
theorem wpList_store_one {ops : Array Oper} {rest : List Oper} {op : Oper} {a : Act} {w : World} {Q : Exit → Act → World → Prop} (hgd : op.guard = none) (x y : Operand) (ho : op.op = .store 3 x y)
    (g o : Nat) (n : Int) (cs : Array Value) (hx : a.eval x = .pointer (some ⟨g, o, none⟩)) (hy : a.eval y = .int .i64 n) {t : TypeId} (hh : w.heap[g]? = some (.cells cs t (0, 0))) (hlt : o < cs.size)
    (h : ∀ w', w'.heap[g]? = some (.cells (cs.setIfInBounds o (.int .i64 n)) t (0, 0)) → w.grownBy w' (some g) → w'.heap.size = w.heap.size → wpList Tryz.prog ops Q rest (a.put op.dst undef) w') : wpList Tryz.prog ops Q (op :: rest) a w :=
  wpList_plain hgd fun _ hK => wp_store_one x y ho g o n cs hx hy hh hlt fun w' h2 h3 h4 => hK _ _ (h w' h2 h3 h4)

theorem und39 : Tryz.prog.underlying 39 = some (.slice 3) := by kernel_rfl
theorem eq39n (g n c : Nat) (w : World) : (Op.equalIn 10000 39 (.slice (some ⟨g, 0, none⟩) n c) (.slice none 0 0)).run Tryz.prog w = .ok false w := by
  rw [show (10000 : Nat) = 9999 + 1 from rfl, Op.equalIn]
  simp only [Sem.run_bind, run_underlying und39, Result.andThen_ok]
  go_simp
theorem nil39 (g n c : Nat) (w : World) : (binOp .eql 39 (.slice (some ⟨g, 0, none⟩) n c) (.slice none 0 0)).run Tryz.prog w = .ok (.bool false) w := by
  simp only [binOp]
  simp [Op.equal, Op.maxDepth, eq39n]
theorem idx102 (u : Wat) (j : Nat) (h : j < 4) (W : World) : (Instr.index 102 (.agg #[.int .i64 (max 0 (u.ring - 3)), .int .i64 u.speed, .int .i64 u.loss, .int .i64 u.clear, .int .i64 u.soft, .int .i64 u.ring, .int .i64 (max 0 (u.speed - 1)), .int .i64 u.loss, .int .i64 u.clear, .int .i64 u.soft, .int .i64 u.ring, .int .i64 u.speed, .int .i64 (max 0 (u.loss - 1)), .int .i64 u.clear, .int .i64 u.soft, .int .i64 u.ring, .int .i64 u.speed, .int .i64 u.loss, .int .i64 (max 0 (u.clear - 1)), .int .i64 u.soft]) (.int .i64 j)).run Tryz.prog W = .ok (.agg #[.int .i64 (Mo.mild u j).ring, .int .i64 (Mo.mild u j).speed, .int .i64 (Mo.mild u j).loss, .int .i64 (Mo.mild u j).clear, .int .i64 (Mo.mild u j).soft]) W := by
  match j, h with
  | 0, _ => rfl
  | 1, _ => rfl
  | 2, _ => rfl
  | 3, _ => rfl
theorem l8_ok (v : Ves) (u : Wat) (A : Option Addr) (cap : Nat) (l : List Sgt) (S : Option Addr) (scap : Nat) (sh : List Spn) (G : Option Addr) (gn gcap : Nat) (TK N : Nat) (w : World) (H : RdL w 3 Sgt.enc A l) (HS : RdL w 2 Spn.enc S sh) (hAz : A = none → cap = 0) (hs0 : S = none → scap = 0) (hcap : l.length ≤ cap) (hall : Mo.all v u l = 0) (hsp : Mo.spans sh = 0) (hTK : 1 ≤ TK ∧ TK ≤ 4096) (hN : v.n = (N : Int)) :
    Calls Tryz.prog 8 #[.agg #[.int .i64 v.sx, .int .i64 v.sy, .int .i64 v.dx, .int .i64 v.dy, .int .i64 (N : Int)], .agg #[.int .i64 u.ring, .int .i64 u.speed, .int .i64 u.loss, .int .i64 u.clear, .int .i64 u.soft, .slice A l.length cap], .agg #[.slice S sh.length scap, .slice G gn gcap, .int .i64 (TK : Int)]] w fun en w' => en = .returned (.bool true) ∧ Below w.heap.size w w' := by
  obtain ⟨i0, hi, hz0, hz1, hz2⟩ := info_parts info104
  obtain ⟨hvo, huo, hl64, hso0⟩ := Mo.all_ok hall
  have hNb := hvo.n
  have hNN : v.n.toNat = N := by omega
  have hNk : N ≤ 4096 := by omega
  have h14 := fun w1 A n cap => c14 v A n cap w1
  have h20 := fun w1 (h : l.length ≤ 1000000) (H1 : RdS w1 3 A l.length (l.flatMap Sgt.enc)) => c20 v u A cap l w1 h H1
  have h48 := fun w1 (h : sh.length ≤ 1000000) (H1 : RdS w1 2 S sh.length (sh.flatMap Spn.enc)) => c48 S scap sh w1 h H1
  have h49 := fun w1 => c49 (TK : Int) 1 4096 w1
  have h50 := fun (v' : Ves) (u' : Wat) (l' : List Sgt) w1 (A' : Option Addr) (n' cap' : Nat) (hv' : v'.n = (N : Int)) (hn' : n' = l'.length) (H1 : RdS w1 3 A' n' (l'.flatMap Sgt.enc)) (h : Mo.all v' u' l' = 0) => by
    have := u50 v' u' A' cap' l' w1 (by subst hn'; exact H1) h
    rw [← hn', hv', Int.toNat_natCast] at this
    exact this
  rw [hall] at h20
  rw [hsp] at h48
  rw [Mo.range_of (by omega)] at h49
  rw [hN] at h20 h14
  have hal := Mo.all_mild' hall
  have hat := fun j => Mo.all_mild hall j (l.length - 1)
  have hlm := fun j t => Mo.level_mild hall j (l.length - 1) t
  have HL := fun t => Mo.lv_get v u l t
  have HS0 := Lib.hid hs0
  replace H : RdS w 3 A l.length (l.flatMap Sgt.enc) := H
  replace HS : RdS w 2 S sh.length (sh.flatMap Spn.enc) := HS
  obtain ⟨M, hM⟩ : ∃ M, M = l.length := ⟨_, rfl⟩
  obtain ⟨SM, hSM⟩ : ∃ M, M = sh.length := ⟨_, rfl⟩
  have hM64 : M ≤ 64 := by omega
  rw [← hM] at H h20 hcap ⊢
  rw [← hSM] at HS h48 ⊢
  have H14 := Lib.hid h14
  have H20 := Lib.hid h20
  have H48 := Lib.hid h48
  have H49 := Lib.hid h49
  have H50 := Lib.hid h50
  have HM := Lib.hid hM
  have HSM := Lib.hid hSM
  have HAL := Lib.hid hal
  have HAT := Lib.hid hat
  have HLM := Lib.hid hlm
  have HALL := Lib.hid hall
  have HSP := Lib.hid hsp
  have HN := Lib.hid hN
  have HLG := Lib.hid HL
  obtain ⟨hu1, hu2, hu3, hu4, hu5⟩ := huo
  obtain ⟨a0, ha0⟩ : ∃ a, a = u.ring - 3 := ⟨_, rfl⟩
  obtain ⟨r0, hr0⟩ : ∃ r, r = max 0 (u.ring - 3) := ⟨_, rfl⟩
  have hw0 : IntKind.i64.wrap (u.ring - 3) = a0 := by rw [wrapI72 _ (by omega) (by omega), ha0]
  have hif0 : max 0 a0 = r0 := by rw [hr0, ha0]
  obtain ⟨a1, ha1⟩ : ∃ a, a = u.speed - 1 := ⟨_, rfl⟩
  obtain ⟨r1, hr1⟩ : ∃ r, r = max 0 (u.speed - 1) := ⟨_, rfl⟩
  have hw1 : IntKind.i64.wrap (u.speed - 1) = a1 := by rw [wrapI72 _ (by omega) (by omega), ha1]
  have hif1 : max 0 a1 = r1 := by rw [hr1, ha1]
  obtain ⟨a2, ha2⟩ : ∃ a, a = u.loss - 1 := ⟨_, rfl⟩
  obtain ⟨r2, hr2⟩ : ∃ r, r = max 0 (u.loss - 1) := ⟨_, rfl⟩
  have hw2 : IntKind.i64.wrap (u.loss - 1) = a2 := by rw [wrapI72 _ (by omega) (by omega), ha2]
  have hif2 : max 0 a2 = r2 := by rw [hr2, ha2]
  obtain ⟨a3, ha3⟩ : ∃ a, a = u.clear - 1 := ⟨_, rfl⟩
  obtain ⟨r3, hr3⟩ : ∃ r, r = max 0 (u.clear - 1) := ⟨_, rfl⟩
  have hw3 : IntKind.i64.wrap (u.clear - 1) = a3 := by rw [wrapI72 _ (by omega) (by omega), ha3]
  have hif3 : max 0 a3 = r3 := by rw [hr3, ha3]
  have hix : ∀ (j : Nat) (h : j < 4) (W : World), (Instr.index 102 (.agg #[.int .i64 r0, .int .i64 u.speed, .int .i64 u.loss, .int .i64 u.clear, .int .i64 u.soft, .int .i64 u.ring, .int .i64 r1, .int .i64 u.loss, .int .i64 u.clear, .int .i64 u.soft, .int .i64 u.ring, .int .i64 u.speed, .int .i64 r2, .int .i64 u.clear, .int .i64 u.soft, .int .i64 u.ring, .int .i64 u.speed, .int .i64 u.loss, .int .i64 r3, .int .i64 u.soft]) (.int .i64 j)).run Tryz.prog W = .ok (.agg #[.int .i64 (Mo.mild u j).ring, .int .i64 (Mo.mild u j).speed, .int .i64 (Mo.mild u j).loss, .int .i64 (Mo.mild u j).clear, .int .i64 (Mo.mild u j).soft]) W := by
    rw [hr0, hr1, hr2, hr3]; exact idx102 u
  have HIX := Lib.hid hix
  have hsl0 : ∀ W, (Instr.slice 28 (.slice A M cap) none (some (.int .i64 ((M - 1 : Nat) : Int))) none).run Tryz.prog W = .ok (.slice A (M - 1) cap) W := slice_pre A M cap (by omega) hAz
  have HSL := Lib.hid hsl0
  have htr := fun w1 (H1 : RdS w1 3 A M (l.flatMap Sgt.enc)) => RdL.take3 H1 (M - 1) (by omega) hM
  have HTR := Lib.hid htr
  obtain ⟨aM, haM⟩ : ∃ a, a = (M : Int) - 1 := ⟨_, rfl⟩
  have hifM : max 0 aM = ((M - 1 : Nat) : Int) := by rw [haM]; omega
  have hm1 : IntKind.i64.wrap ((M : Int) - 1) = aM := by rw [haM]; exact wrapI72 _ (by omega) (by omega)
  have HVO := Lib.hid hvo
  have HSO := Lib.hid hso0
  clear hso0 hAz hs0 h14 h20 h48 h49 h50 hM hSM hal hat hlm hall hsp hN HL hl64 hvo ha0 ha1 ha2 ha3 hr0 hr1 hr2 hr3 haM hix hNN hsl0 htr
  have q39 := nil39
  have hbld := build102 u.ring u.speed u.loss u.clear u.soft
  go_enter Tryz.func8, Tryz.ntmps8
  obtain ⟨w0, hW⟩ : ∃ W, W = ((w.alloc (Obj.cells #[.int .i64 v.sx, .int .i64 v.sy, .int .i64 v.dx, .int .i64 v.dy, .int .i64 (N : Int)] 25)).alloc (Obj.cells #[.int .i64 u.ring, .int .i64 u.speed, .int .i64 u.loss, .int .i64 u.clear, .int .i64 u.soft, .slice A M cap] 60)).alloc (Obj.cells #[.slice S SM scap, .slice G gn gcap, .int .i64 (TK : Int)] 69) := ⟨_, rfl⟩
  have hT0 : w0.heap[w.heap.size]? = some (.cells #[.int .i64 v.sx, .int .i64 v.sy, .int .i64 v.dx, .int .i64 v.dy, .int .i64 (N : Int)] 25 (0, 0)) := by rw [hW]; exact heap_old (by simp <;> omega) (heap_old (by simp <;> omega) (heap_new (by simp)))
  have hT1 : w0.heap[w.heap.size + 1]? = some (.cells #[.int .i64 u.ring, .int .i64 u.speed, .int .i64 u.loss, .int .i64 u.clear, .int .i64 u.soft, .slice A M cap] 60 (0, 0)) := by rw [hW]; exact heap_old (by simp <;> omega) (heap_new (by simp))
  have hT2 : w0.heap[w.heap.size + 1 + 1]? = some (.cells #[.slice S SM scap, .slice G gn gcap, .int .i64 (TK : Int)] 69 (0, 0)) := by rw [hW]; exact heap_new (by simp)
  have hB0 : Below w.heap.size w w0 := by rw [hW]; exact ((((Below.refl _ _).alloc (by first | omega | (simp <;> omega)) _).alloc (by first | omega | (simp <;> omega)) _).alloc (by first | omega | (simp <;> omega)) _)
  replace H := H.below hB0
  replace HS := HS.below hB0
  go_wp2_with fail
  rw [← hW]
  clear hW
  have qhT0_0 : w0.cell? ⟨w.heap.size, 0, none⟩ = some (.int .i64 v.sx) := cell_at hT0 rfl
  have qhT0_1 : w0.cell? ⟨w.heap.size, 1, none⟩ = some (.int .i64 v.sy) := cell_at hT0 rfl
  have qhT0_2 : w0.cell? ⟨w.heap.size, 2, none⟩ = some (.int .i64 v.dx) := cell_at hT0 rfl
  have qhT0_3 : w0.cell? ⟨w.heap.size, 3, none⟩ = some (.int .i64 v.dy) := cell_at hT0 rfl
  have qhT0_4 : w0.cell? ⟨w.heap.size, 4, none⟩ = some (.int .i64 (N : Int)) := cell_at hT0 rfl
  have qhT1_0 : w0.cell? ⟨w.heap.size + 1, 0, none⟩ = some (.int .i64 u.ring) := cell_at hT1 rfl
  have qhT1_1 : w0.cell? ⟨w.heap.size + 1, 1, none⟩ = some (.int .i64 u.speed) := cell_at hT1 rfl
  have qhT1_2 : w0.cell? ⟨w.heap.size + 1, 2, none⟩ = some (.int .i64 u.loss) := cell_at hT1 rfl
  have qhT1_3 : w0.cell? ⟨w.heap.size + 1, 3, none⟩ = some (.int .i64 u.clear) := cell_at hT1 rfl
  have qhT1_4 : w0.cell? ⟨w.heap.size + 1, 4, none⟩ = some (.int .i64 u.soft) := cell_at hT1 rfl
  have qhT1_5 : w0.cell? ⟨w.heap.size + 1, 5, none⟩ = some (.slice A M cap) := cell_at hT1 rfl
  have qhT2_0 : w0.cell? ⟨w.heap.size + 1 + 1, 0, none⟩ = some (.slice S SM scap) := cell_at hT2 rfl
  have qhT2_1 : w0.cell? ⟨w.heap.size + 1 + 1, 1, none⟩ = some (.slice G gn gcap) := cell_at hT2 rfl
  have qhT2_2 : w0.cell? ⟨w.heap.size + 1 + 1, 2, none⟩ = some (.int .i64 (TK : Int)) := cell_at hT2 rfl
  go_wp2_with fail
  refine (H14.out _ A M cap).mono ?_
  rintro e w1 ⟨⟨b, rfl, hb1⟩, hb⟩
  clear qhT0_0 qhT0_1 qhT0_2 qhT0_3 qhT0_4 qhT1_0 qhT1_1 qhT1_2 qhT1_3 qhT1_4 qhT1_5 qhT2_0 qhT2_1 qhT2_2
  have hS := hb
  have hB1 := hB0.call hS rfl
  replace hT0 := blkb hT0 hS
  replace hT1 := blkb hT1 hS
  replace hT2 := blkb hT2 hS
  replace H := H.below hS
  replace HS := HS.below hS
  clear hS hB0
  have qhT0_0 : w1.cell? ⟨w.heap.size, 0, none⟩ = some (.int .i64 v.sx) := cell_at hT0 rfl
  have qhT0_1 : w1.cell? ⟨w.heap.size, 1, none⟩ = some (.int .i64 v.sy) := cell_at hT0 rfl
  have qhT0_2 : w1.cell? ⟨w.heap.size, 2, none⟩ = some (.int .i64 v.dx) := cell_at hT0 rfl
  have qhT0_3 : w1.cell? ⟨w.heap.size, 3, none⟩ = some (.int .i64 v.dy) := cell_at hT0 rfl
  have qhT0_4 : w1.cell? ⟨w.heap.size, 4, none⟩ = some (.int .i64 (N : Int)) := cell_at hT0 rfl
  have qhT1_0 : w1.cell? ⟨w.heap.size + 1, 0, none⟩ = some (.int .i64 u.ring) := cell_at hT1 rfl
  have qhT1_1 : w1.cell? ⟨w.heap.size + 1, 1, none⟩ = some (.int .i64 u.speed) := cell_at hT1 rfl
  have qhT1_2 : w1.cell? ⟨w.heap.size + 1, 2, none⟩ = some (.int .i64 u.loss) := cell_at hT1 rfl
  have qhT1_3 : w1.cell? ⟨w.heap.size + 1, 3, none⟩ = some (.int .i64 u.clear) := cell_at hT1 rfl
  have qhT1_4 : w1.cell? ⟨w.heap.size + 1, 4, none⟩ = some (.int .i64 u.soft) := cell_at hT1 rfl
  have qhT1_5 : w1.cell? ⟨w.heap.size + 1, 5, none⟩ = some (.slice A M cap) := cell_at hT1 rfl
  have qhT2_0 : w1.cell? ⟨w.heap.size + 1 + 1, 0, none⟩ = some (.slice S SM scap) := cell_at hT2 rfl
  have qhT2_1 : w1.cell? ⟨w.heap.size + 1 + 1, 1, none⟩ = some (.slice G gn gcap) := cell_at hT2 rfl
  have qhT2_2 : w1.cell? ⟨w.heap.size + 1 + 1, 2, none⟩ = some (.int .i64 (TK : Int)) := cell_at hT2 rfl
  clear hb
  cases b
  case false =>
    go_wp2_with fail
    refine (c15 _).mono ?_
    rintro e wz ⟨rfl, hz⟩
    go_wp2
    go_ret
    exact ⟨rfl, hB1.call hz rfl⟩
  clear hb1
  go_wp2_with fail
  refine (c37 S SM scap _).mono ?_
  rintro e w' ⟨⟨b, rfl, hb2⟩, rfl⟩
  cases b
  case false =>
    go_wp2_with fail
    refine (c15 _).mono ?_
    rintro e wz ⟨rfl, hz⟩
    go_wp2
    go_ret
    exact ⟨rfl, hB1.call hz rfl⟩
  have hm := hb2 rfl
  clear hb2
  go_wp2_with fail
  refine (H20.out _ (by omega) H).mono ?_
  rintro e w2 ⟨rfl, hb⟩
  clear qhT0_0 qhT0_1 qhT0_2 qhT0_3 qhT0_4 qhT1_0 qhT1_1 qhT1_2 qhT1_3 qhT1_4 qhT1_5 qhT2_0 qhT2_1 qhT2_2
  have hS := hb
  have hB2 := hB1.call hS rfl
  replace hT0 := blkb hT0 hS
  replace hT1 := blkb hT1 hS
  replace hT2 := blkb hT2 hS
  replace H := H.below hS
  replace HS := HS.below hS
  clear hS hB1
  have qhT0_0 : w2.cell? ⟨w.heap.size, 0, none⟩ = some (.int .i64 v.sx) := cell_at hT0 rfl
  have qhT0_1 : w2.cell? ⟨w.heap.size, 1, none⟩ = some (.int .i64 v.sy) := cell_at hT0 rfl
  have qhT0_2 : w2.cell? ⟨w.heap.size, 2, none⟩ = some (.int .i64 v.dx) := cell_at hT0 rfl
  have qhT0_3 : w2.cell? ⟨w.heap.size, 3, none⟩ = some (.int .i64 v.dy) := cell_at hT0 rfl
  have qhT0_4 : w2.cell? ⟨w.heap.size, 4, none⟩ = some (.int .i64 (N : Int)) := cell_at hT0 rfl
  have qhT1_0 : w2.cell? ⟨w.heap.size + 1, 0, none⟩ = some (.int .i64 u.ring) := cell_at hT1 rfl
  have qhT1_1 : w2.cell? ⟨w.heap.size + 1, 1, none⟩ = some (.int .i64 u.speed) := cell_at hT1 rfl
  have qhT1_2 : w2.cell? ⟨w.heap.size + 1, 2, none⟩ = some (.int .i64 u.loss) := cell_at hT1 rfl
  have qhT1_3 : w2.cell? ⟨w.heap.size + 1, 3, none⟩ = some (.int .i64 u.clear) := cell_at hT1 rfl
  have qhT1_4 : w2.cell? ⟨w.heap.size + 1, 4, none⟩ = some (.int .i64 u.soft) := cell_at hT1 rfl
  have qhT1_5 : w2.cell? ⟨w.heap.size + 1, 5, none⟩ = some (.slice A M cap) := cell_at hT1 rfl
  have qhT2_0 : w2.cell? ⟨w.heap.size + 1 + 1, 0, none⟩ = some (.slice S SM scap) := cell_at hT2 rfl
  have qhT2_1 : w2.cell? ⟨w.heap.size + 1 + 1, 1, none⟩ = some (.slice G gn gcap) := cell_at hT2 rfl
  have qhT2_2 : w2.cell? ⟨w.heap.size + 1 + 1, 2, none⟩ = some (.int .i64 (TK : Int)) := cell_at hT2 rfl
  clear hb
  go_wp2_with fail
  refine (H48.out _ (by omega) HS).mono ?_
  rintro e w3 ⟨rfl, hb⟩
  clear qhT0_0 qhT0_1 qhT0_2 qhT0_3 qhT0_4 qhT1_0 qhT1_1 qhT1_2 qhT1_3 qhT1_4 qhT1_5 qhT2_0 qhT2_1 qhT2_2
  have hS := hb
  have hB3 := hB2.call hS rfl
  replace hT0 := blkb hT0 hS
  replace hT1 := blkb hT1 hS
  replace hT2 := blkb hT2 hS
  replace H := H.below hS
  replace HS := HS.below hS
  clear hS hB2
  have qhT0_0 : w3.cell? ⟨w.heap.size, 0, none⟩ = some (.int .i64 v.sx) := cell_at hT0 rfl
  have qhT0_1 : w3.cell? ⟨w.heap.size, 1, none⟩ = some (.int .i64 v.sy) := cell_at hT0 rfl
  have qhT0_2 : w3.cell? ⟨w.heap.size, 2, none⟩ = some (.int .i64 v.dx) := cell_at hT0 rfl
  have qhT0_3 : w3.cell? ⟨w.heap.size, 3, none⟩ = some (.int .i64 v.dy) := cell_at hT0 rfl
  have qhT0_4 : w3.cell? ⟨w.heap.size, 4, none⟩ = some (.int .i64 (N : Int)) := cell_at hT0 rfl
  have qhT1_0 : w3.cell? ⟨w.heap.size + 1, 0, none⟩ = some (.int .i64 u.ring) := cell_at hT1 rfl
  have qhT1_1 : w3.cell? ⟨w.heap.size + 1, 1, none⟩ = some (.int .i64 u.speed) := cell_at hT1 rfl
  have qhT1_2 : w3.cell? ⟨w.heap.size + 1, 2, none⟩ = some (.int .i64 u.loss) := cell_at hT1 rfl
  have qhT1_3 : w3.cell? ⟨w.heap.size + 1, 3, none⟩ = some (.int .i64 u.clear) := cell_at hT1 rfl
  have qhT1_4 : w3.cell? ⟨w.heap.size + 1, 4, none⟩ = some (.int .i64 u.soft) := cell_at hT1 rfl
  have qhT1_5 : w3.cell? ⟨w.heap.size + 1, 5, none⟩ = some (.slice A M cap) := cell_at hT1 rfl
  have qhT2_0 : w3.cell? ⟨w.heap.size + 1 + 1, 0, none⟩ = some (.slice S SM scap) := cell_at hT2 rfl
  have qhT2_1 : w3.cell? ⟨w.heap.size + 1 + 1, 1, none⟩ = some (.slice G gn gcap) := cell_at hT2 rfl
  have qhT2_2 : w3.cell? ⟨w.heap.size + 1 + 1, 2, none⟩ = some (.int .i64 (TK : Int)) := cell_at hT2 rfl
  clear hb
  go_wp2_with fail
  refine (H49.out _).mono ?_
  rintro e w' ⟨rfl, rfl⟩
  go_wp2_with fail
  refine (H50.out v u l _ A M cap HN.out HM.out H HALL.out).mono ?_
  rintro e w4 ⟨g5, rfl, h5, hb⟩
  clear qhT0_0 qhT0_1 qhT0_2 qhT0_3 qhT0_4 qhT1_0 qhT1_1 qhT1_2 qhT1_3 qhT1_4 qhT1_5 qhT2_0 qhT2_1 qhT2_2
  have hS := hb
  have hB4 := hB3.call hS rfl
  replace hT0 := blkb hT0 hS
  replace hT1 := blkb hT1 hS
  replace hT2 := blkb hT2 hS
  replace H := H.below hS
  replace HS := HS.below hS
  clear hS hB3
  have qhT0_0 : w4.cell? ⟨w.heap.size, 0, none⟩ = some (.int .i64 v.sx) := cell_at hT0 rfl
  have qhT0_1 : w4.cell? ⟨w.heap.size, 1, none⟩ = some (.int .i64 v.sy) := cell_at hT0 rfl
  have qhT0_2 : w4.cell? ⟨w.heap.size, 2, none⟩ = some (.int .i64 v.dx) := cell_at hT0 rfl
  have qhT0_3 : w4.cell? ⟨w.heap.size, 3, none⟩ = some (.int .i64 v.dy) := cell_at hT0 rfl
  have qhT0_4 : w4.cell? ⟨w.heap.size, 4, none⟩ = some (.int .i64 (N : Int)) := cell_at hT0 rfl
  have qhT1_0 : w4.cell? ⟨w.heap.size + 1, 0, none⟩ = some (.int .i64 u.ring) := cell_at hT1 rfl
  have qhT1_1 : w4.cell? ⟨w.heap.size + 1, 1, none⟩ = some (.int .i64 u.speed) := cell_at hT1 rfl
  have qhT1_2 : w4.cell? ⟨w.heap.size + 1, 2, none⟩ = some (.int .i64 u.loss) := cell_at hT1 rfl
  have qhT1_3 : w4.cell? ⟨w.heap.size + 1, 3, none⟩ = some (.int .i64 u.clear) := cell_at hT1 rfl
  have qhT1_4 : w4.cell? ⟨w.heap.size + 1, 4, none⟩ = some (.int .i64 u.soft) := cell_at hT1 rfl
  have qhT1_5 : w4.cell? ⟨w.heap.size + 1, 5, none⟩ = some (.slice A M cap) := cell_at hT1 rfl
  have qhT2_0 : w4.cell? ⟨w.heap.size + 1 + 1, 0, none⟩ = some (.slice S SM scap) := cell_at hT2 rfl
  have qhT2_1 : w4.cell? ⟨w.heap.size + 1 + 1, 1, none⟩ = some (.slice G gn gcap) := cell_at hT2 rfl
  have qhT2_2 : w4.cell? ⟨w.heap.size + 1 + 1, 2, none⟩ = some (.int .i64 (TK : Int)) := cell_at hT2 rfl
  clear hb
  have hz : (w4.alloc (Obj.cells #[.int .i64 0, .int .i64 0, .int .i64 0, .int .i64 0, .int .i64 0] 27)).heap[w4.heap.size]? = some (Obj.cells #[.int .i64 0, .int .i64 0, .int .i64 0, .int .i64 0, .int .i64 0] 27) := heap_new rfl
  go_wp2_with (refine wpList_store_blk rfl 27 _ _ rfl w4.heap.size _ rfl rfl hz ?s1 ?s2 ?s3 ?_)
  case s1 => rfl
  case s2 => kernel_rfl
  case s3 => simp [Value.oneCell']
  intro w5 t9 hg3 hs3
  clear qhT0_0 qhT0_1 qhT0_2 qhT0_3 qhT0_4 qhT1_0 qhT1_1 qhT1_2 qhT1_3 qhT1_4 qhT1_5 qhT2_0 qhT2_1 qhT2_2
  have hS := ((Below.refl _ _).alloc (Nat.le_refl _) _).grown hg3 (by simp) (fun j hj => by cases hj; exact Nat.le_refl _)
  have hB5 := hB4.call hS rfl
  replace hT0 := blkb hT0 hS
  replace hT1 := blkb hT1 hS
  replace hT2 := blkb hT2 hS
  replace H := H.below hS
  replace HS := HS.below hS
  replace h5 := blkb h5 hS
  clear hS hB4
  have qhT0_0 : w5.cell? ⟨w.heap.size, 0, none⟩ = some (.int .i64 v.sx) := cell_at hT0 rfl
  have qhT0_1 : w5.cell? ⟨w.heap.size, 1, none⟩ = some (.int .i64 v.sy) := cell_at hT0 rfl
  have qhT0_2 : w5.cell? ⟨w.heap.size, 2, none⟩ = some (.int .i64 v.dx) := cell_at hT0 rfl
  have qhT0_3 : w5.cell? ⟨w.heap.size, 3, none⟩ = some (.int .i64 v.dy) := cell_at hT0 rfl
  have qhT0_4 : w5.cell? ⟨w.heap.size, 4, none⟩ = some (.int .i64 (N : Int)) := cell_at hT0 rfl
  have qhT1_0 : w5.cell? ⟨w.heap.size + 1, 0, none⟩ = some (.int .i64 u.ring) := cell_at hT1 rfl
  have qhT1_1 : w5.cell? ⟨w.heap.size + 1, 1, none⟩ = some (.int .i64 u.speed) := cell_at hT1 rfl
  have qhT1_2 : w5.cell? ⟨w.heap.size + 1, 2, none⟩ = some (.int .i64 u.loss) := cell_at hT1 rfl
  have qhT1_3 : w5.cell? ⟨w.heap.size + 1, 3, none⟩ = some (.int .i64 u.clear) := cell_at hT1 rfl
  have qhT1_4 : w5.cell? ⟨w.heap.size + 1, 4, none⟩ = some (.int .i64 u.soft) := cell_at hT1 rfl
  have qhT1_5 : w5.cell? ⟨w.heap.size + 1, 5, none⟩ = some (.slice A M cap) := cell_at hT1 rfl
  have qhT2_0 : w5.cell? ⟨w.heap.size + 1 + 1, 0, none⟩ = some (.slice S SM scap) := cell_at hT2 rfl
  have qhT2_1 : w5.cell? ⟨w.heap.size + 1 + 1, 1, none⟩ = some (.slice G gn gcap) := cell_at hT2 rfl
  have qhT2_2 : w5.cell? ⟨w.heap.size + 1 + 1, 2, none⟩ = some (.int .i64 (TK : Int)) := cell_at hT2 rfl
  clear hz hg3 hs3
  obtain ⟨bt9, hbt9⟩ : ∃ b, b = w4.heap.size := ⟨_, rfl⟩
  rw [← hbt9] at t9 ⊢
  clear hbt9
  clear qhT0_0 qhT0_1 qhT0_2 qhT0_3 qhT0_4 qhT1_0 qhT1_1 qhT1_2 qhT1_3 qhT1_4 qhT1_5 qhT2_0 qhT2_1 qhT2_2
  have hT0z := hT0
  have hT1z := hT1
  have hT2z := hT2
  have Hz := H
  have HSz := HS
  have h5z := h5
  have t9z := t9
  have qt9_0 : w5.cell? ⟨bt9, 0, none⟩ = some (.int .i64 u.ring) := cell_at t9 rfl
  have qt9_1 : w5.cell? ⟨bt9, 1, none⟩ = some (.int .i64 u.speed) := cell_at t9 rfl
  have qt9_2 : w5.cell? ⟨bt9, 2, none⟩ = some (.int .i64 u.loss) := cell_at t9 rfl
  have qt9_3 : w5.cell? ⟨bt9, 3, none⟩ = some (.int .i64 u.clear) := cell_at t9 rfl
  have qt9_4 : w5.cell? ⟨bt9, 4, none⟩ = some (.int .i64 u.soft) := cell_at t9 rfl
  have hz : (w5.alloc (Obj.cells #[.int .i64 0, .int .i64 0, .int .i64 0, .int .i64 0, .int .i64 0, .int .i64 0, .int .i64 0, .int .i64 0, .int .i64 0, .int .i64 0, .int .i64 0, .int .i64 0, .int .i64 0, .int .i64 0, .int .i64 0, .int .i64 0, .int .i64 0, .int .i64 0, .int .i64 0, .int .i64 0] 102)).heap[w5.heap.size]? = some (Obj.cells #[.int .i64 0, .int .i64 0, .int .i64 0, .int .i64 0, .int .i64 0, .int .i64 0, .int .i64 0, .int .i64 0, .int .i64 0, .int .i64 0, .int .i64 0, .int .i64 0, .int .i64 0, .int .i64 0, .int .i64 0, .int .i64 0, .int .i64 0, .int .i64 0, .int .i64 0, .int .i64 0] 102) := heap_new rfl
  go_wp2_with (refine wpList_store_blk rfl 102 _ _ rfl w5.heap.size _ rfl rfl hz ?s1 ?s2 ?s3 ?_)
  case s1 => rfl
  case s2 => kernel_rfl
  case s3 => simp [Value.oneCell']
  intro w6 t10 hg hs
  have hC := ((Below.refl w5.heap.size w5).alloc (Nat.le_refl _) (Obj.cells #[.int .i64 0, .int .i64 0, .int .i64 0, .int .i64 0, .int .i64 0, .int .i64 0, .int .i64 0, .int .i64 0, .int .i64 0, .int .i64 0, .int .i64 0, .int .i64 0, .int .i64 0, .int .i64 0, .int .i64 0, .int .i64 0, .int .i64 0, .int .i64 0, .int .i64 0, .int .i64 0] 102)).grown hg (by simp) (fun j hj => by cases hj; exact Nat.le_refl _)
  clear hz hg hs
  obtain ⟨b10, hb10⟩ : ∃ b, b = w5.heap.size := ⟨_, rfl⟩
  have hge : w5.heap.size ≤ b10 := by omega
  rw [← hb10] at t10 ⊢
  clear hb10
  clear qt9_0 qt9_1 qt9_2 qt9_3 qt9_4
  have t9c := blkb t9z hC
  have q9_0 : w6.cell? ⟨bt9, 0, none⟩ = some (.int .i64 u.ring) := cell_at t9c rfl
  have q9_1 : w6.cell? ⟨bt9, 1, none⟩ = some (.int .i64 u.speed) := cell_at t9c rfl
  have q9_2 : w6.cell? ⟨bt9, 2, none⟩ = some (.int .i64 u.loss) := cell_at t9c rfl
  have q9_3 : w6.cell? ⟨bt9, 3, none⟩ = some (.int .i64 u.clear) := cell_at t9c rfl
  have q9_4 : w6.cell? ⟨bt9, 4, none⟩ = some (.int .i64 u.soft) := cell_at t9c rfl
  clear t9c
  go_wp2_with (refine wpList_store_one rfl _ _ rfl b10 0 r0 _ rfl rfl t10 (by simp) ?_)
  intro w7 t10n hg hs
  replace hC := hC.grown hg hC.size (fun j hj => by cases hj; exact hge)
  replace t10 : w7.heap[b10]? = some (.cells #[.int .i64 r0, .int .i64 u.speed, .int .i64 u.loss, .int .i64 u.clear, .int .i64 u.soft, .int .i64 u.ring, .int .i64 u.speed, .int .i64 u.loss, .int .i64 u.clear, .int .i64 u.soft, .int .i64 u.ring, .int .i64 u.speed, .int .i64 u.loss, .int .i64 u.clear, .int .i64 u.soft, .int .i64 u.ring, .int .i64 u.speed, .int .i64 u.loss, .int .i64 u.clear, .int .i64 u.soft] 102 (0, 0)) := t10n
  clear t10n hg hs q9_0 q9_1 q9_2 q9_3 q9_4
  have t9c := blkb t9z hC
  have q9_0 : w7.cell? ⟨bt9, 0, none⟩ = some (.int .i64 u.ring) := cell_at t9c rfl
  have q9_1 : w7.cell? ⟨bt9, 1, none⟩ = some (.int .i64 u.speed) := cell_at t9c rfl
  have q9_2 : w7.cell? ⟨bt9, 2, none⟩ = some (.int .i64 u.loss) := cell_at t9c rfl
  have q9_3 : w7.cell? ⟨bt9, 3, none⟩ = some (.int .i64 u.clear) := cell_at t9c rfl
  have q9_4 : w7.cell? ⟨bt9, 4, none⟩ = some (.int .i64 u.soft) := cell_at t9c rfl
  clear t9c
  go_wp2_with (refine wpList_store_one rfl _ _ rfl b10 6 r1 _ rfl rfl t10 (by simp) ?_)
  intro w8 t10n hg hs
  replace hC := hC.grown hg hC.size (fun j hj => by cases hj; exact hge)
  replace t10 : w8.heap[b10]? = some (.cells #[.int .i64 r0, .int .i64 u.speed, .int .i64 u.loss, .int .i64 u.clear, .int .i64 u.soft, .int .i64 u.ring, .int .i64 r1, .int .i64 u.loss, .int .i64 u.clear, .int .i64 u.soft, .int .i64 u.ring, .int .i64 u.speed, .int .i64 u.loss, .int .i64 u.clear, .int .i64 u.soft, .int .i64 u.ring, .int .i64 u.speed, .int .i64 u.loss, .int .i64 u.clear, .int .i64 u.soft] 102 (0, 0)) := t10n
  clear t10n hg hs q9_0 q9_1 q9_2 q9_3 q9_4
  have t9c := blkb t9z hC
  have q9_0 : w8.cell? ⟨bt9, 0, none⟩ = some (.int .i64 u.ring) := cell_at t9c rfl
  have q9_1 : w8.cell? ⟨bt9, 1, none⟩ = some (.int .i64 u.speed) := cell_at t9c rfl
  have q9_2 : w8.cell? ⟨bt9, 2, none⟩ = some (.int .i64 u.loss) := cell_at t9c rfl
  have q9_3 : w8.cell? ⟨bt9, 3, none⟩ = some (.int .i64 u.clear) := cell_at t9c rfl
  have q9_4 : w8.cell? ⟨bt9, 4, none⟩ = some (.int .i64 u.soft) := cell_at t9c rfl
  clear t9c
  go_wp2_with (refine wpList_store_one rfl _ _ rfl b10 12 r2 _ rfl rfl t10 (by simp) ?_)
  intro w9 t10n hg hs
  replace hC := hC.grown hg hC.size (fun j hj => by cases hj; exact hge)
  replace t10 : w9.heap[b10]? = some (.cells #[.int .i64 r0, .int .i64 u.speed, .int .i64 u.loss, .int .i64 u.clear, .int .i64 u.soft, .int .i64 u.ring, .int .i64 r1, .int .i64 u.loss, .int .i64 u.clear, .int .i64 u.soft, .int .i64 u.ring, .int .i64 u.speed, .int .i64 r2, .int .i64 u.clear, .int .i64 u.soft, .int .i64 u.ring, .int .i64 u.speed, .int .i64 u.loss, .int .i64 u.clear, .int .i64 u.soft] 102 (0, 0)) := t10n
  clear t10n hg hs q9_0 q9_1 q9_2 q9_3 q9_4
  have t9c := blkb t9z hC
  have q9_0 : w9.cell? ⟨bt9, 0, none⟩ = some (.int .i64 u.ring) := cell_at t9c rfl
  have q9_1 : w9.cell? ⟨bt9, 1, none⟩ = some (.int .i64 u.speed) := cell_at t9c rfl
  have q9_2 : w9.cell? ⟨bt9, 2, none⟩ = some (.int .i64 u.loss) := cell_at t9c rfl
  have q9_3 : w9.cell? ⟨bt9, 3, none⟩ = some (.int .i64 u.clear) := cell_at t9c rfl
  have q9_4 : w9.cell? ⟨bt9, 4, none⟩ = some (.int .i64 u.soft) := cell_at t9c rfl
  clear t9c
  go_wp2_with (refine wpList_store_one rfl _ _ rfl b10 18 r3 _ rfl rfl t10 (by simp) ?_)
  intro w10 t10n hg hs
  replace hC := hC.grown hg hC.size (fun j hj => by cases hj; exact hge)
  replace t10 : w10.heap[b10]? = some (.cells #[.int .i64 r0, .int .i64 u.speed, .int .i64 u.loss, .int .i64 u.clear, .int .i64 u.soft, .int .i64 u.ring, .int .i64 r1, .int .i64 u.loss, .int .i64 u.clear, .int .i64 u.soft, .int .i64 u.ring, .int .i64 u.speed, .int .i64 r2, .int .i64 u.clear, .int .i64 u.soft, .int .i64 u.ring, .int .i64 u.speed, .int .i64 u.loss, .int .i64 r3, .int .i64 u.soft] 102 (0, 0)) := t10n
  clear t10n hg hs q9_0 q9_1 q9_2 q9_3 q9_4
  have t9c := blkb t9z hC
  have q9_0 : w10.cell? ⟨bt9, 0, none⟩ = some (.int .i64 u.ring) := cell_at t9c rfl
  have q9_1 : w10.cell? ⟨bt9, 1, none⟩ = some (.int .i64 u.speed) := cell_at t9c rfl
  have q9_2 : w10.cell? ⟨bt9, 2, none⟩ = some (.int .i64 u.loss) := cell_at t9c rfl
  have q9_3 : w10.cell? ⟨bt9, 3, none⟩ = some (.int .i64 u.clear) := cell_at t9c rfl
  have q9_4 : w10.cell? ⟨bt9, 4, none⟩ = some (.int .i64 u.soft) := cell_at t9c rfl
  clear t9c
  clear q9_0 q9_1 q9_2 q9_3 q9_4 hge hw0 hw1 hw2 hw3 hif0 hif1 hif2 hif3 hbld
  have hB10 := hB5.call hC rfl
  replace hT0 := blkb hT0z hC
  replace hT1 := blkb hT1z hC
  replace hT2 := blkb hT2z hC
  replace H := Hz.below hC
  replace HS := HSz.below hC
  replace h5 := blkb h5z hC
  replace t9 := blkb t9z hC
  clear hC hB5 hT0z hT1z hT2z Hz HSz h5z t9z
  have qhT0_0 : w10.cell? ⟨w.heap.size, 0, none⟩ = some (.int .i64 v.sx) := cell_at hT0 rfl
  have qhT0_1 : w10.cell? ⟨w.heap.size, 1, none⟩ = some (.int .i64 v.sy) := cell_at hT0 rfl
  have qhT0_2 : w10.cell? ⟨w.heap.size, 2, none⟩ = some (.int .i64 v.dx) := cell_at hT0 rfl
  have qhT0_3 : w10.cell? ⟨w.heap.size, 3, none⟩ = some (.int .i64 v.dy) := cell_at hT0 rfl
  have qhT0_4 : w10.cell? ⟨w.heap.size, 4, none⟩ = some (.int .i64 (N : Int)) := cell_at hT0 rfl
  have qhT1_0 : w10.cell? ⟨w.heap.size + 1, 0, none⟩ = some (.int .i64 u.ring) := cell_at hT1 rfl
  have qhT1_1 : w10.cell? ⟨w.heap.size + 1, 1, none⟩ = some (.int .i64 u.speed) := cell_at hT1 rfl
  have qhT1_2 : w10.cell? ⟨w.heap.size + 1, 2, none⟩ = some (.int .i64 u.loss) := cell_at hT1 rfl
  have qhT1_3 : w10.cell? ⟨w.heap.size + 1, 3, none⟩ = some (.int .i64 u.clear) := cell_at hT1 rfl
  have qhT1_4 : w10.cell? ⟨w.heap.size + 1, 4, none⟩ = some (.int .i64 u.soft) := cell_at hT1 rfl
  have qhT1_5 : w10.cell? ⟨w.heap.size + 1, 5, none⟩ = some (.slice A M cap) := cell_at hT1 rfl
  have qhT2_0 : w10.cell? ⟨w.heap.size + 1 + 1, 0, none⟩ = some (.slice S SM scap) := cell_at hT2 rfl
  have qhT2_1 : w10.cell? ⟨w.heap.size + 1 + 1, 1, none⟩ = some (.slice G gn gcap) := cell_at hT2 rfl
  have qhT2_2 : w10.cell? ⟨w.heap.size + 1 + 1, 2, none⟩ = some (.int .i64 (TK : Int)) := cell_at hT2 rfl
  have qt9_0 : w10.cell? ⟨bt9, 0, none⟩ = some (.int .i64 u.ring) := cell_at t9 rfl
  have qt9_1 : w10.cell? ⟨bt9, 1, none⟩ = some (.int .i64 u.speed) := cell_at t9 rfl
  have qt9_2 : w10.cell? ⟨bt9, 2, none⟩ = some (.int .i64 u.loss) := cell_at t9 rfl
  have qt9_3 : w10.cell? ⟨bt9, 3, none⟩ = some (.int .i64 u.clear) := cell_at t9 rfl
  have qt9_4 : w10.cell? ⟨bt9, 4, none⟩ = some (.int .i64 u.soft) := cell_at t9 rfl
  go_wp2_with (refine wpList_load_blk rfl 102 _ rfl b10 _ rfl t10 _ un102 rfl ?s1 ?_)
  case s1 => kernel_rfl
  go_wp2
  clear t10
  clear qhT0_0 qhT0_1 qhT0_2 qhT0_3 qhT0_4 qhT1_0 qhT1_1 qhT1_2 qhT1_3 qhT1_4 qhT1_5 qhT2_0 qhT2_1 qhT2_2 qt9_0 qt9_1 qt9_2 qt9_3 qt9_4
  go_loopw [102] (fun i wr => ∃ j : Nat, j ≤ 4 ∧ i = .int .i64 j ∧ Below w10.heap.size w10 wr) (fun i _ => 4 - (intOf i).toNat)
  case atStart => exact ⟨0, by omega, rfl, Below.refl _ _⟩
  case round =>
    obtain ⟨j, hj, rfl, hBj⟩ := hrel
    obtain ⟨w11, hww⟩ : ∃ W, W = wr := ⟨_, rfl⟩
    rw [← hww] at hBj  ⊢
    clear hww
    have hB11 := hB10.call hBj rfl
    replace hT0 := blkb hT0 hBj
    replace hT1 := blkb hT1 hBj
    replace hT2 := blkb hT2 hBj
    replace H := H.below hBj
    replace HS := HS.below hBj
    replace h5 := blkb h5 hBj
    replace t9 := blkb t9 hBj
    clear hB10
    by_cases hlt : j < 4
    · as_aux_lemma =>
        obtain ⟨x, hx⟩ : ∃ x, x = Mo.mild u j := ⟨_, rfl⟩
        have hix := HIX.out j hlt
        have hal := HAL.out j
        have hat := HAT.out j
        have hlm := HLM.out j
        have hla := fun t => Mo.lv_get v (Mo.mild u j) l t
        have hlb := fun t => Mo.lv_get v (Mo.mild u j) (l.take (l.length - 1)) t
        rw [← hx] at hix hal hat hlm hla hlb
        rw [← HM.out] at hat hlm hlb
        have HLM1 := Lib.hid hlm
        have HLA := Lib.hid hla
        have HLB := Lib.hid hlb
        have HAL1 := Lib.hid hal
        have HAT1 := Lib.hid hat
        have htk : M - 1 = (l.take (M - 1)).length := by rw [List.length_take, ← HM.out]; omega
        have HTK := Lib.hid htk
        clear hx hal hat hlm hla hlb htk
        have qhT0_0 : w11.cell? ⟨w.heap.size, 0, none⟩ = some (.int .i64 v.sx) := cell_at hT0 rfl
        have qhT0_1 : w11.cell? ⟨w.heap.size, 1, none⟩ = some (.int .i64 v.sy) := cell_at hT0 rfl
        have qhT0_2 : w11.cell? ⟨w.heap.size, 2, none⟩ = some (.int .i64 v.dx) := cell_at hT0 rfl
        have qhT0_3 : w11.cell? ⟨w.heap.size, 3, none⟩ = some (.int .i64 v.dy) := cell_at hT0 rfl
        have qhT0_4 : w11.cell? ⟨w.heap.size, 4, none⟩ = some (.int .i64 (N : Int)) := cell_at hT0 rfl
        have qhT1_0 : w11.cell? ⟨w.heap.size + 1, 0, none⟩ = some (.int .i64 u.ring) := cell_at hT1 rfl
        have qhT1_1 : w11.cell? ⟨w.heap.size + 1, 1, none⟩ = some (.int .i64 u.speed) := cell_at hT1 rfl
        have qhT1_2 : w11.cell? ⟨w.heap.size + 1, 2, none⟩ = some (.int .i64 u.loss) := cell_at hT1 rfl
        have qhT1_3 : w11.cell? ⟨w.heap.size + 1, 3, none⟩ = some (.int .i64 u.clear) := cell_at hT1 rfl
        have qhT1_4 : w11.cell? ⟨w.heap.size + 1, 4, none⟩ = some (.int .i64 u.soft) := cell_at hT1 rfl
        have qhT1_5 : w11.cell? ⟨w.heap.size + 1, 5, none⟩ = some (.slice A M cap) := cell_at hT1 rfl
        have qhT2_0 : w11.cell? ⟨w.heap.size + 1 + 1, 0, none⟩ = some (.slice S SM scap) := cell_at hT2 rfl
        have qhT2_1 : w11.cell? ⟨w.heap.size + 1 + 1, 1, none⟩ = some (.slice G gn gcap) := cell_at hT2 rfl
        have qhT2_2 : w11.cell? ⟨w.heap.size + 1 + 1, 2, none⟩ = some (.int .i64 (TK : Int)) := cell_at hT2 rfl
        have qt9_0 : w11.cell? ⟨bt9, 0, none⟩ = some (.int .i64 u.ring) := cell_at t9 rfl
        have qt9_1 : w11.cell? ⟨bt9, 1, none⟩ = some (.int .i64 u.speed) := cell_at t9 rfl
        have qt9_2 : w11.cell? ⟨bt9, 2, none⟩ = some (.int .i64 u.loss) := cell_at t9 rfl
        have qt9_3 : w11.cell? ⟨bt9, 3, none⟩ = some (.int .i64 u.clear) := cell_at t9 rfl
        have qt9_4 : w11.cell? ⟨bt9, 4, none⟩ = some (.int .i64 u.soft) := cell_at t9 rfl
        have hz : (w11.alloc (Obj.cells #[.int .i64 0, .int .i64 0, .int .i64 0, .int .i64 0, .int .i64 0] 27)).heap[w11.heap.size]? = some (Obj.cells #[.int .i64 0, .int .i64 0, .int .i64 0, .int .i64 0, .int .i64 0] 27) := heap_new rfl
        go_wp2_with (refine wpList_store_blk rfl 27 _ _ rfl w11.heap.size _ rfl rfl hz ?s1 ?s2 ?s3 ?_)
        case s1 => rfl
        case s2 => kernel_rfl
        case s3 => simp [Value.oneCell']
        intro w12 t12 hg3 hs3
        clear qhT0_0 qhT0_1 qhT0_2 qhT0_3 qhT0_4 qhT1_0 qhT1_1 qhT1_2 qhT1_3 qhT1_4 qhT1_5 qhT2_0 qhT2_1 qhT2_2 qt9_0 qt9_1 qt9_2 qt9_3 qt9_4
        have hS := ((Below.refl _ _).alloc (Nat.le_refl _) _).grown hg3 (by simp) (fun j hj => by cases hj; exact Nat.le_refl _)
        have hB12 := hB11.call hS rfl
        replace hT0 := blkb hT0 hS
        replace hT1 := blkb hT1 hS
        replace hT2 := blkb hT2 hS
        replace H := H.below hS
        replace HS := HS.below hS
        replace h5 := blkb h5 hS
        replace t9 := blkb t9 hS
        replace hBj := hBj.call hS rfl
        clear hS hB11
        have qhT0_0 : w12.cell? ⟨w.heap.size, 0, none⟩ = some (.int .i64 v.sx) := cell_at hT0 rfl
        have qhT0_1 : w12.cell? ⟨w.heap.size, 1, none⟩ = some (.int .i64 v.sy) := cell_at hT0 rfl
        have qhT0_2 : w12.cell? ⟨w.heap.size, 2, none⟩ = some (.int .i64 v.dx) := cell_at hT0 rfl
        have qhT0_3 : w12.cell? ⟨w.heap.size, 3, none⟩ = some (.int .i64 v.dy) := cell_at hT0 rfl
        have qhT0_4 : w12.cell? ⟨w.heap.size, 4, none⟩ = some (.int .i64 (N : Int)) := cell_at hT0 rfl
        have qhT1_0 : w12.cell? ⟨w.heap.size + 1, 0, none⟩ = some (.int .i64 u.ring) := cell_at hT1 rfl
        have qhT1_1 : w12.cell? ⟨w.heap.size + 1, 1, none⟩ = some (.int .i64 u.speed) := cell_at hT1 rfl
        have qhT1_2 : w12.cell? ⟨w.heap.size + 1, 2, none⟩ = some (.int .i64 u.loss) := cell_at hT1 rfl
        have qhT1_3 : w12.cell? ⟨w.heap.size + 1, 3, none⟩ = some (.int .i64 u.clear) := cell_at hT1 rfl
        have qhT1_4 : w12.cell? ⟨w.heap.size + 1, 4, none⟩ = some (.int .i64 u.soft) := cell_at hT1 rfl
        have qhT1_5 : w12.cell? ⟨w.heap.size + 1, 5, none⟩ = some (.slice A M cap) := cell_at hT1 rfl
        have qhT2_0 : w12.cell? ⟨w.heap.size + 1 + 1, 0, none⟩ = some (.slice S SM scap) := cell_at hT2 rfl
        have qhT2_1 : w12.cell? ⟨w.heap.size + 1 + 1, 1, none⟩ = some (.slice G gn gcap) := cell_at hT2 rfl
        have qhT2_2 : w12.cell? ⟨w.heap.size + 1 + 1, 2, none⟩ = some (.int .i64 (TK : Int)) := cell_at hT2 rfl
        have qt9_0 : w12.cell? ⟨bt9, 0, none⟩ = some (.int .i64 u.ring) := cell_at t9 rfl
        have qt9_1 : w12.cell? ⟨bt9, 1, none⟩ = some (.int .i64 u.speed) := cell_at t9 rfl
        have qt9_2 : w12.cell? ⟨bt9, 2, none⟩ = some (.int .i64 u.loss) := cell_at t9 rfl
        have qt9_3 : w12.cell? ⟨bt9, 3, none⟩ = some (.int .i64 u.clear) := cell_at t9 rfl
        have qt9_4 : w12.cell? ⟨bt9, 4, none⟩ = some (.int .i64 u.soft) := cell_at t9 rfl
        clear hz hg3 hs3
        obtain ⟨bt12, hbt12⟩ : ∃ b, b = w11.heap.size := ⟨_, rfl⟩
        rw [← hbt12] at t12 ⊢
        clear hbt12
        clear qhT0_0 qhT0_1 qhT0_2 qhT0_3 qhT0_4 qhT1_0 qhT1_1 qhT1_2 qhT1_3 qhT1_4 qhT1_5 qhT2_0 qhT2_1 qhT2_2 qt9_0 qt9_1 qt9_2 qt9_3 qt9_4
        have qhT0_0 : w12.cell? ⟨w.heap.size, 0, none⟩ = some (.int .i64 v.sx) := cell_at hT0 rfl
        have qhT0_1 : w12.cell? ⟨w.heap.size, 1, none⟩ = some (.int .i64 v.sy) := cell_at hT0 rfl
        have qhT0_2 : w12.cell? ⟨w.heap.size, 2, none⟩ = some (.int .i64 v.dx) := cell_at hT0 rfl
        have qhT0_3 : w12.cell? ⟨w.heap.size, 3, none⟩ = some (.int .i64 v.dy) := cell_at hT0 rfl
        have qhT0_4 : w12.cell? ⟨w.heap.size, 4, none⟩ = some (.int .i64 (N : Int)) := cell_at hT0 rfl
        have qhT1_0 : w12.cell? ⟨w.heap.size + 1, 0, none⟩ = some (.int .i64 u.ring) := cell_at hT1 rfl
        have qhT1_1 : w12.cell? ⟨w.heap.size + 1, 1, none⟩ = some (.int .i64 u.speed) := cell_at hT1 rfl
        have qhT1_2 : w12.cell? ⟨w.heap.size + 1, 2, none⟩ = some (.int .i64 u.loss) := cell_at hT1 rfl
        have qhT1_3 : w12.cell? ⟨w.heap.size + 1, 3, none⟩ = some (.int .i64 u.clear) := cell_at hT1 rfl
        have qhT1_4 : w12.cell? ⟨w.heap.size + 1, 4, none⟩ = some (.int .i64 u.soft) := cell_at hT1 rfl
        have qhT1_5 : w12.cell? ⟨w.heap.size + 1, 5, none⟩ = some (.slice A M cap) := cell_at hT1 rfl
        have qhT2_0 : w12.cell? ⟨w.heap.size + 1 + 1, 0, none⟩ = some (.slice S SM scap) := cell_at hT2 rfl
        have qhT2_1 : w12.cell? ⟨w.heap.size + 1 + 1, 1, none⟩ = some (.slice G gn gcap) := cell_at hT2 rfl
        have qhT2_2 : w12.cell? ⟨w.heap.size + 1 + 1, 2, none⟩ = some (.int .i64 (TK : Int)) := cell_at hT2 rfl
        have qt9_0 : w12.cell? ⟨bt9, 0, none⟩ = some (.int .i64 u.ring) := cell_at t9 rfl
        have qt9_1 : w12.cell? ⟨bt9, 1, none⟩ = some (.int .i64 u.speed) := cell_at t9 rfl
        have qt9_2 : w12.cell? ⟨bt9, 2, none⟩ = some (.int .i64 u.loss) := cell_at t9 rfl
        have qt9_3 : w12.cell? ⟨bt9, 3, none⟩ = some (.int .i64 u.clear) := cell_at t9 rfl
        have qt9_4 : w12.cell? ⟨bt9, 4, none⟩ = some (.int .i64 u.soft) := cell_at t9 rfl
        have qt12_0 : w12.cell? ⟨bt12, 0, none⟩ = some (.int .i64 x.ring) := cell_at t12 rfl
        have qt12_1 : w12.cell? ⟨bt12, 1, none⟩ = some (.int .i64 x.speed) := cell_at t12 rfl
        have qt12_2 : w12.cell? ⟨bt12, 2, none⟩ = some (.int .i64 x.loss) := cell_at t12 rfl
        have qt12_3 : w12.cell? ⟨bt12, 3, none⟩ = some (.int .i64 x.clear) := cell_at t12 rfl
        have qt12_4 : w12.cell? ⟨bt12, 4, none⟩ = some (.int .i64 x.soft) := cell_at t12 rfl
        clear hix
        go_wp2
        refine wp_region_plan [(0, true), (1, true), (2, true), (3, true), (4, true), (5, true), (6, true), (7, true), (8, true), (9, false), (10, true), (11, false), (12, true)] w12.heap.size (by kernel_rfl) (by kernel_rfl) (Nat.le_refl _) (fun _ _ d _ _ h => by cases d <;> exact h) ?_
        have hC : Below w12.heap.size w12 w12 := Below.refl _ _
        have zhT0 : w.heap.size < w12.heap.size := (Array.getElem?_eq_some_iff.1 hT0).1
        have zhT1 : w.heap.size + 1 < w12.heap.size := (Array.getElem?_eq_some_iff.1 hT1).1
        have zhT2 : w.heap.size + 1 + 1 < w12.heap.size := (Array.getElem?_eq_some_iff.1 hT2).1
        have zt9 : bt9 < w12.heap.size := (Array.getElem?_eq_some_iff.1 t9).1
        have zt12 : bt12 < w12.heap.size := (Array.getElem?_eq_some_iff.1 t12).1
        repeat (first | (refine wpPlanA_skip _ rfl (by rfl) ?_; simp only [Act.put, List.setIfInBounds_toArray, List.set_cons_zero, List.set_cons_succ]) | (refine wpPlanA_soft _ ?_ rfl (by rfl) ?_ ?_; rotate_left; (intro wq hq hcq; go_simp; first | exact rfl | exact ⟨rfl, rfl⟩); simp only [Act.put, List.setIfInBounds_toArray, List.set_cons_zero, List.set_cons_succ]))
        refine wpPlanA_hard _ rfl (by rfl) (fun w13 hS K' hK' => ?_)
        have hB13 := hB12.call hS rfl
        replace hC := hC.call hS rfl
        replace hT0 := blkb hT0 hS
        replace hT1 := blkb hT1 hS
        replace hT2 := blkb hT2 hS
        replace H := H.below hS
        replace HS := HS.below hS
        replace h5 := blkb h5 hS
        replace t9 := blkb t9 hS
        replace hBj := hBj.call hS rfl
        replace t12 := blkb t12 hS
        clear hS hB12
        go_simp
        refine hK' _ _ hC ?_
        clear hK' K'
        try simp only [Act.put, List.setIfInBounds_toArray, List.set_cons_zero, List.set_cons_succ]
        have hsl := HSL.out
        repeat (first | (refine wpPlanA_skip _ rfl (by rfl) ?_; simp only [Act.put, List.setIfInBounds_toArray, List.set_cons_zero, List.set_cons_succ]) | (refine wpPlanA_soft _ ?_ rfl (by rfl) ?_ ?_; rotate_left; (intro wq hq hcq; go_simp; first | exact rfl | exact ⟨rfl, rfl⟩); simp only [Act.put, List.setIfInBounds_toArray, List.set_cons_zero, List.set_cons_succ]))
        clear hsl
        refine wpPlanA_hard _ rfl (by rfl) (fun w14 hS K hK => ?_)
        have hB14 := hB13.call hS rfl
        replace hC := hC.call hS rfl
        replace hT0 := blkb hT0 hS
        replace hT1 := blkb hT1 hS
        replace hT2 := blkb hT2 hS
        replace H := H.below hS
        replace HS := HS.below hS
        replace h5 := blkb h5 hS
        replace t9 := blkb t9 hS
        replace hBj := hBj.call hS rfl
        replace t12 := blkb t12 hS
        clear hS hB13
        go_simp
        refine (H50.out v x (l.take (M - 1)) _ A (M - 1) cap HN.out HTK.out (HTR.out _ H) HAT1.out).mono ?_
        rintro e w15 ⟨g13, rfl, h13, hb⟩
        have hB15 := hB14.call hb rfl
        replace hC := hC.call hb rfl
        replace hT0 := blkb hT0 hb
        replace hT1 := blkb hT1 hb
        replace hT2 := blkb hT2 hb
        replace H := H.below hb
        replace HS := HS.below hb
        replace h5 := blkb h5 hb
        replace t9 := blkb t9 hb
        replace hBj := hBj.call hb rfl
        replace t12 := blkb t12 hb
        clear hb hB14
        refine hK _ _ hC ?_
        clear hK K
        try simp only [Act.put, List.setIfInBounds_toArray, List.set_cons_zero, List.set_cons_succ]
        repeat (first | (refine wpPlanA_skip _ rfl (by rfl) ?_; simp only [Act.put, List.setIfInBounds_toArray, List.set_cons_zero, List.set_cons_succ]) | (refine wpPlanA_soft _ ?_ rfl (by rfl) ?_ ?_; rotate_left; (intro wq hq hcq; go_simp; first | exact rfl | exact ⟨rfl, rfl⟩); simp only [Act.put, List.setIfInBounds_toArray, List.set_cons_zero, List.set_cons_succ]))
        clear qhT0_0 qhT0_1 qhT0_2 qhT0_3 qhT0_4 qhT1_0 qhT1_1 qhT1_2 qhT1_3 qhT1_4 qhT1_5 qhT2_0 qhT2_1 qhT2_2 qt9_0 qt9_1 qt9_2 qt9_3 qt9_4 qt12_0 qt12_1 qt12_2 qt12_3 qt12_4
        refine wpPlanA_nil (fun w16 hS => ?_)
        clear hC zhT0 zhT1 zhT2 zt9 zt12
        have hB16 := hB15.call hS rfl
        replace hT0 := blkb hT0 hS
        replace hT1 := blkb hT1 hS
        replace hT2 := blkb hT2 hS
        replace H := H.below hS
        replace HS := HS.below hS
        replace h5 := blkb h5 hS
        replace t9 := blkb t9 hS
        replace hBj := hBj.call hS rfl
        replace t12 := blkb t12 hS
        replace h13 := blkb h13 hS
        clear hS hB15
        have qhT0_0 : w16.cell? ⟨w.heap.size, 0, none⟩ = some (.int .i64 v.sx) := cell_at hT0 rfl
        have qhT0_1 : w16.cell? ⟨w.heap.size, 1, none⟩ = some (.int .i64 v.sy) := cell_at hT0 rfl
        have qhT0_2 : w16.cell? ⟨w.heap.size, 2, none⟩ = some (.int .i64 v.dx) := cell_at hT0 rfl
        have qhT0_3 : w16.cell? ⟨w.heap.size, 3, none⟩ = some (.int .i64 v.dy) := cell_at hT0 rfl
        have qhT0_4 : w16.cell? ⟨w.heap.size, 4, none⟩ = some (.int .i64 (N : Int)) := cell_at hT0 rfl
        have qhT1_0 : w16.cell? ⟨w.heap.size + 1, 0, none⟩ = some (.int .i64 u.ring) := cell_at hT1 rfl
        have qhT1_1 : w16.cell? ⟨w.heap.size + 1, 1, none⟩ = some (.int .i64 u.speed) := cell_at hT1 rfl
        have qhT1_2 : w16.cell? ⟨w.heap.size + 1, 2, none⟩ = some (.int .i64 u.loss) := cell_at hT1 rfl
        have qhT1_3 : w16.cell? ⟨w.heap.size + 1, 3, none⟩ = some (.int .i64 u.clear) := cell_at hT1 rfl
        have qhT1_4 : w16.cell? ⟨w.heap.size + 1, 4, none⟩ = some (.int .i64 u.soft) := cell_at hT1 rfl
        have qhT1_5 : w16.cell? ⟨w.heap.size + 1, 5, none⟩ = some (.slice A M cap) := cell_at hT1 rfl
        have qhT2_0 : w16.cell? ⟨w.heap.size + 1 + 1, 0, none⟩ = some (.slice S SM scap) := cell_at hT2 rfl
        have qhT2_1 : w16.cell? ⟨w.heap.size + 1 + 1, 1, none⟩ = some (.slice G gn gcap) := cell_at hT2 rfl
        have qhT2_2 : w16.cell? ⟨w.heap.size + 1 + 1, 2, none⟩ = some (.int .i64 (TK : Int)) := cell_at hT2 rfl
        have qt9_0 : w16.cell? ⟨bt9, 0, none⟩ = some (.int .i64 u.ring) := cell_at t9 rfl
        have qt9_1 : w16.cell? ⟨bt9, 1, none⟩ = some (.int .i64 u.speed) := cell_at t9 rfl
        have qt9_2 : w16.cell? ⟨bt9, 2, none⟩ = some (.int .i64 u.loss) := cell_at t9 rfl
        have qt9_3 : w16.cell? ⟨bt9, 3, none⟩ = some (.int .i64 u.clear) := cell_at t9 rfl
        have qt9_4 : w16.cell? ⟨bt9, 4, none⟩ = some (.int .i64 u.soft) := cell_at t9 rfl
        have qt12_0 : w16.cell? ⟨bt12, 0, none⟩ = some (.int .i64 x.ring) := cell_at t12 rfl
        have qt12_1 : w16.cell? ⟨bt12, 1, none⟩ = some (.int .i64 x.speed) := cell_at t12 rfl
        have qt12_2 : w16.cell? ⟨bt12, 2, none⟩ = some (.int .i64 x.loss) := cell_at t12 rfl
        have qt12_3 : w16.cell? ⟨bt12, 3, none⟩ = some (.int .i64 x.clear) := cell_at t12 rfl
        have qt12_4 : w16.cell? ⟨bt12, 4, none⟩ = some (.int .i64 x.soft) := cell_at t12 rfl
        go_wp2_with fail
        refine (H50.out v x l _ A M cap HN.out HM.out H HAL1.out).mono ?_
        rintro e w17 ⟨g14, rfl, h14, hb⟩
        clear qhT0_0 qhT0_1 qhT0_2 qhT0_3 qhT0_4 qhT1_0 qhT1_1 qhT1_2 qhT1_3 qhT1_4 qhT1_5 qhT2_0 qhT2_1 qhT2_2 qt9_0 qt9_1 qt9_2 qt9_3 qt9_4 qt12_0 qt12_1 qt12_2 qt12_3 qt12_4
        have hS := hb
        have hB17 := hB16.call hS rfl
        replace hT0 := blkb hT0 hS
        replace hT1 := blkb hT1 hS
        replace hT2 := blkb hT2 hS
        replace H := H.below hS
        replace HS := HS.below hS
        replace h5 := blkb h5 hS
        replace t9 := blkb t9 hS
        replace hBj := hBj.call hS rfl
        replace t12 := blkb t12 hS
        replace h13 := blkb h13 hS
        clear hS hB16
        have qhT0_0 : w17.cell? ⟨w.heap.size, 0, none⟩ = some (.int .i64 v.sx) := cell_at hT0 rfl
        have qhT0_1 : w17.cell? ⟨w.heap.size, 1, none⟩ = some (.int .i64 v.sy) := cell_at hT0 rfl
        have qhT0_2 : w17.cell? ⟨w.heap.size, 2, none⟩ = some (.int .i64 v.dx) := cell_at hT0 rfl
        have qhT0_3 : w17.cell? ⟨w.heap.size, 3, none⟩ = some (.int .i64 v.dy) := cell_at hT0 rfl
        have qhT0_4 : w17.cell? ⟨w.heap.size, 4, none⟩ = some (.int .i64 (N : Int)) := cell_at hT0 rfl
        have qhT1_0 : w17.cell? ⟨w.heap.size + 1, 0, none⟩ = some (.int .i64 u.ring) := cell_at hT1 rfl
        have qhT1_1 : w17.cell? ⟨w.heap.size + 1, 1, none⟩ = some (.int .i64 u.speed) := cell_at hT1 rfl
        have qhT1_2 : w17.cell? ⟨w.heap.size + 1, 2, none⟩ = some (.int .i64 u.loss) := cell_at hT1 rfl
        have qhT1_3 : w17.cell? ⟨w.heap.size + 1, 3, none⟩ = some (.int .i64 u.clear) := cell_at hT1 rfl
        have qhT1_4 : w17.cell? ⟨w.heap.size + 1, 4, none⟩ = some (.int .i64 u.soft) := cell_at hT1 rfl
        have qhT1_5 : w17.cell? ⟨w.heap.size + 1, 5, none⟩ = some (.slice A M cap) := cell_at hT1 rfl
        have qhT2_0 : w17.cell? ⟨w.heap.size + 1 + 1, 0, none⟩ = some (.slice S SM scap) := cell_at hT2 rfl
        have qhT2_1 : w17.cell? ⟨w.heap.size + 1 + 1, 1, none⟩ = some (.slice G gn gcap) := cell_at hT2 rfl
        have qhT2_2 : w17.cell? ⟨w.heap.size + 1 + 1, 2, none⟩ = some (.int .i64 (TK : Int)) := cell_at hT2 rfl
        have qt9_0 : w17.cell? ⟨bt9, 0, none⟩ = some (.int .i64 u.ring) := cell_at t9 rfl
        have qt9_1 : w17.cell? ⟨bt9, 1, none⟩ = some (.int .i64 u.speed) := cell_at t9 rfl
        have qt9_2 : w17.cell? ⟨bt9, 2, none⟩ = some (.int .i64 u.loss) := cell_at t9 rfl
        have qt9_3 : w17.cell? ⟨bt9, 3, none⟩ = some (.int .i64 u.clear) := cell_at t9 rfl
        have qt9_4 : w17.cell? ⟨bt9, 4, none⟩ = some (.int .i64 u.soft) := cell_at t9 rfl
        have qt12_0 : w17.cell? ⟨bt12, 0, none⟩ = some (.int .i64 x.ring) := cell_at t12 rfl
        have qt12_1 : w17.cell? ⟨bt12, 1, none⟩ = some (.int .i64 x.speed) := cell_at t12 rfl
        have qt12_2 : w17.cell? ⟨bt12, 2, none⟩ = some (.int .i64 x.loss) := cell_at t12 rfl
        have qt12_3 : w17.cell? ⟨bt12, 3, none⟩ = some (.int .i64 x.clear) := cell_at t12 rfl
        have qt12_4 : w17.cell? ⟨bt12, 4, none⟩ = some (.int .i64 x.soft) := cell_at t12 rfl
        clear hb
        go_wp2
        clear qhT0_0 qhT0_1 qhT0_2 qhT0_3 qhT0_4 qhT1_0 qhT1_1 qhT1_2 qhT1_3 qhT1_4 qhT1_5 qhT2_0 qhT2_1 qhT2_2 qt9_0 qt9_1 qt9_2 qt9_3 qt9_4 qt12_0 qt12_1 qt12_2 qt12_3 qt12_4
        go_loopw [131] (fun i wr => ∃ k : Nat, k ≤ N ∧ i = .int .i64 k ∧ Below w17.heap.size w17 wr) (fun i _ => N - (intOf i).toNat)
        case atStart => exact ⟨0, by omega, rfl, Below.refl _ _⟩
        case round =>
          obtain ⟨k, hk, rfl, hBk⟩ := hrel
          obtain ⟨w18, hww⟩ : ∃ W, W = wr := ⟨_, rfl⟩
          rw [← hww] at hBk  ⊢
          clear hww
          have hB18 := hB17.call hBk rfl
          replace hT0 := blkb hT0 hBk
          replace hT1 := blkb hT1 hBk
          replace hT2 := blkb hT2 hBk
          replace H := H.below hBk
          replace HS := HS.below hBk
          replace h5 := blkb h5 hBk
          replace t9 := blkb t9 hBk
          replace hBj := hBj.call hBk rfl
          replace t12 := blkb t12 hBk
          replace h13 := blkb h13 hBk
          replace h14 := blkb h14 hBk
          clear hB17
          by_cases hkt : k < N
          · as_aux_lemma =>
              have hkn : k < v.n.toNat := by rw [HN.out]; omega
              obtain ⟨l1, l2⟩ := HLM1.out k
              have hd1 : decide (Mo.level v x l k < Mo.level v u l k) = false := decide_eq_false (by omega)
              have hd2 : decide (Mo.level v x (l.take (M - 1)) k < Mo.level v x l k) = false := decide_eq_false (by omega)
              clear l1 l2
              have fg5 : w18.cell? ⟨g5, k, none⟩ = some (.int .i64 (Mo.level v u l k)) := cell_at h5 (HLG.out k hkn)
              have fg14 : w18.cell? ⟨g14, k, none⟩ = some (.int .i64 (Mo.level v x l k)) := cell_at h14 (HLA.out k hkn)
              have fg13 : w18.cell? ⟨g13, k, none⟩ = some (.int .i64 (Mo.level v x (l.take (M - 1)) k)) := cell_at h13 (HLB.out k hkn)
              go_wp2
              have zg5 : g5 < w18.heap.size := (Array.getElem?_eq_some_iff.1 h5).1
              have zg14 : g14 < w18.heap.size := (Array.getElem?_eq_some_iff.1 h14).1
              have zg13 : g13 < w18.heap.size := (Array.getElem?_eq_some_iff.1 h13).1
              refine wp_region_growG (by kernel_rfl) (by kernel_rfl) ?_
              repeat (go_big_quiet_step ((first | fail)))
              refine wpQuiet_nil (gw_out ?_)
              intro w19 hS
              replace hBk := hBk.call hS rfl
              go_wp2
              go_roundw
              case rel => exact ⟨k + 1, by omega, by go_num, hBk⟩
              case measure => simp [intOf]; omega
          · as_aux_lemma =>
              obtain rfl : k = N := by omega
              go_wp2
              go_roundw
              case rel => exact ⟨j + 1, by omega, by go_num, hBj⟩
              case measure => simp [intOf]; omega
    · as_aux_lemma =>
        obtain rfl : j = 4 := by omega
        clear hlt
        clear hBj
        have hvsx := HVO.out.sx
        have hvsy := HVO.out.sy
        have hwsx : IntKind.i64.wrap (v.sx + 7) = v.sx + 7 := wrapI72 _ (by omega) (by omega)
        have hwsy : IntKind.i64.wrap (v.sy - 9) = v.sy - 9 := wrapI72 _ (by omega) (by omega)
        have qhT0_0 : w11.cell? ⟨w.heap.size, 0, none⟩ = some (.int .i64 v.sx) := cell_at hT0 rfl
        have qhT0_1 : w11.cell? ⟨w.heap.size, 1, none⟩ = some (.int .i64 v.sy) := cell_at hT0 rfl
        have qhT0_2 : w11.cell? ⟨w.heap.size, 2, none⟩ = some (.int .i64 v.dx) := cell_at hT0 rfl
        have qhT0_3 : w11.cell? ⟨w.heap.size, 3, none⟩ = some (.int .i64 v.dy) := cell_at hT0 rfl
        have qhT0_4 : w11.cell? ⟨w.heap.size, 4, none⟩ = some (.int .i64 (N : Int)) := cell_at hT0 rfl
        have qhT1_0 : w11.cell? ⟨w.heap.size + 1, 0, none⟩ = some (.int .i64 u.ring) := cell_at hT1 rfl
        have qhT1_1 : w11.cell? ⟨w.heap.size + 1, 1, none⟩ = some (.int .i64 u.speed) := cell_at hT1 rfl
        have qhT1_2 : w11.cell? ⟨w.heap.size + 1, 2, none⟩ = some (.int .i64 u.loss) := cell_at hT1 rfl
        have qhT1_3 : w11.cell? ⟨w.heap.size + 1, 3, none⟩ = some (.int .i64 u.clear) := cell_at hT1 rfl
        have qhT1_4 : w11.cell? ⟨w.heap.size + 1, 4, none⟩ = some (.int .i64 u.soft) := cell_at hT1 rfl
        have qhT1_5 : w11.cell? ⟨w.heap.size + 1, 5, none⟩ = some (.slice A M cap) := cell_at hT1 rfl
        have qhT2_0 : w11.cell? ⟨w.heap.size + 1 + 1, 0, none⟩ = some (.slice S SM scap) := cell_at hT2 rfl
        have qhT2_1 : w11.cell? ⟨w.heap.size + 1 + 1, 1, none⟩ = some (.slice G gn gcap) := cell_at hT2 rfl
        have qhT2_2 : w11.cell? ⟨w.heap.size + 1 + 1, 2, none⟩ = some (.int .i64 (TK : Int)) := cell_at hT2 rfl
        have qt9_0 : w11.cell? ⟨bt9, 0, none⟩ = some (.int .i64 u.ring) := cell_at t9 rfl
        have qt9_1 : w11.cell? ⟨bt9, 1, none⟩ = some (.int .i64 u.speed) := cell_at t9 rfl
        have qt9_2 : w11.cell? ⟨bt9, 2, none⟩ = some (.int .i64 u.loss) := cell_at t9 rfl
        have qt9_3 : w11.cell? ⟨bt9, 3, none⟩ = some (.int .i64 u.clear) := cell_at t9 rfl
        have qt9_4 : w11.cell? ⟨bt9, 4, none⟩ = some (.int .i64 u.soft) := cell_at t9 rfl
        have hT0z := hT0
        have hT1z := hT1
        have hT2z := hT2
        have Hz := H
        have HSz := HS
        have h5z := h5
        have t9z := t9
        have hz : (w11.alloc (Obj.cells #[.int .i64 0, .int .i64 0, .int .i64 0, .int .i64 0, .int .i64 0] 25)).heap[w11.heap.size]? = some (Obj.cells #[.int .i64 0, .int .i64 0, .int .i64 0, .int .i64 0, .int .i64 0] 25) := heap_new rfl
        go_wp2_with (refine wpList_store_blk rfl 25 _ _ rfl w11.heap.size _ rfl rfl hz ?s1 ?s2 ?s3 ?_)
        case s1 => rfl
        case s2 => kernel_rfl
        case s3 => simp [Value.oneCell']
        intro w12 t16 hg hs
        have hC := ((Below.refl w11.heap.size w11).alloc (Nat.le_refl _) (Obj.cells #[.int .i64 0, .int .i64 0, .int .i64 0, .int .i64 0, .int .i64 0] 25)).grown hg (by simp) (fun j hj => by cases hj; exact Nat.le_refl _)
        clear hz hg hs
        obtain ⟨b16, hb16⟩ : ∃ b, b = w11.heap.size := ⟨_, rfl⟩
        have hge : w11.heap.size ≤ b16 := by omega
        rw [← hb16] at t16 ⊢
        clear hb16
        clear qhT0_0 qhT0_1 qhT0_2 qhT0_3 qhT0_4 qhT1_0 qhT1_1 qhT1_2 qhT1_3 qhT1_4 qhT1_5 qhT2_0 qhT2_1 qhT2_2 qt9_0 qt9_1 qt9_2 qt9_3 qt9_4
        have hT0c := blkb hT0z hC
        have qc0 : w12.cell? ⟨w.heap.size, 0, none⟩ = some (.int .i64 v.sx) := cell_at hT0c rfl
        have qc1 : w12.cell? ⟨w.heap.size, 1, none⟩ = some (.int .i64 v.sy) := cell_at hT0c rfl
        have qc2 : w12.cell? ⟨w.heap.size, 2, none⟩ = some (.int .i64 v.dx) := cell_at hT0c rfl
        have qc3 : w12.cell? ⟨w.heap.size, 3, none⟩ = some (.int .i64 v.dy) := cell_at hT0c rfl
        have qc4 : w12.cell? ⟨w.heap.size, 4, none⟩ = some (.int .i64 (N : Int)) := cell_at hT0c rfl
        go_wp2_with (refine wpList_store_two rfl 23 _ _ rfl b16 0 _ _ _ rfl rfl t16 (by simp) ?s2 (by simp [Value.oneCell']) ?_)
        case s2 => kernel_rfl
        intro w13 t16n hg hs
        replace hC := hC.grown hg hC.size (fun j hj => by cases hj; exact hge)
        replace t16 : w13.heap[b16]? = some (.cells #[.int .i64 (v.sx + 7), .int .i64 (v.sy - 9), .int .i64 v.dx, .int .i64 v.dy, .int .i64 (N : Int)] 25 (0, 0)) := t16n
        clear t16n hg hs hge hT0c hwsx hwsy hvsx hvsy qc0 qc1 qc2 qc3 qc4
        have hB13 := hB11.call hC rfl
        replace hT0 := blkb hT0z hC
        replace hT1 := blkb hT1z hC
        replace hT2 := blkb hT2z hC
        replace H := Hz.below hC
        replace HS := HSz.below hC
        replace h5 := blkb h5z hC
        replace t9 := blkb t9z hC
        clear hC hB11 hT0z hT1z hT2z Hz HSz h5z t9z
        have qhT0_0 : w13.cell? ⟨w.heap.size, 0, none⟩ = some (.int .i64 v.sx) := cell_at hT0 rfl
        have qhT0_1 : w13.cell? ⟨w.heap.size, 1, none⟩ = some (.int .i64 v.sy) := cell_at hT0 rfl
        have qhT0_2 : w13.cell? ⟨w.heap.size, 2, none⟩ = some (.int .i64 v.dx) := cell_at hT0 rfl
        have qhT0_3 : w13.cell? ⟨w.heap.size, 3, none⟩ = some (.int .i64 v.dy) := cell_at hT0 rfl
        have qhT0_4 : w13.cell? ⟨w.heap.size, 4, none⟩ = some (.int .i64 (N : Int)) := cell_at hT0 rfl
        have qhT1_0 : w13.cell? ⟨w.heap.size + 1, 0, none⟩ = some (.int .i64 u.ring) := cell_at hT1 rfl
        have qhT1_1 : w13.cell? ⟨w.heap.size + 1, 1, none⟩ = some (.int .i64 u.speed) := cell_at hT1 rfl
        have qhT1_2 : w13.cell? ⟨w.heap.size + 1, 2, none⟩ = some (.int .i64 u.loss) := cell_at hT1 rfl
        have qhT1_3 : w13.cell? ⟨w.heap.size + 1, 3, none⟩ = some (.int .i64 u.clear) := cell_at hT1 rfl
        have qhT1_4 : w13.cell? ⟨w.heap.size + 1, 4, none⟩ = some (.int .i64 u.soft) := cell_at hT1 rfl
        have qhT1_5 : w13.cell? ⟨w.heap.size + 1, 5, none⟩ = some (.slice A M cap) := cell_at hT1 rfl
        have qhT2_0 : w13.cell? ⟨w.heap.size + 1 + 1, 0, none⟩ = some (.slice S SM scap) := cell_at hT2 rfl
        have qhT2_1 : w13.cell? ⟨w.heap.size + 1 + 1, 1, none⟩ = some (.slice G gn gcap) := cell_at hT2 rfl
        have qhT2_2 : w13.cell? ⟨w.heap.size + 1 + 1, 2, none⟩ = some (.int .i64 (TK : Int)) := cell_at hT2 rfl
        have qt9_0 : w13.cell? ⟨bt9, 0, none⟩ = some (.int .i64 u.ring) := cell_at t9 rfl
        have qt9_1 : w13.cell? ⟨bt9, 1, none⟩ = some (.int .i64 u.speed) := cell_at t9 rfl
        have qt9_2 : w13.cell? ⟨bt9, 2, none⟩ = some (.int .i64 u.loss) := cell_at t9 rfl
        have qt9_3 : w13.cell? ⟨bt9, 3, none⟩ = some (.int .i64 u.clear) := cell_at t9 rfl
        have qt9_4 : w13.cell? ⟨bt9, 4, none⟩ = some (.int .i64 u.soft) := cell_at t9 rfl
        have qt16_0 : w13.cell? ⟨b16, 0, none⟩ = some (.int .i64 (v.sx + 7)) := cell_at t16 rfl
        have qt16_1 : w13.cell? ⟨b16, 1, none⟩ = some (.int .i64 (v.sy - 9)) := cell_at t16 rfl
        have qt16_2 : w13.cell? ⟨b16, 2, none⟩ = some (.int .i64 v.dx) := cell_at t16 rfl
        have qt16_3 : w13.cell? ⟨b16, 3, none⟩ = some (.int .i64 v.dy) := cell_at t16 rfl
        have qt16_4 : w13.cell? ⟨b16, 4, none⟩ = some (.int .i64 (N : Int)) := cell_at t16 rfl
        go_wp2
        clear qhT0_0 qhT0_1 qhT0_2 qhT0_3 qhT0_4 qhT1_0 qhT1_1 qhT1_2 qhT1_3 qhT1_4 qhT1_5 qhT2_0 qhT2_1 qhT2_2 qt9_0 qt9_1 qt9_2 qt9_3 qt9_4 qt16_0 qt16_1 qt16_2 qt16_3 qt16_4
        go_loopw [17, 170] (fun x i wr => ∃ k : Nat, k ≤ M ∧ i = .int .i64 k ∧ wr.ownsRow w13.heap.size 104 3 x k (((l.map Mo.moveS).take k).flatMap Sgt.enc) ∧ Below w13.heap.size w13 wr) (fun _ i _ => M - (intOf i).toNat)
        case atStart => exact ⟨0, Nat.zero_le _, rfl, World.ownsRow_nil _ _ _ _, Below.refl _ _⟩
        case round =>
          obtain ⟨k, hk, rfl, hown, hBk⟩ := hrel
          obtain ⟨w14, hww⟩ : ∃ W, W = wr := ⟨_, rfl⟩
          rw [← hww] at hBk hown ⊢
          clear hww
          have hB14 := hB13.call hBk rfl
          replace hT0 := blkb hT0 hBk
          replace hT1 := blkb hT1 hBk
          replace hT2 := blkb hT2 hBk
          replace H := H.below hBk
          replace HS := HS.below hBk
          replace h5 := blkb h5 hBk
          replace t9 := blkb t9 hBk
          replace t16 := blkb t16 hBk
          clear hB13
          by_cases hkm : k < M
          · as_aux_lemma =>
              obtain ⟨b, off, s, rfl, hx, hb, hc⟩ := RdL.at (show RdL w14 3 Sgt.enc A l by unfold RdL; rw [← HM.out]; exact H) Sgt.len (by rw [← HM.out]; exact hkm)
              have s0 : w14.cell? ⟨b, off + k * 3, none⟩ = some (.int .i64 s.t) := hc 0 (by omega)
              have s1 : w14.cell? ⟨b, off + k * 3 + 1, none⟩ = some (.int .i64 s.x) := hc 1 (by omega)
              have s2 : w14.cell? ⟨b, off + k * 3 + 2, none⟩ = some (.int .i64 s.y) := hc 2 (by omega)
              have hso := HSO.out s (List.mem_of_getElem? hx)
              have hsx := hso.x
              have hsy := hso.y
              have hwx : IntKind.i64.wrap (s.x + 7) = s.x + 7 := wrapI72 _ (by omega) (by omega)
              have hwy : IntKind.i64.wrap (s.y - 9) = s.y - 9 := wrapI72 _ (by omega) (by omega)
              have hst : Hid (((l.map Mo.moveS).take (k + 1)).flatMap Sgt.enc = ((l.map Mo.moveS).take k).flatMap Sgt.enc ++ [.int .i64 s.t, .int .i64 (s.x + 7), .int .i64 (s.y - 9)]) := by
                show _ = _
                have e : (l.map Mo.moveS)[k]? = some (Mo.moveS s) := by rw [List.getElem?_map, hx]; rfl
                obtain ⟨hk', e2⟩ := List.getElem?_eq_some_iff.1 e
                rw [List.take_succ_eq_append_getElem hk', List.flatMap_append, e2]
                rfl
              clear hc hx hso
              have hQ : Below w14.heap.size w14 w14 := Below.refl _ _
              have hz : (w14.alloc (Obj.cells #[.int .i64 0, .int .i64 0, .int .i64 0] 104)).heap[w14.heap.size]? = some (Obj.cells #[.int .i64 0, .int .i64 0, .int .i64 0] 104) := heap_new rfl
              go_wp2_with (refine wpList_store_blk rfl 104 _ _ rfl w14.heap.size _ rfl rfl hz ?s1 ?s2 ?s3 ?_)
              case s1 => rfl
              case s2 => kernel_rfl
              case s3 => simp [Value.oneCell']
              intro w15 t19 hg3 hs3
              have hS := ((Below.refl _ _).alloc (Nat.le_refl _) _).grown hg3 (by simp) (fun j hj => by cases hj; exact Nat.le_refl _)
              have hB15 := hB14.call hS rfl
              replace hT0 := blkb hT0 hS
              replace hT1 := blkb hT1 hS
              replace hT2 := blkb hT2 hS
              replace H := H.below hS
              replace HS := HS.below hS
              replace h5 := blkb h5 hS
              replace t9 := blkb t9 hS
              replace t16 := blkb t16 hS
              replace hBk := hBk.call hS rfl
              replace hQ := hQ.call hS rfl
              clear hS hB14
              have qhT0_0 : w15.cell? ⟨w.heap.size, 0, none⟩ = some (.int .i64 v.sx) := cell_at hT0 rfl
              have qhT0_1 : w15.cell? ⟨w.heap.size, 1, none⟩ = some (.int .i64 v.sy) := cell_at hT0 rfl
              have qhT0_2 : w15.cell? ⟨w.heap.size, 2, none⟩ = some (.int .i64 v.dx) := cell_at hT0 rfl
              have qhT0_3 : w15.cell? ⟨w.heap.size, 3, none⟩ = some (.int .i64 v.dy) := cell_at hT0 rfl
              have qhT0_4 : w15.cell? ⟨w.heap.size, 4, none⟩ = some (.int .i64 (N : Int)) := cell_at hT0 rfl
              have qhT1_0 : w15.cell? ⟨w.heap.size + 1, 0, none⟩ = some (.int .i64 u.ring) := cell_at hT1 rfl
              have qhT1_1 : w15.cell? ⟨w.heap.size + 1, 1, none⟩ = some (.int .i64 u.speed) := cell_at hT1 rfl
              have qhT1_2 : w15.cell? ⟨w.heap.size + 1, 2, none⟩ = some (.int .i64 u.loss) := cell_at hT1 rfl
              have qhT1_3 : w15.cell? ⟨w.heap.size + 1, 3, none⟩ = some (.int .i64 u.clear) := cell_at hT1 rfl
              have qhT1_4 : w15.cell? ⟨w.heap.size + 1, 4, none⟩ = some (.int .i64 u.soft) := cell_at hT1 rfl
              have qhT1_5 : w15.cell? ⟨w.heap.size + 1, 5, none⟩ = some (.slice (some ⟨b, off, none⟩) M cap) := cell_at hT1 rfl
              have qhT2_0 : w15.cell? ⟨w.heap.size + 1 + 1, 0, none⟩ = some (.slice S SM scap) := cell_at hT2 rfl
              have qhT2_1 : w15.cell? ⟨w.heap.size + 1 + 1, 1, none⟩ = some (.slice G gn gcap) := cell_at hT2 rfl
              have qhT2_2 : w15.cell? ⟨w.heap.size + 1 + 1, 2, none⟩ = some (.int .i64 (TK : Int)) := cell_at hT2 rfl
              have qt9_0 : w15.cell? ⟨bt9, 0, none⟩ = some (.int .i64 u.ring) := cell_at t9 rfl
              have qt9_1 : w15.cell? ⟨bt9, 1, none⟩ = some (.int .i64 u.speed) := cell_at t9 rfl
              have qt9_2 : w15.cell? ⟨bt9, 2, none⟩ = some (.int .i64 u.loss) := cell_at t9 rfl
              have qt9_3 : w15.cell? ⟨bt9, 3, none⟩ = some (.int .i64 u.clear) := cell_at t9 rfl
              have qt9_4 : w15.cell? ⟨bt9, 4, none⟩ = some (.int .i64 u.soft) := cell_at t9 rfl
              have qt16_0 : w15.cell? ⟨b16, 0, none⟩ = some (.int .i64 (v.sx + 7)) := cell_at t16 rfl
              have qt16_1 : w15.cell? ⟨b16, 1, none⟩ = some (.int .i64 (v.sy - 9)) := cell_at t16 rfl
              have qt16_2 : w15.cell? ⟨b16, 2, none⟩ = some (.int .i64 v.dx) := cell_at t16 rfl
              have qt16_3 : w15.cell? ⟨b16, 3, none⟩ = some (.int .i64 v.dy) := cell_at t16 rfl
              have qt16_4 : w15.cell? ⟨b16, 4, none⟩ = some (.int .i64 (N : Int)) := cell_at t16 rfl
              clear hz hg3 hs3
              obtain ⟨bt19, hbt19⟩ : ∃ b, b = w14.heap.size := ⟨_, rfl⟩
              rw [← hbt19] at t19 ⊢
              clear hbt19
              clear qhT0_0 qhT0_1 qhT0_2 qhT0_3 qhT0_4 qhT1_0 qhT1_1 qhT1_2 qhT1_3 qhT1_4 qhT1_5 qhT2_0 qhT2_1 qhT2_2 qt9_0 qt9_1 qt9_2 qt9_3 qt9_4 qt16_0 qt16_1 qt16_2 qt16_3 qt16_4
              have qhT0_0 : w15.cell? ⟨w.heap.size, 0, none⟩ = some (.int .i64 v.sx) := cell_at hT0 rfl
              have qhT0_1 : w15.cell? ⟨w.heap.size, 1, none⟩ = some (.int .i64 v.sy) := cell_at hT0 rfl
              have qhT0_2 : w15.cell? ⟨w.heap.size, 2, none⟩ = some (.int .i64 v.dx) := cell_at hT0 rfl
              have qhT0_3 : w15.cell? ⟨w.heap.size, 3, none⟩ = some (.int .i64 v.dy) := cell_at hT0 rfl
              have qhT0_4 : w15.cell? ⟨w.heap.size, 4, none⟩ = some (.int .i64 (N : Int)) := cell_at hT0 rfl
              have qhT1_0 : w15.cell? ⟨w.heap.size + 1, 0, none⟩ = some (.int .i64 u.ring) := cell_at hT1 rfl
              have qhT1_1 : w15.cell? ⟨w.heap.size + 1, 1, none⟩ = some (.int .i64 u.speed) := cell_at hT1 rfl
              have qhT1_2 : w15.cell? ⟨w.heap.size + 1, 2, none⟩ = some (.int .i64 u.loss) := cell_at hT1 rfl
              have qhT1_3 : w15.cell? ⟨w.heap.size + 1, 3, none⟩ = some (.int .i64 u.clear) := cell_at hT1 rfl
              have qhT1_4 : w15.cell? ⟨w.heap.size + 1, 4, none⟩ = some (.int .i64 u.soft) := cell_at hT1 rfl
              have qhT1_5 : w15.cell? ⟨w.heap.size + 1, 5, none⟩ = some (.slice (some ⟨b, off, none⟩) M cap) := cell_at hT1 rfl
              have qhT2_0 : w15.cell? ⟨w.heap.size + 1 + 1, 0, none⟩ = some (.slice S SM scap) := cell_at hT2 rfl
              have qhT2_1 : w15.cell? ⟨w.heap.size + 1 + 1, 1, none⟩ = some (.slice G gn gcap) := cell_at hT2 rfl
              have qhT2_2 : w15.cell? ⟨w.heap.size + 1 + 1, 2, none⟩ = some (.int .i64 (TK : Int)) := cell_at hT2 rfl
              have qt9_0 : w15.cell? ⟨bt9, 0, none⟩ = some (.int .i64 u.ring) := cell_at t9 rfl
              have qt9_1 : w15.cell? ⟨bt9, 1, none⟩ = some (.int .i64 u.speed) := cell_at t9 rfl
              have qt9_2 : w15.cell? ⟨bt9, 2, none⟩ = some (.int .i64 u.loss) := cell_at t9 rfl
              have qt9_3 : w15.cell? ⟨bt9, 3, none⟩ = some (.int .i64 u.clear) := cell_at t9 rfl
              have qt9_4 : w15.cell? ⟨bt9, 4, none⟩ = some (.int .i64 u.soft) := cell_at t9 rfl
              have qt16_0 : w15.cell? ⟨b16, 0, none⟩ = some (.int .i64 (v.sx + 7)) := cell_at t16 rfl
              have qt16_1 : w15.cell? ⟨b16, 1, none⟩ = some (.int .i64 (v.sy - 9)) := cell_at t16 rfl
              have qt16_2 : w15.cell? ⟨b16, 2, none⟩ = some (.int .i64 v.dx) := cell_at t16 rfl
              have qt16_3 : w15.cell? ⟨b16, 3, none⟩ = some (.int .i64 v.dy) := cell_at t16 rfl
              have qt16_4 : w15.cell? ⟨b16, 4, none⟩ = some (.int .i64 (N : Int)) := cell_at t16 rfl
              have qt19_0 : w15.cell? ⟨bt19, 0, none⟩ = some (.int .i64 s.t) := cell_at t19 rfl
              have qt19_1 : w15.cell? ⟨bt19, 1, none⟩ = some (.int .i64 s.x) := cell_at t19 rfl
              have qt19_2 : w15.cell? ⟨bt19, 2, none⟩ = some (.int .i64 s.y) := cell_at t19 rfl
              have hown1 := own_below hown hQ
              clear hown
              have hsz := hBk.size
              go_wp2_with (at_builtin; refine wpList_append_own _ rfl _ _ 28 rfl w13.heap.size 104 i0 (.agg #[.int .i64 0, .int .i64 0, .int .i64 0]) 3 24 Tryz.underlying28 hi hz0 hz1 hz2 rfl (by decide) _ _ _ rfl (hown1.alloc _) ⟨w15.heap.size, 0, none⟩ 1 1 [.int .i64 s.t, .int .i64 (s.x + 7), .int .i64 (s.y - 9)] rfl rfl (news_one _ _ (by simp)) (by intro x hx; simp at hx; first | (subst hx; rfl) | (rcases hx with rfl | rfl <;> rfl) | (rcases hx with rfl | rfl | rfl <;> rfl)) (by unfold maxLen; omega) (by omega) (by simp; omega) ?_)
              intro x' w3 hown3 hg3 _
              have hB3 : Below w13.heap.size w13 w3 := (hBk.alloc hBk.size _).grown hg3 (by simp; omega) (fun g hg => (hown1.lt g hg).1)
              have hown4 : w3.ownsRow w13.heap.size 104 3 x' (k + 1) (((l.map Mo.moveS).take (k + 1)).flatMap Sgt.enc) := by
                rw [hst.out]
                exact hown3
              have HO := Lib.hid hown4
              clear hown4 hown3 hg3 hown1
              go_wp2
              go_roundw
              case rel => exact ⟨k + 1, by omega, by go_num, HO.out, hB3⟩
              case measure => simp [intOf]; omega
          · as_aux_lemma =>
              obtain rfl : M = k := by omega
              clear hkm
              have hown' := hown
              rw [List.take_of_length_le (by rw [List.length_map, ← HM.out]; exact Nat.le_refl _)] at hown'
              obtain ⟨FA, FC, hfx, hf⟩ := Sl.of_own hown'
              clear hown hown'
              subst hfx
              clear hBk
              have qhT0_0 : w14.cell? ⟨w.heap.size, 0, none⟩ = some (.int .i64 v.sx) := cell_at hT0 rfl
              have qhT0_1 : w14.cell? ⟨w.heap.size, 1, none⟩ = some (.int .i64 v.sy) := cell_at hT0 rfl
              have qhT0_2 : w14.cell? ⟨w.heap.size, 2, none⟩ = some (.int .i64 v.dx) := cell_at hT0 rfl
              have qhT0_3 : w14.cell? ⟨w.heap.size, 3, none⟩ = some (.int .i64 v.dy) := cell_at hT0 rfl
              have qhT0_4 : w14.cell? ⟨w.heap.size, 4, none⟩ = some (.int .i64 (N : Int)) := cell_at hT0 rfl
              have qhT1_0 : w14.cell? ⟨w.heap.size + 1, 0, none⟩ = some (.int .i64 u.ring) := cell_at hT1 rfl
              have qhT1_1 : w14.cell? ⟨w.heap.size + 1, 1, none⟩ = some (.int .i64 u.speed) := cell_at hT1 rfl
              have qhT1_2 : w14.cell? ⟨w.heap.size + 1, 2, none⟩ = some (.int .i64 u.loss) := cell_at hT1 rfl
              have qhT1_3 : w14.cell? ⟨w.heap.size + 1, 3, none⟩ = some (.int .i64 u.clear) := cell_at hT1 rfl
              have qhT1_4 : w14.cell? ⟨w.heap.size + 1, 4, none⟩ = some (.int .i64 u.soft) := cell_at hT1 rfl
              have qhT1_5 : w14.cell? ⟨w.heap.size + 1, 5, none⟩ = some (.slice A M cap) := cell_at hT1 rfl
              have qhT2_0 : w14.cell? ⟨w.heap.size + 1 + 1, 0, none⟩ = some (.slice S SM scap) := cell_at hT2 rfl
              have qhT2_1 : w14.cell? ⟨w.heap.size + 1 + 1, 1, none⟩ = some (.slice G gn gcap) := cell_at hT2 rfl
              have qhT2_2 : w14.cell? ⟨w.heap.size + 1 + 1, 2, none⟩ = some (.int .i64 (TK : Int)) := cell_at hT2 rfl
              have qt9_0 : w14.cell? ⟨bt9, 0, none⟩ = some (.int .i64 u.ring) := cell_at t9 rfl
              have qt9_1 : w14.cell? ⟨bt9, 1, none⟩ = some (.int .i64 u.speed) := cell_at t9 rfl
              have qt9_2 : w14.cell? ⟨bt9, 2, none⟩ = some (.int .i64 u.loss) := cell_at t9 rfl
              have qt9_3 : w14.cell? ⟨bt9, 3, none⟩ = some (.int .i64 u.clear) := cell_at t9 rfl
              have qt9_4 : w14.cell? ⟨bt9, 4, none⟩ = some (.int .i64 u.soft) := cell_at t9 rfl
              have qt16_0 : w14.cell? ⟨b16, 0, none⟩ = some (.int .i64 (v.sx + 7)) := cell_at t16 rfl
              have qt16_1 : w14.cell? ⟨b16, 1, none⟩ = some (.int .i64 (v.sy - 9)) := cell_at t16 rfl
              have qt16_2 : w14.cell? ⟨b16, 2, none⟩ = some (.int .i64 v.dx) := cell_at t16 rfl
              have qt16_3 : w14.cell? ⟨b16, 3, none⟩ = some (.int .i64 v.dy) := cell_at t16 rfl
              have qt16_4 : w14.cell? ⟨b16, 4, none⟩ = some (.int .i64 (N : Int)) := cell_at t16 rfl
              obtain ⟨E2, hE2⟩ : ∃ x, x = Mo.all (Mo.moveV v) u (l.map Mo.moveS) := ⟨_, rfl⟩
              have h20m := fun w1 (H1 : RdS w1 3 FA M ((l.map Mo.moveS).flatMap Sgt.enc)) => c20 (Mo.moveV v) u FA FC (l.map Mo.moveS) w1 (by rw [List.length_map, ← HM.out]; omega) (by unfold RdL; rw [List.length_map, ← HM.out]; exact H1)
              rw [List.length_map, ← HM.out, ← hE2, show (Mo.moveV v).n = (N : Int) from HN.out] at h20m
              have H20M := Lib.hid h20m
              clear h20m
              go_wp2_with fail
              refine (H20M.out _ hf).mono ?_
              rintro e w15 ⟨rfl, hb⟩
              clear qhT0_0 qhT0_1 qhT0_2 qhT0_3 qhT0_4 qhT1_0 qhT1_1 qhT1_2 qhT1_3 qhT1_4 qhT1_5 qhT2_0 qhT2_1 qhT2_2 qt9_0 qt9_1 qt9_2 qt9_3 qt9_4 qt16_0 qt16_1 qt16_2 qt16_3 qt16_4
              have hS := hb
              have hB15 := hB14.call hS rfl
              replace hT0 := blkb hT0 hS
              replace hT1 := blkb hT1 hS
              replace hT2 := blkb hT2 hS
              replace H := H.below hS
              replace HS := HS.below hS
              replace h5 := blkb h5 hS
              replace t9 := blkb t9 hS
              replace t16 := blkb t16 hS
              replace hf := hf.below hS
              clear hS hB14
              have qhT0_0 : w15.cell? ⟨w.heap.size, 0, none⟩ = some (.int .i64 v.sx) := cell_at hT0 rfl
              have qhT0_1 : w15.cell? ⟨w.heap.size, 1, none⟩ = some (.int .i64 v.sy) := cell_at hT0 rfl
              have qhT0_2 : w15.cell? ⟨w.heap.size, 2, none⟩ = some (.int .i64 v.dx) := cell_at hT0 rfl
              have qhT0_3 : w15.cell? ⟨w.heap.size, 3, none⟩ = some (.int .i64 v.dy) := cell_at hT0 rfl
              have qhT0_4 : w15.cell? ⟨w.heap.size, 4, none⟩ = some (.int .i64 (N : Int)) := cell_at hT0 rfl
              have qhT1_0 : w15.cell? ⟨w.heap.size + 1, 0, none⟩ = some (.int .i64 u.ring) := cell_at hT1 rfl
              have qhT1_1 : w15.cell? ⟨w.heap.size + 1, 1, none⟩ = some (.int .i64 u.speed) := cell_at hT1 rfl
              have qhT1_2 : w15.cell? ⟨w.heap.size + 1, 2, none⟩ = some (.int .i64 u.loss) := cell_at hT1 rfl
              have qhT1_3 : w15.cell? ⟨w.heap.size + 1, 3, none⟩ = some (.int .i64 u.clear) := cell_at hT1 rfl
              have qhT1_4 : w15.cell? ⟨w.heap.size + 1, 4, none⟩ = some (.int .i64 u.soft) := cell_at hT1 rfl
              have qhT1_5 : w15.cell? ⟨w.heap.size + 1, 5, none⟩ = some (.slice A M cap) := cell_at hT1 rfl
              have qhT2_0 : w15.cell? ⟨w.heap.size + 1 + 1, 0, none⟩ = some (.slice S SM scap) := cell_at hT2 rfl
              have qhT2_1 : w15.cell? ⟨w.heap.size + 1 + 1, 1, none⟩ = some (.slice G gn gcap) := cell_at hT2 rfl
              have qhT2_2 : w15.cell? ⟨w.heap.size + 1 + 1, 2, none⟩ = some (.int .i64 (TK : Int)) := cell_at hT2 rfl
              have qt9_0 : w15.cell? ⟨bt9, 0, none⟩ = some (.int .i64 u.ring) := cell_at t9 rfl
              have qt9_1 : w15.cell? ⟨bt9, 1, none⟩ = some (.int .i64 u.speed) := cell_at t9 rfl
              have qt9_2 : w15.cell? ⟨bt9, 2, none⟩ = some (.int .i64 u.loss) := cell_at t9 rfl
              have qt9_3 : w15.cell? ⟨bt9, 3, none⟩ = some (.int .i64 u.clear) := cell_at t9 rfl
              have qt9_4 : w15.cell? ⟨bt9, 4, none⟩ = some (.int .i64 u.soft) := cell_at t9 rfl
              have qt16_0 : w15.cell? ⟨b16, 0, none⟩ = some (.int .i64 (v.sx + 7)) := cell_at t16 rfl
              have qt16_1 : w15.cell? ⟨b16, 1, none⟩ = some (.int .i64 (v.sy - 9)) := cell_at t16 rfl
              have qt16_2 : w15.cell? ⟨b16, 2, none⟩ = some (.int .i64 v.dx) := cell_at t16 rfl
              have qt16_3 : w15.cell? ⟨b16, 3, none⟩ = some (.int .i64 v.dy) := cell_at t16 rfl
              have qt16_4 : w15.cell? ⟨b16, 4, none⟩ = some (.int .i64 (N : Int)) := cell_at t16 rfl
              clear hb
              by_cases hE : E2 = 0
              · as_aux_lemma =>
                  have hE3 := hE2.symm.trans hE
                  have hq : (E2 == 0) = true := by simpa using hE
                  have HE3 := Lib.hid hE3
                  clear hE hE2 hE3
                  go_wp2_with fail
                  refine (H50.out (Mo.moveV v) u (l.map Mo.moveS) _ FA M FC HN.out (by rw [List.length_map]; exact HM.out) hf HE3.out).mono ?_
                  rintro e w16 ⟨gm, rfl, hm0, hb⟩
                  clear qhT0_0 qhT0_1 qhT0_2 qhT0_3 qhT0_4 qhT1_0 qhT1_1 qhT1_2 qhT1_3 qhT1_4 qhT1_5 qhT2_0 qhT2_1 qhT2_2 qt9_0 qt9_1 qt9_2 qt9_3 qt9_4 qt16_0 qt16_1 qt16_2 qt16_3 qt16_4
                  have hS := hb
                  have hB16 := hB15.call hS rfl
                  replace hT0 := blkb hT0 hS
                  replace hT1 := blkb hT1 hS
                  replace hT2 := blkb hT2 hS
                  replace H := H.below hS
                  replace HS := HS.below hS
                  replace h5 := blkb h5 hS
                  replace t9 := blkb t9 hS
                  replace t16 := blkb t16 hS
                  replace hf := hf.below hS
                  clear hS hB15
                  have qhT0_0 : w16.cell? ⟨w.heap.size, 0, none⟩ = some (.int .i64 v.sx) := cell_at hT0 rfl
                  have qhT0_1 : w16.cell? ⟨w.heap.size, 1, none⟩ = some (.int .i64 v.sy) := cell_at hT0 rfl
                  have qhT0_2 : w16.cell? ⟨w.heap.size, 2, none⟩ = some (.int .i64 v.dx) := cell_at hT0 rfl
                  have qhT0_3 : w16.cell? ⟨w.heap.size, 3, none⟩ = some (.int .i64 v.dy) := cell_at hT0 rfl
                  have qhT0_4 : w16.cell? ⟨w.heap.size, 4, none⟩ = some (.int .i64 (N : Int)) := cell_at hT0 rfl
                  have qhT1_0 : w16.cell? ⟨w.heap.size + 1, 0, none⟩ = some (.int .i64 u.ring) := cell_at hT1 rfl
                  have qhT1_1 : w16.cell? ⟨w.heap.size + 1, 1, none⟩ = some (.int .i64 u.speed) := cell_at hT1 rfl
                  have qhT1_2 : w16.cell? ⟨w.heap.size + 1, 2, none⟩ = some (.int .i64 u.loss) := cell_at hT1 rfl
                  have qhT1_3 : w16.cell? ⟨w.heap.size + 1, 3, none⟩ = some (.int .i64 u.clear) := cell_at hT1 rfl
                  have qhT1_4 : w16.cell? ⟨w.heap.size + 1, 4, none⟩ = some (.int .i64 u.soft) := cell_at hT1 rfl
                  have qhT1_5 : w16.cell? ⟨w.heap.size + 1, 5, none⟩ = some (.slice A M cap) := cell_at hT1 rfl
                  have qhT2_0 : w16.cell? ⟨w.heap.size + 1 + 1, 0, none⟩ = some (.slice S SM scap) := cell_at hT2 rfl
                  have qhT2_1 : w16.cell? ⟨w.heap.size + 1 + 1, 1, none⟩ = some (.slice G gn gcap) := cell_at hT2 rfl
                  have qhT2_2 : w16.cell? ⟨w.heap.size + 1 + 1, 2, none⟩ = some (.int .i64 (TK : Int)) := cell_at hT2 rfl
                  have qt9_0 : w16.cell? ⟨bt9, 0, none⟩ = some (.int .i64 u.ring) := cell_at t9 rfl
                  have qt9_1 : w16.cell? ⟨bt9, 1, none⟩ = some (.int .i64 u.speed) := cell_at t9 rfl
                  have qt9_2 : w16.cell? ⟨bt9, 2, none⟩ = some (.int .i64 u.loss) := cell_at t9 rfl
                  have qt9_3 : w16.cell? ⟨bt9, 3, none⟩ = some (.int .i64 u.clear) := cell_at t9 rfl
                  have qt9_4 : w16.cell? ⟨bt9, 4, none⟩ = some (.int .i64 u.soft) := cell_at t9 rfl
                  have qt16_0 : w16.cell? ⟨b16, 0, none⟩ = some (.int .i64 (v.sx + 7)) := cell_at t16 rfl
                  have qt16_1 : w16.cell? ⟨b16, 1, none⟩ = some (.int .i64 (v.sy - 9)) := cell_at t16 rfl
                  have qt16_2 : w16.cell? ⟨b16, 2, none⟩ = some (.int .i64 v.dx) := cell_at t16 rfl
                  have qt16_3 : w16.cell? ⟨b16, 3, none⟩ = some (.int .i64 v.dy) := cell_at t16 rfl
                  have qt16_4 : w16.cell? ⟨b16, 4, none⟩ = some (.int .i64 (N : Int)) := cell_at t16 rfl
                  clear hb
                  rw [Mo.levels_moved] at hm0
                  have hLN : (Mo.levels v u l).length = N := by simp [Mo.levels, HN.out]
                  have h31 := fun w1 (H1 : w1.heap[gm]? = some (.cells ((Mo.levels v u l).map (Value.int .i64)).toArray 3 (0, 0))) (H2 : w1.heap[g5]? = some (.cells ((Mo.levels v u l).map (Value.int .i64)).toArray 3 (0, 0))) => c31 (some ⟨gm, 0, none⟩) (some ⟨g5, 0, none⟩) N N (Mo.levels v u l) w1 (by rw [hLN]; omega) (RdS.of_block H1 (by simp)) (RdS.of_block H2 (by simp))
                  rw [hLN] at h31
                  have H31 := Lib.hid h31
                  clear h31 hLN
                  go_wp2_with fail
                  refine (H31.out _ hm0 h5).mono ?_
                  rintro e w17 ⟨rfl, hb⟩
                  clear qhT0_0 qhT0_1 qhT0_2 qhT0_3 qhT0_4 qhT1_0 qhT1_1 qhT1_2 qhT1_3 qhT1_4 qhT1_5 qhT2_0 qhT2_1 qhT2_2 qt9_0 qt9_1 qt9_2 qt9_3 qt9_4 qt16_0 qt16_1 qt16_2 qt16_3 qt16_4
                  have hS := hb
                  have hB17 := hB16.call hS rfl
                  replace hT0 := blkb hT0 hS
                  replace hT1 := blkb hT1 hS
                  replace hT2 := blkb hT2 hS
                  replace H := H.below hS
                  replace HS := HS.below hS
                  replace h5 := blkb h5 hS
                  replace t9 := blkb t9 hS
                  replace t16 := blkb t16 hS
                  replace hf := hf.below hS
                  replace hm0 := blkb hm0 hS
                  clear hS hB16
                  have qhT0_0 : w17.cell? ⟨w.heap.size, 0, none⟩ = some (.int .i64 v.sx) := cell_at hT0 rfl
                  have qhT0_1 : w17.cell? ⟨w.heap.size, 1, none⟩ = some (.int .i64 v.sy) := cell_at hT0 rfl
                  have qhT0_2 : w17.cell? ⟨w.heap.size, 2, none⟩ = some (.int .i64 v.dx) := cell_at hT0 rfl
                  have qhT0_3 : w17.cell? ⟨w.heap.size, 3, none⟩ = some (.int .i64 v.dy) := cell_at hT0 rfl
                  have qhT0_4 : w17.cell? ⟨w.heap.size, 4, none⟩ = some (.int .i64 (N : Int)) := cell_at hT0 rfl
                  have qhT1_0 : w17.cell? ⟨w.heap.size + 1, 0, none⟩ = some (.int .i64 u.ring) := cell_at hT1 rfl
                  have qhT1_1 : w17.cell? ⟨w.heap.size + 1, 1, none⟩ = some (.int .i64 u.speed) := cell_at hT1 rfl
                  have qhT1_2 : w17.cell? ⟨w.heap.size + 1, 2, none⟩ = some (.int .i64 u.loss) := cell_at hT1 rfl
                  have qhT1_3 : w17.cell? ⟨w.heap.size + 1, 3, none⟩ = some (.int .i64 u.clear) := cell_at hT1 rfl
                  have qhT1_4 : w17.cell? ⟨w.heap.size + 1, 4, none⟩ = some (.int .i64 u.soft) := cell_at hT1 rfl
                  have qhT1_5 : w17.cell? ⟨w.heap.size + 1, 5, none⟩ = some (.slice A M cap) := cell_at hT1 rfl
                  have qhT2_0 : w17.cell? ⟨w.heap.size + 1 + 1, 0, none⟩ = some (.slice S SM scap) := cell_at hT2 rfl
                  have qhT2_1 : w17.cell? ⟨w.heap.size + 1 + 1, 1, none⟩ = some (.slice G gn gcap) := cell_at hT2 rfl
                  have qhT2_2 : w17.cell? ⟨w.heap.size + 1 + 1, 2, none⟩ = some (.int .i64 (TK : Int)) := cell_at hT2 rfl
                  have qt9_0 : w17.cell? ⟨bt9, 0, none⟩ = some (.int .i64 u.ring) := cell_at t9 rfl
                  have qt9_1 : w17.cell? ⟨bt9, 1, none⟩ = some (.int .i64 u.speed) := cell_at t9 rfl
                  have qt9_2 : w17.cell? ⟨bt9, 2, none⟩ = some (.int .i64 u.loss) := cell_at t9 rfl
                  have qt9_3 : w17.cell? ⟨bt9, 3, none⟩ = some (.int .i64 u.clear) := cell_at t9 rfl
                  have qt9_4 : w17.cell? ⟨bt9, 4, none⟩ = some (.int .i64 u.soft) := cell_at t9 rfl
                  have qt16_0 : w17.cell? ⟨b16, 0, none⟩ = some (.int .i64 (v.sx + 7)) := cell_at t16 rfl
                  have qt16_1 : w17.cell? ⟨b16, 1, none⟩ = some (.int .i64 (v.sy - 9)) := cell_at t16 rfl
                  have qt16_2 : w17.cell? ⟨b16, 2, none⟩ = some (.int .i64 v.dx) := cell_at t16 rfl
                  have qt16_3 : w17.cell? ⟨b16, 3, none⟩ = some (.int .i64 v.dy) := cell_at t16 rfl
                  have qt16_4 : w17.cell? ⟨b16, 4, none⟩ = some (.int .i64 (N : Int)) := cell_at t16 rfl
                  clear hb
                  clear hm0
                  clear hq
                  go_wp2
                  clear hf
                  obtain ⟨P, hP⟩ : ∃ P, P = Mo.window v u l sh TK := ⟨_, rfl⟩
                  have hPw := Mo.window_facts (K := TK) HALL.out HSP.out (by omega) (by omega)
                  rw [← hP] at hPw
                  have h17 := fun w1 (H1 : RdS w1 3 A M (l.flatMap Sgt.enc)) => c17 A cap l w1 (by rw [← HM.out]; omega) (by unfold RdL; rw [← HM.out]; exact H1)
                  have h39 := fun w1 (H1 : RdS w1 2 S SM (sh.flatMap Spn.enc)) => c39 S scap sh w1 (by rw [← HSM.out]; omega) (by unfold RdL; rw [← HSM.out]; exact H1) HS0.out
                  have h38 := fun w1 (tk : Int) AT CT AS CS (H1 : RdS w1 3 AT M (l.flatMap Sgt.enc)) (H2 : RdS w1 2 AS SM (sh.flatMap Spn.enc)) P hP => u38 v u AT CT l AS CS sh tk w1 (by rw [← HM.out]; omega) (by unfold RdL; rw [← HM.out]; exact H1) (by rw [← HSM.out]; omega) (by unfold RdL; rw [← HSM.out]; exact H2) P hP
                  rw [← HM.out] at h17 h38
                  rw [← HSM.out] at h39 h38
                  rw [HN.out] at h38
                  have H17 := Lib.hid h17
                  have H39 := Lib.hid h39
                  have H38 := Lib.hid h38
                  have HP := Lib.hid hP
                  have HPW := Lib.hid hPw
                  clear h17 h39 h38 hP hPw
                  refine wp_region_plan [(0, true), (1, true), (2, true), (3, true), (5, true), (6, true), (8, true), (9, true), (4, false), (7, false), (10, false), (11, true), (12, true), (13, true), (14, true), (15, true)] w17.heap.size (by kernel_rfl) (by kernel_rfl) (Nat.le_refl _) (fun _ _ d _ _ h => by cases d <;> exact h) ?_
                  have hC : Below w17.heap.size w17 w17 := Below.refl _ _
                  have zhT0 : w.heap.size < w17.heap.size := (Array.getElem?_eq_some_iff.1 hT0).1
                  have zhT1 : w.heap.size + 1 < w17.heap.size := (Array.getElem?_eq_some_iff.1 hT1).1
                  have zhT2 : w.heap.size + 1 + 1 < w17.heap.size := (Array.getElem?_eq_some_iff.1 hT2).1
                  have zt9 : bt9 < w17.heap.size := (Array.getElem?_eq_some_iff.1 t9).1
                  have zt16 : b16 < w17.heap.size := (Array.getElem?_eq_some_iff.1 t16).1
                  repeat (first | (refine wpPlanA_skip _ rfl (by rfl) ?_; simp only [Act.put, List.setIfInBounds_toArray, List.set_cons_zero, List.set_cons_succ]) | (refine wpPlanA_soft _ ?_ rfl (by rfl) ?_ ?_; rotate_left; (intro wq hq hcq; go_simp; first | exact rfl | exact ⟨rfl, rfl⟩); simp only [Act.put, List.setIfInBounds_toArray, List.set_cons_zero, List.set_cons_succ]))
                  refine wpPlanA_hard _ rfl (by rfl) (fun w18 hS K hK => ?_)
                  have hB18 := hB17.call hS rfl
                  replace hC := hC.call hS rfl
                  replace hT0 := blkb hT0 hS
                  replace hT1 := blkb hT1 hS
                  replace hT2 := blkb hT2 hS
                  replace H := H.below hS
                  replace HS := HS.below hS
                  replace h5 := blkb h5 hS
                  replace t9 := blkb t9 hS
                  replace t16 := blkb t16 hS
                  clear hS hB17
                  go_simp
                  refine (H17.out _ H).mono ?_
                  rintro e w19 ⟨_, rfl, ⟨AT, CT, rfl, ht⟩, hb⟩
                  have hB19 := hB18.call hb rfl
                  replace hC := hC.call hb rfl
                  replace hT0 := blkb hT0 hb
                  replace hT1 := blkb hT1 hb
                  replace hT2 := blkb hT2 hb
                  replace H := H.below hb
                  replace HS := HS.below hb
                  replace h5 := blkb h5 hb
                  replace t9 := blkb t9 hb
                  replace t16 := blkb t16 hb
                  clear hb hB18
                  refine hK _ _ hC ?_
                  clear hK K
                  try simp only [Act.put, List.setIfInBounds_toArray, List.set_cons_zero, List.set_cons_succ]
                  refine wpPlanA_hard _ rfl (by rfl) (fun w20 hS K hK => ?_)
                  have hB20 := hB19.call hS rfl
                  replace hC := hC.call hS rfl
                  replace hT0 := blkb hT0 hS
                  replace hT1 := blkb hT1 hS
                  replace hT2 := blkb hT2 hS
                  replace H := H.below hS
                  replace HS := HS.below hS
                  replace h5 := blkb h5 hS
                  replace t9 := blkb t9 hS
                  replace t16 := blkb t16 hS
                  replace ht := ht.below hS
                  clear hS hB19
                  go_simp
                  refine (H39.out _ HS).mono ?_
                  rintro e w21 ⟨_, rfl, ⟨AS, CS, rfl, hts⟩, hb⟩
                  have hB21 := hB20.call hb rfl
                  replace hC := hC.call hb rfl
                  replace hT0 := blkb hT0 hb
                  replace hT1 := blkb hT1 hb
                  replace hT2 := blkb hT2 hb
                  replace H := H.below hb
                  replace HS := HS.below hb
                  replace h5 := blkb h5 hb
                  replace t9 := blkb t9 hb
                  replace t16 := blkb t16 hb
                  replace ht := ht.below hb
                  clear hb hB20
                  refine hK _ _ hC ?_
                  clear hK K
                  try simp only [Act.put, List.setIfInBounds_toArray, List.set_cons_zero, List.set_cons_succ]
                  refine wpPlanA_hard _ rfl (by rfl) (fun w22 hS K hK => ?_)
                  have hB22 := hB21.call hS rfl
                  replace hC := hC.call hS rfl
                  replace hT0 := blkb hT0 hS
                  replace hT1 := blkb hT1 hS
                  replace hT2 := blkb hT2 hS
                  replace H := H.below hS
                  replace HS := HS.below hS
                  replace h5 := blkb h5 hS
                  replace t9 := blkb t9 hS
                  replace t16 := blkb t16 hS
                  replace ht := ht.below hS
                  replace hts := hts.below hS
                  clear hS hB21
                  go_simp
                  refine (H38.out _ (TK : Int) AT CT AS CS ht hts P HP.out).mono ?_
                  rintro e w23 ⟨rfl, hb⟩
                  have hB23 := hB22.call hb rfl
                  replace hC := hC.call hb rfl
                  replace hT0 := blkb hT0 hb
                  replace hT1 := blkb hT1 hb
                  replace hT2 := blkb hT2 hb
                  replace H := H.below hb
                  replace HS := HS.below hb
                  replace h5 := blkb h5 hb
                  replace t9 := blkb t9 hb
                  replace t16 := blkb t16 hb
                  replace ht := ht.below hb
                  replace hts := hts.below hb
                  clear hb hB22
                  refine hK _ _ hC ?_
                  clear hK K
                  try simp only [Act.put, List.setIfInBounds_toArray, List.set_cons_zero, List.set_cons_succ]
                  repeat (first | (refine wpPlanA_skip _ rfl (by rfl) ?_; simp only [Act.put, List.setIfInBounds_toArray, List.set_cons_zero, List.set_cons_succ]) | (refine wpPlanA_soft _ ?_ rfl (by rfl) ?_ ?_; rotate_left; (intro wq hq hcq; go_simp; first | exact rfl | exact ⟨rfl, rfl⟩); simp only [Act.put, List.setIfInBounds_toArray, List.set_cons_zero, List.set_cons_succ]))
                  clear qhT0_0 qhT0_1 qhT0_2 qhT0_3 qhT0_4 qhT1_0 qhT1_1 qhT1_2 qhT1_3 qhT1_4 qhT1_5 qhT2_0 qhT2_1 qhT2_2 qt9_0 qt9_1 qt9_2 qt9_3 qt9_4 qt16_0 qt16_1 qt16_2 qt16_3 qt16_4
                  refine wpPlanA_nil (fun w24 hS => ?_)
                  clear hC zhT0 zhT1 zhT2 zt9 zt16
                  have hB24 := hB23.call hS rfl
                  replace hT0 := blkb hT0 hS
                  replace hT1 := blkb hT1 hS
                  replace hT2 := blkb hT2 hS
                  replace H := H.below hS
                  replace HS := HS.below hS
                  replace h5 := blkb h5 hS
                  replace t9 := blkb t9 hS
                  replace t16 := blkb t16 hS
                  replace ht := ht.below hS
                  replace hts := hts.below hS
                  clear hS hB23
                  have qhT0_0 : w24.cell? ⟨w.heap.size, 0, none⟩ = some (.int .i64 v.sx) := cell_at hT0 rfl
                  have qhT0_1 : w24.cell? ⟨w.heap.size, 1, none⟩ = some (.int .i64 v.sy) := cell_at hT0 rfl
                  have qhT0_2 : w24.cell? ⟨w.heap.size, 2, none⟩ = some (.int .i64 v.dx) := cell_at hT0 rfl
                  have qhT0_3 : w24.cell? ⟨w.heap.size, 3, none⟩ = some (.int .i64 v.dy) := cell_at hT0 rfl
                  have qhT0_4 : w24.cell? ⟨w.heap.size, 4, none⟩ = some (.int .i64 (N : Int)) := cell_at hT0 rfl
                  have qhT1_0 : w24.cell? ⟨w.heap.size + 1, 0, none⟩ = some (.int .i64 u.ring) := cell_at hT1 rfl
                  have qhT1_1 : w24.cell? ⟨w.heap.size + 1, 1, none⟩ = some (.int .i64 u.speed) := cell_at hT1 rfl
                  have qhT1_2 : w24.cell? ⟨w.heap.size + 1, 2, none⟩ = some (.int .i64 u.loss) := cell_at hT1 rfl
                  have qhT1_3 : w24.cell? ⟨w.heap.size + 1, 3, none⟩ = some (.int .i64 u.clear) := cell_at hT1 rfl
                  have qhT1_4 : w24.cell? ⟨w.heap.size + 1, 4, none⟩ = some (.int .i64 u.soft) := cell_at hT1 rfl
                  have qhT1_5 : w24.cell? ⟨w.heap.size + 1, 5, none⟩ = some (.slice A M cap) := cell_at hT1 rfl
                  have qhT2_0 : w24.cell? ⟨w.heap.size + 1 + 1, 0, none⟩ = some (.slice S SM scap) := cell_at hT2 rfl
                  have qhT2_1 : w24.cell? ⟨w.heap.size + 1 + 1, 1, none⟩ = some (.slice G gn gcap) := cell_at hT2 rfl
                  have qhT2_2 : w24.cell? ⟨w.heap.size + 1 + 1, 2, none⟩ = some (.int .i64 (TK : Int)) := cell_at hT2 rfl
                  have qt9_0 : w24.cell? ⟨bt9, 0, none⟩ = some (.int .i64 u.ring) := cell_at t9 rfl
                  have qt9_1 : w24.cell? ⟨bt9, 1, none⟩ = some (.int .i64 u.speed) := cell_at t9 rfl
                  have qt9_2 : w24.cell? ⟨bt9, 2, none⟩ = some (.int .i64 u.loss) := cell_at t9 rfl
                  have qt9_3 : w24.cell? ⟨bt9, 3, none⟩ = some (.int .i64 u.clear) := cell_at t9 rfl
                  have qt9_4 : w24.cell? ⟨bt9, 4, none⟩ = some (.int .i64 u.soft) := cell_at t9 rfl
                  have qt16_0 : w24.cell? ⟨b16, 0, none⟩ = some (.int .i64 (v.sx + 7)) := cell_at t16 rfl
                  have qt16_1 : w24.cell? ⟨b16, 1, none⟩ = some (.int .i64 (v.sy - 9)) := cell_at t16 rfl
                  have qt16_2 : w24.cell? ⟨b16, 2, none⟩ = some (.int .i64 v.dx) := cell_at t16 rfl
                  have qt16_3 : w24.cell? ⟨b16, 3, none⟩ = some (.int .i64 v.dy) := cell_at t16 rfl
                  have qt16_4 : w24.cell? ⟨b16, 4, none⟩ = some (.int .i64 (N : Int)) := cell_at t16 rfl
                  clear ht
                  clear hts
                  rcases HPW.out with h7 | ⟨n, hPn, hnK, hall2, hless⟩
                  · as_aux_lemma =>
                      rw [h7]
                      clear h7
                      go_wp2_with fail
                      refine (c15 _).mono ?_
                      rintro e wz ⟨rfl, hz⟩
                      go_wp2
                      go_ret
                      exact ⟨rfl, hB24.call hz rfl⟩
                  · as_aux_lemma =>
                      rw [hPn]
                      dsimp only
                      have HA2 := Lib.hid hall2
                      have HLS := Lib.hid hless
                      have hnK2 : n + TK ≤ N := by rw [HN.out] at hnK; omega
                      have hwn : IntKind.i64.wrap ((n : Int) + (TK : Int)) = (n : Int) + (TK : Int) := wrapI72 _ (by omega) (by omega)
                      have hd1 : decide ((n : Int) < 0) = false := decide_eq_false (by omega)
                      have hd2 : decide ((N : Int) < ((n : Int) + (TK : Int))) = false := decide_eq_false (by omega)
                      clear hall2 hless hnK hPn
                      go_wp2
                      clear qhT0_0 qhT0_1 qhT0_2 qhT0_3 qhT0_4 qhT1_0 qhT1_1 qhT1_2 qhT1_3 qhT1_4 qhT1_5 qhT2_0 qhT2_1 qhT2_2 qt9_0 qt9_1 qt9_2 qt9_3 qt9_4 qt16_0 qt16_1 qt16_2 qt16_3 qt16_4
                      go_loopw [22] (fun i wr => ∃ d : Nat, d ≤ TK ∧ i = .int .i64 ((n : Int) + (d : Int)) ∧ Below w24.heap.size w24 wr) (fun i _ => n + TK - (intOf i).toNat)
                      case atStart => exact ⟨0, by omega, by simp, Below.refl _ _⟩
                      case round =>
                        obtain ⟨d, hd, rfl, hBd⟩ := hrel
                        obtain ⟨w25, hww⟩ : ∃ W, W = wr := ⟨_, rfl⟩
                        rw [← hww] at hBd  ⊢
                        clear hww
                        have hB25 := hB24.call hBd rfl
                        replace hT0 := blkb hT0 hBd
                        replace hT1 := blkb hT1 hBd
                        replace hT2 := blkb hT2 hBd
                        replace H := H.below hBd
                        replace HS := HS.below hBd
                        replace h5 := blkb h5 hBd
                        replace t9 := blkb t9 hBd
                        replace t16 := blkb t16 hBd
                        clear hB24
                        by_cases hdK : d < TK
                        · as_aux_lemma =>
                            have hlt2 : ((n : Int) + (d : Int)) < ((n : Int) + (TK : Int)) := by omega
                            have qhT0_0 : w25.cell? ⟨w.heap.size, 0, none⟩ = some (.int .i64 v.sx) := cell_at hT0 rfl
                            have qhT0_1 : w25.cell? ⟨w.heap.size, 1, none⟩ = some (.int .i64 v.sy) := cell_at hT0 rfl
                            have qhT0_2 : w25.cell? ⟨w.heap.size, 2, none⟩ = some (.int .i64 v.dx) := cell_at hT0 rfl
                            have qhT0_3 : w25.cell? ⟨w.heap.size, 3, none⟩ = some (.int .i64 v.dy) := cell_at hT0 rfl
                            have qhT0_4 : w25.cell? ⟨w.heap.size, 4, none⟩ = some (.int .i64 (N : Int)) := cell_at hT0 rfl
                            have qhT1_0 : w25.cell? ⟨w.heap.size + 1, 0, none⟩ = some (.int .i64 u.ring) := cell_at hT1 rfl
                            have qhT1_1 : w25.cell? ⟨w.heap.size + 1, 1, none⟩ = some (.int .i64 u.speed) := cell_at hT1 rfl
                            have qhT1_2 : w25.cell? ⟨w.heap.size + 1, 2, none⟩ = some (.int .i64 u.loss) := cell_at hT1 rfl
                            have qhT1_3 : w25.cell? ⟨w.heap.size + 1, 3, none⟩ = some (.int .i64 u.clear) := cell_at hT1 rfl
                            have qhT1_4 : w25.cell? ⟨w.heap.size + 1, 4, none⟩ = some (.int .i64 u.soft) := cell_at hT1 rfl
                            have qhT1_5 : w25.cell? ⟨w.heap.size + 1, 5, none⟩ = some (.slice A M cap) := cell_at hT1 rfl
                            have qhT2_0 : w25.cell? ⟨w.heap.size + 1 + 1, 0, none⟩ = some (.slice S SM scap) := cell_at hT2 rfl
                            have qhT2_1 : w25.cell? ⟨w.heap.size + 1 + 1, 1, none⟩ = some (.slice G gn gcap) := cell_at hT2 rfl
                            have qhT2_2 : w25.cell? ⟨w.heap.size + 1 + 1, 2, none⟩ = some (.int .i64 (TK : Int)) := cell_at hT2 rfl
                            have qt9_0 : w25.cell? ⟨bt9, 0, none⟩ = some (.int .i64 u.ring) := cell_at t9 rfl
                            have qt9_1 : w25.cell? ⟨bt9, 1, none⟩ = some (.int .i64 u.speed) := cell_at t9 rfl
                            have qt9_2 : w25.cell? ⟨bt9, 2, none⟩ = some (.int .i64 u.loss) := cell_at t9 rfl
                            have qt9_3 : w25.cell? ⟨bt9, 3, none⟩ = some (.int .i64 u.clear) := cell_at t9 rfl
                            have qt9_4 : w25.cell? ⟨bt9, 4, none⟩ = some (.int .i64 u.soft) := cell_at t9 rfl
                            have qt16_0 : w25.cell? ⟨b16, 0, none⟩ = some (.int .i64 (v.sx + 7)) := cell_at t16 rfl
                            have qt16_1 : w25.cell? ⟨b16, 1, none⟩ = some (.int .i64 (v.sy - 9)) := cell_at t16 rfl
                            have qt16_2 : w25.cell? ⟨b16, 2, none⟩ = some (.int .i64 v.dx) := cell_at t16 rfl
                            have qt16_3 : w25.cell? ⟨b16, 3, none⟩ = some (.int .i64 v.dy) := cell_at t16 rfl
                            have qt16_4 : w25.cell? ⟨b16, 4, none⟩ = some (.int .i64 (N : Int)) := cell_at t16 rfl
                            go_wp2
                            clear qhT0_0 qhT0_1 qhT0_2 qhT0_3 qhT0_4 qhT1_0 qhT1_1 qhT1_2 qhT1_3 qhT1_4 qhT1_5 qhT2_0 qhT2_1 qhT2_2 qt9_0 qt9_1 qt9_2 qt9_3 qt9_4 qt16_0 qt16_1 qt16_2 qt16_3 qt16_4
                            go_loopw [23, 249] (fun b i wr => ∃ j : Nat, j ≤ SM ∧ i = .int .i64 j ∧ b = .bool (Mo.inSp (sh.take j) ((n : Int) + (d : Int))) ∧ Below w25.heap.size w25 wr) (fun _ i _ => SM - (intOf i).toNat)
                            case atStart => exact ⟨0, by omega, rfl, rfl, Below.refl _ _⟩
                            case round =>
                              obtain ⟨j, hj, rfl, rfl, hBj⟩ := hrel
                              obtain ⟨w26, hww⟩ : ∃ W, W = wr := ⟨_, rfl⟩
                              rw [← hww] at hBj  ⊢
                              clear hww
                              have hB26 := hB25.call hBj rfl
                              replace hT0 := blkb hT0 hBj
                              replace hT1 := blkb hT1 hBj
                              replace hT2 := blkb hT2 hBj
                              replace H := H.below hBj
                              replace HS := HS.below hBj
                              replace h5 := blkb h5 hBj
                              replace t9 := blkb t9 hBj
                              replace t16 := blkb t16 hBj
                              replace hBd := hBd.call hBj rfl
                              clear hB25
                              by_cases hjs : j < SM
                              · as_aux_lemma =>
                                  obtain ⟨b, off, s, hA, hx, hb, hc⟩ := RdL.at (show RdL w26 2 Spn.enc S sh by unfold RdL; rw [← HSM.out]; exact HS) Spn.len (by rw [← HSM.out]; exact hjs)
                                  subst hA
                                  have s0 : w26.cell? ⟨b, off + j * 2, none⟩ = some (.int .i64 s.f) := hc 0 (by omega)
                                  have s1 : w26.cell? ⟨b, off + j * 2 + 1, none⟩ = some (.int .i64 s.t) := hc 1 (by omega)
                                  have hin := Mo.inSp_take hx ((n : Int) + (d : Int))
                                  obtain ⟨bi, hbi⟩ : ∃ x, x = Mo.inSp (sh.take j) ((n : Int) + (d : Int)) := ⟨_, rfl⟩
                                  rw [← hbi] at hin ⊢
                                  have HIN := Lib.hid hin
                                  clear hin hbi hc hx
                                  have hz : (w26.alloc (Obj.cells #[.int .i64 0, .int .i64 0] 96)).heap[w26.heap.size]? = some (Obj.cells #[.int .i64 0, .int .i64 0] 96) := heap_new rfl
                                  go_wp2_with (refine wpList_store_blk rfl 96 _ _ rfl w26.heap.size _ rfl rfl hz ?s1 ?s2 ?s3 ?_)
                                  case s1 => rfl
                                  case s2 => kernel_rfl
                                  case s3 => simp [Value.oneCell']
                                  intro w27 t25 hg3 hs3
                                  have hS := ((Below.refl _ _).alloc (Nat.le_refl _) _).grown hg3 (by simp) (fun j hj => by cases hj; exact Nat.le_refl _)
                                  have hB27 := hB26.call hS rfl
                                  replace hT0 := blkb hT0 hS
                                  replace hT1 := blkb hT1 hS
                                  replace hT2 := blkb hT2 hS
                                  replace H := H.below hS
                                  replace HS := HS.below hS
                                  replace h5 := blkb h5 hS
                                  replace t9 := blkb t9 hS
                                  replace t16 := blkb t16 hS
                                  replace hBd := hBd.call hS rfl
                                  replace hBj := hBj.call hS rfl
                                  clear hS hB26
                                  have qhT0_0 : w27.cell? ⟨w.heap.size, 0, none⟩ = some (.int .i64 v.sx) := cell_at hT0 rfl
                                  have qhT0_1 : w27.cell? ⟨w.heap.size, 1, none⟩ = some (.int .i64 v.sy) := cell_at hT0 rfl
                                  have qhT0_2 : w27.cell? ⟨w.heap.size, 2, none⟩ = some (.int .i64 v.dx) := cell_at hT0 rfl
                                  have qhT0_3 : w27.cell? ⟨w.heap.size, 3, none⟩ = some (.int .i64 v.dy) := cell_at hT0 rfl
                                  have qhT0_4 : w27.cell? ⟨w.heap.size, 4, none⟩ = some (.int .i64 (N : Int)) := cell_at hT0 rfl
                                  have qhT1_0 : w27.cell? ⟨w.heap.size + 1, 0, none⟩ = some (.int .i64 u.ring) := cell_at hT1 rfl
                                  have qhT1_1 : w27.cell? ⟨w.heap.size + 1, 1, none⟩ = some (.int .i64 u.speed) := cell_at hT1 rfl
                                  have qhT1_2 : w27.cell? ⟨w.heap.size + 1, 2, none⟩ = some (.int .i64 u.loss) := cell_at hT1 rfl
                                  have qhT1_3 : w27.cell? ⟨w.heap.size + 1, 3, none⟩ = some (.int .i64 u.clear) := cell_at hT1 rfl
                                  have qhT1_4 : w27.cell? ⟨w.heap.size + 1, 4, none⟩ = some (.int .i64 u.soft) := cell_at hT1 rfl
                                  have qhT1_5 : w27.cell? ⟨w.heap.size + 1, 5, none⟩ = some (.slice A M cap) := cell_at hT1 rfl
                                  have qhT2_0 : w27.cell? ⟨w.heap.size + 1 + 1, 0, none⟩ = some (.slice (some ⟨b, off, none⟩) SM scap) := cell_at hT2 rfl
                                  have qhT2_1 : w27.cell? ⟨w.heap.size + 1 + 1, 1, none⟩ = some (.slice G gn gcap) := cell_at hT2 rfl
                                  have qhT2_2 : w27.cell? ⟨w.heap.size + 1 + 1, 2, none⟩ = some (.int .i64 (TK : Int)) := cell_at hT2 rfl
                                  have qt9_0 : w27.cell? ⟨bt9, 0, none⟩ = some (.int .i64 u.ring) := cell_at t9 rfl
                                  have qt9_1 : w27.cell? ⟨bt9, 1, none⟩ = some (.int .i64 u.speed) := cell_at t9 rfl
                                  have qt9_2 : w27.cell? ⟨bt9, 2, none⟩ = some (.int .i64 u.loss) := cell_at t9 rfl
                                  have qt9_3 : w27.cell? ⟨bt9, 3, none⟩ = some (.int .i64 u.clear) := cell_at t9 rfl
                                  have qt9_4 : w27.cell? ⟨bt9, 4, none⟩ = some (.int .i64 u.soft) := cell_at t9 rfl
                                  have qt16_0 : w27.cell? ⟨b16, 0, none⟩ = some (.int .i64 (v.sx + 7)) := cell_at t16 rfl
                                  have qt16_1 : w27.cell? ⟨b16, 1, none⟩ = some (.int .i64 (v.sy - 9)) := cell_at t16 rfl
                                  have qt16_2 : w27.cell? ⟨b16, 2, none⟩ = some (.int .i64 v.dx) := cell_at t16 rfl
                                  have qt16_3 : w27.cell? ⟨b16, 3, none⟩ = some (.int .i64 v.dy) := cell_at t16 rfl
                                  have qt16_4 : w27.cell? ⟨b16, 4, none⟩ = some (.int .i64 (N : Int)) := cell_at t16 rfl
                                  clear hz hg3 hs3
                                  obtain ⟨bt25, hbt25⟩ : ∃ b, b = w26.heap.size := ⟨_, rfl⟩
                                  rw [← hbt25] at t25 ⊢
                                  clear hbt25
                                  clear qhT0_0 qhT0_1 qhT0_2 qhT0_3 qhT0_4 qhT1_0 qhT1_1 qhT1_2 qhT1_3 qhT1_4 qhT1_5 qhT2_0 qhT2_1 qhT2_2 qt9_0 qt9_1 qt9_2 qt9_3 qt9_4 qt16_0 qt16_1 qt16_2 qt16_3 qt16_4
                                  have qhT0_0 : w27.cell? ⟨w.heap.size, 0, none⟩ = some (.int .i64 v.sx) := cell_at hT0 rfl
                                  have qhT0_1 : w27.cell? ⟨w.heap.size, 1, none⟩ = some (.int .i64 v.sy) := cell_at hT0 rfl
                                  have qhT0_2 : w27.cell? ⟨w.heap.size, 2, none⟩ = some (.int .i64 v.dx) := cell_at hT0 rfl
                                  have qhT0_3 : w27.cell? ⟨w.heap.size, 3, none⟩ = some (.int .i64 v.dy) := cell_at hT0 rfl
                                  have qhT0_4 : w27.cell? ⟨w.heap.size, 4, none⟩ = some (.int .i64 (N : Int)) := cell_at hT0 rfl
                                  have qhT1_0 : w27.cell? ⟨w.heap.size + 1, 0, none⟩ = some (.int .i64 u.ring) := cell_at hT1 rfl
                                  have qhT1_1 : w27.cell? ⟨w.heap.size + 1, 1, none⟩ = some (.int .i64 u.speed) := cell_at hT1 rfl
                                  have qhT1_2 : w27.cell? ⟨w.heap.size + 1, 2, none⟩ = some (.int .i64 u.loss) := cell_at hT1 rfl
                                  have qhT1_3 : w27.cell? ⟨w.heap.size + 1, 3, none⟩ = some (.int .i64 u.clear) := cell_at hT1 rfl
                                  have qhT1_4 : w27.cell? ⟨w.heap.size + 1, 4, none⟩ = some (.int .i64 u.soft) := cell_at hT1 rfl
                                  have qhT1_5 : w27.cell? ⟨w.heap.size + 1, 5, none⟩ = some (.slice A M cap) := cell_at hT1 rfl
                                  have qhT2_0 : w27.cell? ⟨w.heap.size + 1 + 1, 0, none⟩ = some (.slice (some ⟨b, off, none⟩) SM scap) := cell_at hT2 rfl
                                  have qhT2_1 : w27.cell? ⟨w.heap.size + 1 + 1, 1, none⟩ = some (.slice G gn gcap) := cell_at hT2 rfl
                                  have qhT2_2 : w27.cell? ⟨w.heap.size + 1 + 1, 2, none⟩ = some (.int .i64 (TK : Int)) := cell_at hT2 rfl
                                  have qt9_0 : w27.cell? ⟨bt9, 0, none⟩ = some (.int .i64 u.ring) := cell_at t9 rfl
                                  have qt9_1 : w27.cell? ⟨bt9, 1, none⟩ = some (.int .i64 u.speed) := cell_at t9 rfl
                                  have qt9_2 : w27.cell? ⟨bt9, 2, none⟩ = some (.int .i64 u.loss) := cell_at t9 rfl
                                  have qt9_3 : w27.cell? ⟨bt9, 3, none⟩ = some (.int .i64 u.clear) := cell_at t9 rfl
                                  have qt9_4 : w27.cell? ⟨bt9, 4, none⟩ = some (.int .i64 u.soft) := cell_at t9 rfl
                                  have qt16_0 : w27.cell? ⟨b16, 0, none⟩ = some (.int .i64 (v.sx + 7)) := cell_at t16 rfl
                                  have qt16_1 : w27.cell? ⟨b16, 1, none⟩ = some (.int .i64 (v.sy - 9)) := cell_at t16 rfl
                                  have qt16_2 : w27.cell? ⟨b16, 2, none⟩ = some (.int .i64 v.dx) := cell_at t16 rfl
                                  have qt16_3 : w27.cell? ⟨b16, 3, none⟩ = some (.int .i64 v.dy) := cell_at t16 rfl
                                  have qt16_4 : w27.cell? ⟨b16, 4, none⟩ = some (.int .i64 (N : Int)) := cell_at t16 rfl
                                  have qt25_0 : w27.cell? ⟨bt25, 0, none⟩ = some (.int .i64 s.f) := cell_at t25 rfl
                                  have qt25_1 : w27.cell? ⟨bt25, 1, none⟩ = some (.int .i64 s.t) := cell_at t25 rfl
                                  cases c0 : bi
                                  · by_cases c1 : s.f ≤ (n : Int) + (d : Int)
                                    · by_cases c2 : (n : Int) + (d : Int) < s.t
                                      · go_wp2
                                        go_roundw
                                        case rel => exact ⟨j + 1, by omega, by go_num, by rw [HIN.out, c0]; unfold Mo.has; rw [decide_eq_true ⟨c1, c2⟩]; rfl, hBj⟩
                                        case measure => simp [intOf]; omega
                                      · go_wp2
                                        go_roundw
                                        case rel => exact ⟨j + 1, by omega, by go_num, by rw [HIN.out, c0]; unfold Mo.has; rw [decide_eq_false (fun h => c2 h.2)]; rfl, hBj⟩
                                        case measure => simp [intOf]; omega
                                    · go_wp2
                                      go_roundw
                                      case rel => exact ⟨j + 1, by omega, by go_num, by rw [HIN.out, c0]; unfold Mo.has; rw [decide_eq_false (fun h => c1 h.1)]; rfl, hBj⟩
                                      case measure => simp [intOf]; omega
                                  · go_wp2
                                    go_roundw
                                    case rel => exact ⟨j + 1, by omega, by go_num, by rw [HIN.out, c0]; rfl, hBj⟩
                                    case measure => simp [intOf]; omega
                              · as_aux_lemma =>
                                  obtain rfl : SM = j := by omega
                                  clear hjs
                                  have hall3 := HA2.out d hdK
                                  have hall4 : Mo.inSp sh ((n : Int) + (d : Int)) = true := by
                                    have h := hall3.2
                                    push_cast at h
                                    exact h
                                  rw [List.take_of_length_le (by rw [← HSM.out]; exact Nat.le_refl _), hall4]
                                  clear hall4
                                  have hlv := hall3.1
                                  clear hall3
                                  have hws : IntKind.i64.wrap (u.soft + 1) = u.soft + 1 := wrapI72 _ (by omega) (by omega)
                                  have qhT0_0 : w26.cell? ⟨w.heap.size, 0, none⟩ = some (.int .i64 v.sx) := cell_at hT0 rfl
                                  have qhT0_1 : w26.cell? ⟨w.heap.size, 1, none⟩ = some (.int .i64 v.sy) := cell_at hT0 rfl
                                  have qhT0_2 : w26.cell? ⟨w.heap.size, 2, none⟩ = some (.int .i64 v.dx) := cell_at hT0 rfl
                                  have qhT0_3 : w26.cell? ⟨w.heap.size, 3, none⟩ = some (.int .i64 v.dy) := cell_at hT0 rfl
                                  have qhT0_4 : w26.cell? ⟨w.heap.size, 4, none⟩ = some (.int .i64 (N : Int)) := cell_at hT0 rfl
                                  have qhT1_0 : w26.cell? ⟨w.heap.size + 1, 0, none⟩ = some (.int .i64 u.ring) := cell_at hT1 rfl
                                  have qhT1_1 : w26.cell? ⟨w.heap.size + 1, 1, none⟩ = some (.int .i64 u.speed) := cell_at hT1 rfl
                                  have qhT1_2 : w26.cell? ⟨w.heap.size + 1, 2, none⟩ = some (.int .i64 u.loss) := cell_at hT1 rfl
                                  have qhT1_3 : w26.cell? ⟨w.heap.size + 1, 3, none⟩ = some (.int .i64 u.clear) := cell_at hT1 rfl
                                  have qhT1_4 : w26.cell? ⟨w.heap.size + 1, 4, none⟩ = some (.int .i64 u.soft) := cell_at hT1 rfl
                                  have qhT1_5 : w26.cell? ⟨w.heap.size + 1, 5, none⟩ = some (.slice A M cap) := cell_at hT1 rfl
                                  have qhT2_0 : w26.cell? ⟨w.heap.size + 1 + 1, 0, none⟩ = some (.slice S SM scap) := cell_at hT2 rfl
                                  have qhT2_1 : w26.cell? ⟨w.heap.size + 1 + 1, 1, none⟩ = some (.slice G gn gcap) := cell_at hT2 rfl
                                  have qhT2_2 : w26.cell? ⟨w.heap.size + 1 + 1, 2, none⟩ = some (.int .i64 (TK : Int)) := cell_at hT2 rfl
                                  have qt9_0 : w26.cell? ⟨bt9, 0, none⟩ = some (.int .i64 u.ring) := cell_at t9 rfl
                                  have qt9_1 : w26.cell? ⟨bt9, 1, none⟩ = some (.int .i64 u.speed) := cell_at t9 rfl
                                  have qt9_2 : w26.cell? ⟨bt9, 2, none⟩ = some (.int .i64 u.loss) := cell_at t9 rfl
                                  have qt9_3 : w26.cell? ⟨bt9, 3, none⟩ = some (.int .i64 u.clear) := cell_at t9 rfl
                                  have qt9_4 : w26.cell? ⟨bt9, 4, none⟩ = some (.int .i64 u.soft) := cell_at t9 rfl
                                  have qt16_0 : w26.cell? ⟨b16, 0, none⟩ = some (.int .i64 (v.sx + 7)) := cell_at t16 rfl
                                  have qt16_1 : w26.cell? ⟨b16, 1, none⟩ = some (.int .i64 (v.sy - 9)) := cell_at t16 rfl
                                  have qt16_2 : w26.cell? ⟨b16, 2, none⟩ = some (.int .i64 v.dx) := cell_at t16 rfl
                                  have qt16_3 : w26.cell? ⟨b16, 3, none⟩ = some (.int .i64 v.dy) := cell_at t16 rfl
                                  have qt16_4 : w26.cell? ⟨b16, 4, none⟩ = some (.int .i64 (N : Int)) := cell_at t16 rfl
                                  have fl : w26.cell? ⟨g5, n + d, none⟩ = some (.int .i64 (u.soft + 1)) := cell_at h5 (by rw [HLG.out (n + d) (by rw [HN.out]; omega), hlv])
                                  clear hlv
                                  have hnd : ((n : Int) + (d : Int)).toNat = n + d := by omega
                                  have hnd0 : (0 : Int) ≤ (n : Int) + (d : Int) := by omega
                                  have hnd1 : (n : Int) + (d : Int) < (N : Int) := by omega
                                  go_wp2
                                  have zg5 : g5 < w26.heap.size := (Array.getElem?_eq_some_iff.1 h5).1
                                  have zhT0 : w.heap.size < w26.heap.size := (Array.getElem?_eq_some_iff.1 hT0).1
                                  have zhT1 : w.heap.size + 1 < w26.heap.size := (Array.getElem?_eq_some_iff.1 hT1).1
                                  have zhT2 : w.heap.size + 1 + 1 < w26.heap.size := (Array.getElem?_eq_some_iff.1 hT2).1
                                  have zt9 : bt9 < w26.heap.size := (Array.getElem?_eq_some_iff.1 t9).1
                                  have zt16 : b16 < w26.heap.size := (Array.getElem?_eq_some_iff.1 t16).1
                                  refine wp_region_growG (by kernel_rfl) (by kernel_rfl) ?_
                                  repeat (go_big_quiet_step ((first | fail)))
                                  refine wpQuiet_nil (gw_out ?_)
                                  intro w27 hS
                                  replace hBd := hBd.call hS rfl
                                  have hwd : IntKind.i64.wrap ((n : Int) + (d : Int) + 1) = (n : Int) + ((d + 1 : Nat) : Int) := by rw [wrapI72 _ (by omega) (by omega)]; omega
                                  go_wp2
                                  go_roundw
                                  case rel => exact ⟨d + 1, by omega, by first | rfl | go_num | (congr 1; omega), hBd⟩
                                  case measure => simp [intOf]; omega
                        · as_aux_lemma =>
                            obtain rfl : TK = d := by omega
                            clear hdK
                            have hlt2 : ¬ ((n : Int) + (TK : Int)) < ((n : Int) + (TK : Int)) := by omega
                            have qhT0_0 : w25.cell? ⟨w.heap.size, 0, none⟩ = some (.int .i64 v.sx) := cell_at hT0 rfl
                            have qhT0_1 : w25.cell? ⟨w.heap.size, 1, none⟩ = some (.int .i64 v.sy) := cell_at hT0 rfl
                            have qhT0_2 : w25.cell? ⟨w.heap.size, 2, none⟩ = some (.int .i64 v.dx) := cell_at hT0 rfl
                            have qhT0_3 : w25.cell? ⟨w.heap.size, 3, none⟩ = some (.int .i64 v.dy) := cell_at hT0 rfl
                            have qhT0_4 : w25.cell? ⟨w.heap.size, 4, none⟩ = some (.int .i64 (N : Int)) := cell_at hT0 rfl
                            have qhT1_0 : w25.cell? ⟨w.heap.size + 1, 0, none⟩ = some (.int .i64 u.ring) := cell_at hT1 rfl
                            have qhT1_1 : w25.cell? ⟨w.heap.size + 1, 1, none⟩ = some (.int .i64 u.speed) := cell_at hT1 rfl
                            have qhT1_2 : w25.cell? ⟨w.heap.size + 1, 2, none⟩ = some (.int .i64 u.loss) := cell_at hT1 rfl
                            have qhT1_3 : w25.cell? ⟨w.heap.size + 1, 3, none⟩ = some (.int .i64 u.clear) := cell_at hT1 rfl
                            have qhT1_4 : w25.cell? ⟨w.heap.size + 1, 4, none⟩ = some (.int .i64 u.soft) := cell_at hT1 rfl
                            have qhT1_5 : w25.cell? ⟨w.heap.size + 1, 5, none⟩ = some (.slice A M cap) := cell_at hT1 rfl
                            have qhT2_0 : w25.cell? ⟨w.heap.size + 1 + 1, 0, none⟩ = some (.slice S SM scap) := cell_at hT2 rfl
                            have qhT2_1 : w25.cell? ⟨w.heap.size + 1 + 1, 1, none⟩ = some (.slice G gn gcap) := cell_at hT2 rfl
                            have qhT2_2 : w25.cell? ⟨w.heap.size + 1 + 1, 2, none⟩ = some (.int .i64 (TK : Int)) := cell_at hT2 rfl
                            have qt9_0 : w25.cell? ⟨bt9, 0, none⟩ = some (.int .i64 u.ring) := cell_at t9 rfl
                            have qt9_1 : w25.cell? ⟨bt9, 1, none⟩ = some (.int .i64 u.speed) := cell_at t9 rfl
                            have qt9_2 : w25.cell? ⟨bt9, 2, none⟩ = some (.int .i64 u.loss) := cell_at t9 rfl
                            have qt9_3 : w25.cell? ⟨bt9, 3, none⟩ = some (.int .i64 u.clear) := cell_at t9 rfl
                            have qt9_4 : w25.cell? ⟨bt9, 4, none⟩ = some (.int .i64 u.soft) := cell_at t9 rfl
                            have qt16_0 : w25.cell? ⟨b16, 0, none⟩ = some (.int .i64 (v.sx + 7)) := cell_at t16 rfl
                            have qt16_1 : w25.cell? ⟨b16, 1, none⟩ = some (.int .i64 (v.sy - 9)) := cell_at t16 rfl
                            have qt16_2 : w25.cell? ⟨b16, 2, none⟩ = some (.int .i64 v.dx) := cell_at t16 rfl
                            have qt16_3 : w25.cell? ⟨b16, 3, none⟩ = some (.int .i64 v.dy) := cell_at t16 rfl
                            have qt16_4 : w25.cell? ⟨b16, 4, none⟩ = some (.int .i64 (N : Int)) := cell_at t16 rfl
                            by_cases hK1 : TK = 1
                            · as_aux_lemma =>
                                have hk1 : ((TK : Int) == 1) = true := by simp; omega
                                go_wp2_with fail
                                refine (c15 _).mono ?_
                                rintro e wz ⟨rfl, hz⟩
                                go_wp2
                                go_ret
                                exact ⟨rfl, hB25.call hz rfl⟩
                            · as_aux_lemma =>
                                have hk1 : ((TK : Int) == 1) = false := by simp; omega
                                obtain ⟨m, hm2, hle⟩ := HLS.out (by omega)
                                have HM2 := Lib.hid hm2
                                have hle2 : m ≤ (n : Int) := hle
                                clear hm2 hle
                                have hwk : IntKind.i64.wrap ((TK : Int) - 1) = (TK : Int) - 1 := wrapI72 _ (by omega) (by omega)
                                go_wp2
                                refine wp_region_plan [(0, true), (1, true), (2, true), (3, true), (5, true), (6, true), (8, true), (9, true), (10, true), (4, false), (7, false), (11, false), (12, true), (13, true), (14, true), (15, true), (16, true)] w25.heap.size (by kernel_rfl) (by kernel_rfl) (Nat.le_refl _) (fun _ _ d _ _ h => by cases d <;> exact h) ?_
                                have hC : Below w25.heap.size w25 w25 := Below.refl _ _
                                have zhT0 : w.heap.size < w25.heap.size := (Array.getElem?_eq_some_iff.1 hT0).1
                                have zhT1 : w.heap.size + 1 < w25.heap.size := (Array.getElem?_eq_some_iff.1 hT1).1
                                have zhT2 : w.heap.size + 1 + 1 < w25.heap.size := (Array.getElem?_eq_some_iff.1 hT2).1
                                have zt9 : bt9 < w25.heap.size := (Array.getElem?_eq_some_iff.1 t9).1
                                have zt16 : b16 < w25.heap.size := (Array.getElem?_eq_some_iff.1 t16).1
                                repeat (first | (refine wpPlanA_skip _ rfl (by rfl) ?_; simp only [Act.put, List.setIfInBounds_toArray, List.set_cons_zero, List.set_cons_succ]) | (refine wpPlanA_soft _ ?_ rfl (by rfl) ?_ ?_; rotate_left; (intro wq hq hcq; go_simp; first | exact rfl | exact ⟨rfl, rfl⟩); simp only [Act.put, List.setIfInBounds_toArray, List.set_cons_zero, List.set_cons_succ]))
                                refine wpPlanA_hard _ rfl (by rfl) (fun w26 hS K hK => ?_)
                                have hB26 := hB25.call hS rfl
                                replace hC := hC.call hS rfl
                                replace hT0 := blkb hT0 hS
                                replace hT1 := blkb hT1 hS
                                replace hT2 := blkb hT2 hS
                                replace H := H.below hS
                                replace HS := HS.below hS
                                replace h5 := blkb h5 hS
                                replace t9 := blkb t9 hS
                                replace t16 := blkb t16 hS
                                replace hBd := hBd.call hS rfl
                                clear hS hB25
                                go_simp
                                refine (H17.out _ H).mono ?_
                                rintro e w27 ⟨_, rfl, ⟨AT, CT, rfl, ht⟩, hb⟩
                                have hB27 := hB26.call hb rfl
                                replace hC := hC.call hb rfl
                                replace hT0 := blkb hT0 hb
                                replace hT1 := blkb hT1 hb
                                replace hT2 := blkb hT2 hb
                                replace H := H.below hb
                                replace HS := HS.below hb
                                replace h5 := blkb h5 hb
                                replace t9 := blkb t9 hb
                                replace t16 := blkb t16 hb
                                replace hBd := hBd.call hb rfl
                                clear hb hB26
                                refine hK _ _ hC ?_
                                clear hK K
                                try simp only [Act.put, List.setIfInBounds_toArray, List.set_cons_zero, List.set_cons_succ]
                                refine wpPlanA_hard _ rfl (by rfl) (fun w28 hS K hK => ?_)
                                have hB28 := hB27.call hS rfl
                                replace hC := hC.call hS rfl
                                replace hT0 := blkb hT0 hS
                                replace hT1 := blkb hT1 hS
                                replace hT2 := blkb hT2 hS
                                replace H := H.below hS
                                replace HS := HS.below hS
                                replace h5 := blkb h5 hS
                                replace t9 := blkb t9 hS
                                replace t16 := blkb t16 hS
                                replace hBd := hBd.call hS rfl
                                replace ht := ht.below hS
                                clear hS hB27
                                go_simp
                                refine (H39.out _ HS).mono ?_
                                rintro e w29 ⟨_, rfl, ⟨AS, CS, rfl, hts⟩, hb⟩
                                have hB29 := hB28.call hb rfl
                                replace hC := hC.call hb rfl
                                replace hT0 := blkb hT0 hb
                                replace hT1 := blkb hT1 hb
                                replace hT2 := blkb hT2 hb
                                replace H := H.below hb
                                replace HS := HS.below hb
                                replace h5 := blkb h5 hb
                                replace t9 := blkb t9 hb
                                replace t16 := blkb t16 hb
                                replace hBd := hBd.call hb rfl
                                replace ht := ht.below hb
                                clear hb hB28
                                refine hK _ _ hC ?_
                                clear hK K
                                try simp only [Act.put, List.setIfInBounds_toArray, List.set_cons_zero, List.set_cons_succ]
                                refine wpPlanA_hard _ rfl (by rfl) (fun w30 hS K hK => ?_)
                                have hB30 := hB29.call hS rfl
                                replace hC := hC.call hS rfl
                                replace hT0 := blkb hT0 hS
                                replace hT1 := blkb hT1 hS
                                replace hT2 := blkb hT2 hS
                                replace H := H.below hS
                                replace HS := HS.below hS
                                replace h5 := blkb h5 hS
                                replace t9 := blkb t9 hS
                                replace t16 := blkb t16 hS
                                replace hBd := hBd.call hS rfl
                                replace ht := ht.below hS
                                replace hts := hts.below hS
                                clear hS hB29
                                go_simp
                                refine (H38.out _ ((TK : Int) - 1) AT CT AS CS ht hts (m, 0) HM2.out.symm).mono ?_
                                rintro e w31 ⟨rfl, hb⟩
                                have hB31 := hB30.call hb rfl
                                replace hC := hC.call hb rfl
                                replace hT0 := blkb hT0 hb
                                replace hT1 := blkb hT1 hb
                                replace hT2 := blkb hT2 hb
                                replace H := H.below hb
                                replace HS := HS.below hb
                                replace h5 := blkb h5 hb
                                replace t9 := blkb t9 hb
                                replace t16 := blkb t16 hb
                                replace hBd := hBd.call hb rfl
                                replace ht := ht.below hb
                                replace hts := hts.below hb
                                clear hb hB30
                                refine hK _ _ hC ?_
                                clear hK K
                                try simp only [Act.put, List.setIfInBounds_toArray, List.set_cons_zero, List.set_cons_succ]
                                repeat (first | (refine wpPlanA_skip _ rfl (by rfl) ?_; simp only [Act.put, List.setIfInBounds_toArray, List.set_cons_zero, List.set_cons_succ]) | (refine wpPlanA_soft _ ?_ rfl (by rfl) ?_ ?_; rotate_left; (intro wq hq hcq; go_simp; first | exact rfl | exact ⟨rfl, rfl⟩); simp only [Act.put, List.setIfInBounds_toArray, List.set_cons_zero, List.set_cons_succ]))
                                clear qhT0_0 qhT0_1 qhT0_2 qhT0_3 qhT0_4 qhT1_0 qhT1_1 qhT1_2 qhT1_3 qhT1_4 qhT1_5 qhT2_0 qhT2_1 qhT2_2 qt9_0 qt9_1 qt9_2 qt9_3 qt9_4 qt16_0 qt16_1 qt16_2 qt16_3 qt16_4
                                refine wpPlanA_nil (fun w32 hS => ?_)
                                clear hC zhT0 zhT1 zhT2 zt9 zt16
                                have hB32 := hB31.call hS rfl
                                replace hT0 := blkb hT0 hS
                                replace hT1 := blkb hT1 hS
                                replace hT2 := blkb hT2 hS
                                replace H := H.below hS
                                replace HS := HS.below hS
                                replace h5 := blkb h5 hS
                                replace t9 := blkb t9 hS
                                replace t16 := blkb t16 hS
                                replace hBd := hBd.call hS rfl
                                replace ht := ht.below hS
                                replace hts := hts.below hS
                                clear hS hB31
                                have qhT0_0 : w32.cell? ⟨w.heap.size, 0, none⟩ = some (.int .i64 v.sx) := cell_at hT0 rfl
                                have qhT0_1 : w32.cell? ⟨w.heap.size, 1, none⟩ = some (.int .i64 v.sy) := cell_at hT0 rfl
                                have qhT0_2 : w32.cell? ⟨w.heap.size, 2, none⟩ = some (.int .i64 v.dx) := cell_at hT0 rfl
                                have qhT0_3 : w32.cell? ⟨w.heap.size, 3, none⟩ = some (.int .i64 v.dy) := cell_at hT0 rfl
                                have qhT0_4 : w32.cell? ⟨w.heap.size, 4, none⟩ = some (.int .i64 (N : Int)) := cell_at hT0 rfl
                                have qhT1_0 : w32.cell? ⟨w.heap.size + 1, 0, none⟩ = some (.int .i64 u.ring) := cell_at hT1 rfl
                                have qhT1_1 : w32.cell? ⟨w.heap.size + 1, 1, none⟩ = some (.int .i64 u.speed) := cell_at hT1 rfl
                                have qhT1_2 : w32.cell? ⟨w.heap.size + 1, 2, none⟩ = some (.int .i64 u.loss) := cell_at hT1 rfl
                                have qhT1_3 : w32.cell? ⟨w.heap.size + 1, 3, none⟩ = some (.int .i64 u.clear) := cell_at hT1 rfl
                                have qhT1_4 : w32.cell? ⟨w.heap.size + 1, 4, none⟩ = some (.int .i64 u.soft) := cell_at hT1 rfl
                                have qhT1_5 : w32.cell? ⟨w.heap.size + 1, 5, none⟩ = some (.slice A M cap) := cell_at hT1 rfl
                                have qhT2_0 : w32.cell? ⟨w.heap.size + 1 + 1, 0, none⟩ = some (.slice S SM scap) := cell_at hT2 rfl
                                have qhT2_1 : w32.cell? ⟨w.heap.size + 1 + 1, 1, none⟩ = some (.slice G gn gcap) := cell_at hT2 rfl
                                have qhT2_2 : w32.cell? ⟨w.heap.size + 1 + 1, 2, none⟩ = some (.int .i64 (TK : Int)) := cell_at hT2 rfl
                                have qt9_0 : w32.cell? ⟨bt9, 0, none⟩ = some (.int .i64 u.ring) := cell_at t9 rfl
                                have qt9_1 : w32.cell? ⟨bt9, 1, none⟩ = some (.int .i64 u.speed) := cell_at t9 rfl
                                have qt9_2 : w32.cell? ⟨bt9, 2, none⟩ = some (.int .i64 u.loss) := cell_at t9 rfl
                                have qt9_3 : w32.cell? ⟨bt9, 3, none⟩ = some (.int .i64 u.clear) := cell_at t9 rfl
                                have qt9_4 : w32.cell? ⟨bt9, 4, none⟩ = some (.int .i64 u.soft) := cell_at t9 rfl
                                have qt16_0 : w32.cell? ⟨b16, 0, none⟩ = some (.int .i64 (v.sx + 7)) := cell_at t16 rfl
                                have qt16_1 : w32.cell? ⟨b16, 1, none⟩ = some (.int .i64 (v.sy - 9)) := cell_at t16 rfl
                                have qt16_2 : w32.cell? ⟨b16, 2, none⟩ = some (.int .i64 v.dx) := cell_at t16 rfl
                                have qt16_3 : w32.cell? ⟨b16, 3, none⟩ = some (.int .i64 v.dy) := cell_at t16 rfl
                                have qt16_4 : w32.cell? ⟨b16, 4, none⟩ = some (.int .i64 (N : Int)) := cell_at t16 rfl
                                clear ht
                                clear hts
                                go_wp2_with fail
                                refine (c15 _).mono ?_
                                rintro e wz ⟨rfl, hz⟩
                                go_wp2
                                go_ret
                                exact ⟨rfl, hB32.call hz rfl⟩
              · as_aux_lemma =>
                  have hq : (E2 == 0) = false := by simpa using hE
                  clear hE hE2
                  go_wp2
                  clear hq
                  clear hf
                  obtain ⟨P, hP⟩ : ∃ P, P = Mo.window v u l sh TK := ⟨_, rfl⟩
                  have hPw := Mo.window_facts (K := TK) HALL.out HSP.out (by omega) (by omega)
                  rw [← hP] at hPw
                  have h17 := fun w1 (H1 : RdS w1 3 A M (l.flatMap Sgt.enc)) => c17 A cap l w1 (by rw [← HM.out]; omega) (by unfold RdL; rw [← HM.out]; exact H1)
                  have h39 := fun w1 (H1 : RdS w1 2 S SM (sh.flatMap Spn.enc)) => c39 S scap sh w1 (by rw [← HSM.out]; omega) (by unfold RdL; rw [← HSM.out]; exact H1) HS0.out
                  have h38 := fun w1 (tk : Int) AT CT AS CS (H1 : RdS w1 3 AT M (l.flatMap Sgt.enc)) (H2 : RdS w1 2 AS SM (sh.flatMap Spn.enc)) P hP => u38 v u AT CT l AS CS sh tk w1 (by rw [← HM.out]; omega) (by unfold RdL; rw [← HM.out]; exact H1) (by rw [← HSM.out]; omega) (by unfold RdL; rw [← HSM.out]; exact H2) P hP
                  rw [← HM.out] at h17 h38
                  rw [← HSM.out] at h39 h38
                  rw [HN.out] at h38
                  have H17 := Lib.hid h17
                  have H39 := Lib.hid h39
                  have H38 := Lib.hid h38
                  have HP := Lib.hid hP
                  have HPW := Lib.hid hPw
                  clear h17 h39 h38 hP hPw
                  refine wp_region_plan [(0, true), (1, true), (2, true), (3, true), (5, true), (6, true), (8, true), (9, true), (4, false), (7, false), (10, false), (11, true), (12, true), (13, true), (14, true), (15, true)] w15.heap.size (by kernel_rfl) (by kernel_rfl) (Nat.le_refl _) (fun _ _ d _ _ h => by cases d <;> exact h) ?_
                  have hC : Below w15.heap.size w15 w15 := Below.refl _ _
                  have zhT0 : w.heap.size < w15.heap.size := (Array.getElem?_eq_some_iff.1 hT0).1
                  have zhT1 : w.heap.size + 1 < w15.heap.size := (Array.getElem?_eq_some_iff.1 hT1).1
                  have zhT2 : w.heap.size + 1 + 1 < w15.heap.size := (Array.getElem?_eq_some_iff.1 hT2).1
                  have zt9 : bt9 < w15.heap.size := (Array.getElem?_eq_some_iff.1 t9).1
                  have zt16 : b16 < w15.heap.size := (Array.getElem?_eq_some_iff.1 t16).1
                  repeat (first | (refine wpPlanA_skip _ rfl (by rfl) ?_; simp only [Act.put, List.setIfInBounds_toArray, List.set_cons_zero, List.set_cons_succ]) | (refine wpPlanA_soft _ ?_ rfl (by rfl) ?_ ?_; rotate_left; (intro wq hq hcq; go_simp; first | exact rfl | exact ⟨rfl, rfl⟩); simp only [Act.put, List.setIfInBounds_toArray, List.set_cons_zero, List.set_cons_succ]))
                  refine wpPlanA_hard _ rfl (by rfl) (fun w16 hS K hK => ?_)
                  have hB16 := hB15.call hS rfl
                  replace hC := hC.call hS rfl
                  replace hT0 := blkb hT0 hS
                  replace hT1 := blkb hT1 hS
                  replace hT2 := blkb hT2 hS
                  replace H := H.below hS
                  replace HS := HS.below hS
                  replace h5 := blkb h5 hS
                  replace t9 := blkb t9 hS
                  replace t16 := blkb t16 hS
                  clear hS hB15
                  go_simp
                  refine (H17.out _ H).mono ?_
                  rintro e w17 ⟨_, rfl, ⟨AT, CT, rfl, ht⟩, hb⟩
                  have hB17 := hB16.call hb rfl
                  replace hC := hC.call hb rfl
                  replace hT0 := blkb hT0 hb
                  replace hT1 := blkb hT1 hb
                  replace hT2 := blkb hT2 hb
                  replace H := H.below hb
                  replace HS := HS.below hb
                  replace h5 := blkb h5 hb
                  replace t9 := blkb t9 hb
                  replace t16 := blkb t16 hb
                  clear hb hB16
                  refine hK _ _ hC ?_
                  clear hK K
                  try simp only [Act.put, List.setIfInBounds_toArray, List.set_cons_zero, List.set_cons_succ]
                  refine wpPlanA_hard _ rfl (by rfl) (fun w18 hS K hK => ?_)
                  have hB18 := hB17.call hS rfl
                  replace hC := hC.call hS rfl
                  replace hT0 := blkb hT0 hS
                  replace hT1 := blkb hT1 hS
                  replace hT2 := blkb hT2 hS
                  replace H := H.below hS
                  replace HS := HS.below hS
                  replace h5 := blkb h5 hS
                  replace t9 := blkb t9 hS
                  replace t16 := blkb t16 hS
                  replace ht := ht.below hS
                  clear hS hB17
                  go_simp
                  refine (H39.out _ HS).mono ?_
                  rintro e w19 ⟨_, rfl, ⟨AS, CS, rfl, hts⟩, hb⟩
                  have hB19 := hB18.call hb rfl
                  replace hC := hC.call hb rfl
                  replace hT0 := blkb hT0 hb
                  replace hT1 := blkb hT1 hb
                  replace hT2 := blkb hT2 hb
                  replace H := H.below hb
                  replace HS := HS.below hb
                  replace h5 := blkb h5 hb
                  replace t9 := blkb t9 hb
                  replace t16 := blkb t16 hb
                  replace ht := ht.below hb
                  clear hb hB18
                  refine hK _ _ hC ?_
                  clear hK K
                  try simp only [Act.put, List.setIfInBounds_toArray, List.set_cons_zero, List.set_cons_succ]
                  refine wpPlanA_hard _ rfl (by rfl) (fun w20 hS K hK => ?_)
                  have hB20 := hB19.call hS rfl
                  replace hC := hC.call hS rfl
                  replace hT0 := blkb hT0 hS
                  replace hT1 := blkb hT1 hS
                  replace hT2 := blkb hT2 hS
                  replace H := H.below hS
                  replace HS := HS.below hS
                  replace h5 := blkb h5 hS
                  replace t9 := blkb t9 hS
                  replace t16 := blkb t16 hS
                  replace ht := ht.below hS
                  replace hts := hts.below hS
                  clear hS hB19
                  go_simp
                  refine (H38.out _ (TK : Int) AT CT AS CS ht hts P HP.out).mono ?_
                  rintro e w21 ⟨rfl, hb⟩
                  have hB21 := hB20.call hb rfl
                  replace hC := hC.call hb rfl
                  replace hT0 := blkb hT0 hb
                  replace hT1 := blkb hT1 hb
                  replace hT2 := blkb hT2 hb
                  replace H := H.below hb
                  replace HS := HS.below hb
                  replace h5 := blkb h5 hb
                  replace t9 := blkb t9 hb
                  replace t16 := blkb t16 hb
                  replace ht := ht.below hb
                  replace hts := hts.below hb
                  clear hb hB20
                  refine hK _ _ hC ?_
                  clear hK K
                  try simp only [Act.put, List.setIfInBounds_toArray, List.set_cons_zero, List.set_cons_succ]
                  repeat (first | (refine wpPlanA_skip _ rfl (by rfl) ?_; simp only [Act.put, List.setIfInBounds_toArray, List.set_cons_zero, List.set_cons_succ]) | (refine wpPlanA_soft _ ?_ rfl (by rfl) ?_ ?_; rotate_left; (intro wq hq hcq; go_simp; first | exact rfl | exact ⟨rfl, rfl⟩); simp only [Act.put, List.setIfInBounds_toArray, List.set_cons_zero, List.set_cons_succ]))
                  clear qhT0_0 qhT0_1 qhT0_2 qhT0_3 qhT0_4 qhT1_0 qhT1_1 qhT1_2 qhT1_3 qhT1_4 qhT1_5 qhT2_0 qhT2_1 qhT2_2 qt9_0 qt9_1 qt9_2 qt9_3 qt9_4 qt16_0 qt16_1 qt16_2 qt16_3 qt16_4
                  refine wpPlanA_nil (fun w22 hS => ?_)
                  clear hC zhT0 zhT1 zhT2 zt9 zt16
                  have hB22 := hB21.call hS rfl
                  replace hT0 := blkb hT0 hS
                  replace hT1 := blkb hT1 hS
                  replace hT2 := blkb hT2 hS
                  replace H := H.below hS
                  replace HS := HS.below hS
                  replace h5 := blkb h5 hS
                  replace t9 := blkb t9 hS
                  replace t16 := blkb t16 hS
                  replace ht := ht.below hS
                  replace hts := hts.below hS
                  clear hS hB21
                  have qhT0_0 : w22.cell? ⟨w.heap.size, 0, none⟩ = some (.int .i64 v.sx) := cell_at hT0 rfl
                  have qhT0_1 : w22.cell? ⟨w.heap.size, 1, none⟩ = some (.int .i64 v.sy) := cell_at hT0 rfl
                  have qhT0_2 : w22.cell? ⟨w.heap.size, 2, none⟩ = some (.int .i64 v.dx) := cell_at hT0 rfl
                  have qhT0_3 : w22.cell? ⟨w.heap.size, 3, none⟩ = some (.int .i64 v.dy) := cell_at hT0 rfl
                  have qhT0_4 : w22.cell? ⟨w.heap.size, 4, none⟩ = some (.int .i64 (N : Int)) := cell_at hT0 rfl
                  have qhT1_0 : w22.cell? ⟨w.heap.size + 1, 0, none⟩ = some (.int .i64 u.ring) := cell_at hT1 rfl
                  have qhT1_1 : w22.cell? ⟨w.heap.size + 1, 1, none⟩ = some (.int .i64 u.speed) := cell_at hT1 rfl
                  have qhT1_2 : w22.cell? ⟨w.heap.size + 1, 2, none⟩ = some (.int .i64 u.loss) := cell_at hT1 rfl
                  have qhT1_3 : w22.cell? ⟨w.heap.size + 1, 3, none⟩ = some (.int .i64 u.clear) := cell_at hT1 rfl
                  have qhT1_4 : w22.cell? ⟨w.heap.size + 1, 4, none⟩ = some (.int .i64 u.soft) := cell_at hT1 rfl
                  have qhT1_5 : w22.cell? ⟨w.heap.size + 1, 5, none⟩ = some (.slice A M cap) := cell_at hT1 rfl
                  have qhT2_0 : w22.cell? ⟨w.heap.size + 1 + 1, 0, none⟩ = some (.slice S SM scap) := cell_at hT2 rfl
                  have qhT2_1 : w22.cell? ⟨w.heap.size + 1 + 1, 1, none⟩ = some (.slice G gn gcap) := cell_at hT2 rfl
                  have qhT2_2 : w22.cell? ⟨w.heap.size + 1 + 1, 2, none⟩ = some (.int .i64 (TK : Int)) := cell_at hT2 rfl
                  have qt9_0 : w22.cell? ⟨bt9, 0, none⟩ = some (.int .i64 u.ring) := cell_at t9 rfl
                  have qt9_1 : w22.cell? ⟨bt9, 1, none⟩ = some (.int .i64 u.speed) := cell_at t9 rfl
                  have qt9_2 : w22.cell? ⟨bt9, 2, none⟩ = some (.int .i64 u.loss) := cell_at t9 rfl
                  have qt9_3 : w22.cell? ⟨bt9, 3, none⟩ = some (.int .i64 u.clear) := cell_at t9 rfl
                  have qt9_4 : w22.cell? ⟨bt9, 4, none⟩ = some (.int .i64 u.soft) := cell_at t9 rfl
                  have qt16_0 : w22.cell? ⟨b16, 0, none⟩ = some (.int .i64 (v.sx + 7)) := cell_at t16 rfl
                  have qt16_1 : w22.cell? ⟨b16, 1, none⟩ = some (.int .i64 (v.sy - 9)) := cell_at t16 rfl
                  have qt16_2 : w22.cell? ⟨b16, 2, none⟩ = some (.int .i64 v.dx) := cell_at t16 rfl
                  have qt16_3 : w22.cell? ⟨b16, 3, none⟩ = some (.int .i64 v.dy) := cell_at t16 rfl
                  have qt16_4 : w22.cell? ⟨b16, 4, none⟩ = some (.int .i64 (N : Int)) := cell_at t16 rfl
                  clear ht
                  clear hts
                  rcases HPW.out with h7 | ⟨n, hPn, hnK, hall2, hless⟩
                  · as_aux_lemma =>
                      rw [h7]
                      clear h7
                      go_wp2_with fail
                      refine (c15 _).mono ?_
                      rintro e wz ⟨rfl, hz⟩
                      go_wp2
                      go_ret
                      exact ⟨rfl, hB22.call hz rfl⟩
                  · as_aux_lemma =>
                      rw [hPn]
                      dsimp only
                      have HA2 := Lib.hid hall2
                      have HLS := Lib.hid hless
                      have hnK2 : n + TK ≤ N := by rw [HN.out] at hnK; omega
                      have hwn : IntKind.i64.wrap ((n : Int) + (TK : Int)) = (n : Int) + (TK : Int) := wrapI72 _ (by omega) (by omega)
                      have hd1 : decide ((n : Int) < 0) = false := decide_eq_false (by omega)
                      have hd2 : decide ((N : Int) < ((n : Int) + (TK : Int))) = false := decide_eq_false (by omega)
                      clear hall2 hless hnK hPn
                      go_wp2
                      clear qhT0_0 qhT0_1 qhT0_2 qhT0_3 qhT0_4 qhT1_0 qhT1_1 qhT1_2 qhT1_3 qhT1_4 qhT1_5 qhT2_0 qhT2_1 qhT2_2 qt9_0 qt9_1 qt9_2 qt9_3 qt9_4 qt16_0 qt16_1 qt16_2 qt16_3 qt16_4
                      go_loopw [22] (fun i wr => ∃ d : Nat, d ≤ TK ∧ i = .int .i64 ((n : Int) + (d : Int)) ∧ Below w22.heap.size w22 wr) (fun i _ => n + TK - (intOf i).toNat)
                      case atStart => exact ⟨0, by omega, by simp, Below.refl _ _⟩
                      case round =>
                        obtain ⟨d, hd, rfl, hBd⟩ := hrel
                        obtain ⟨w23, hww⟩ : ∃ W, W = wr := ⟨_, rfl⟩
                        rw [← hww] at hBd  ⊢
                        clear hww
                        have hB23 := hB22.call hBd rfl
                        replace hT0 := blkb hT0 hBd
                        replace hT1 := blkb hT1 hBd
                        replace hT2 := blkb hT2 hBd
                        replace H := H.below hBd
                        replace HS := HS.below hBd
                        replace h5 := blkb h5 hBd
                        replace t9 := blkb t9 hBd
                        replace t16 := blkb t16 hBd
                        clear hB22
                        by_cases hdK : d < TK
                        · as_aux_lemma =>
                            have hlt2 : ((n : Int) + (d : Int)) < ((n : Int) + (TK : Int)) := by omega
                            have qhT0_0 : w23.cell? ⟨w.heap.size, 0, none⟩ = some (.int .i64 v.sx) := cell_at hT0 rfl
                            have qhT0_1 : w23.cell? ⟨w.heap.size, 1, none⟩ = some (.int .i64 v.sy) := cell_at hT0 rfl
                            have qhT0_2 : w23.cell? ⟨w.heap.size, 2, none⟩ = some (.int .i64 v.dx) := cell_at hT0 rfl
                            have qhT0_3 : w23.cell? ⟨w.heap.size, 3, none⟩ = some (.int .i64 v.dy) := cell_at hT0 rfl
                            have qhT0_4 : w23.cell? ⟨w.heap.size, 4, none⟩ = some (.int .i64 (N : Int)) := cell_at hT0 rfl
                            have qhT1_0 : w23.cell? ⟨w.heap.size + 1, 0, none⟩ = some (.int .i64 u.ring) := cell_at hT1 rfl
                            have qhT1_1 : w23.cell? ⟨w.heap.size + 1, 1, none⟩ = some (.int .i64 u.speed) := cell_at hT1 rfl
                            have qhT1_2 : w23.cell? ⟨w.heap.size + 1, 2, none⟩ = some (.int .i64 u.loss) := cell_at hT1 rfl
                            have qhT1_3 : w23.cell? ⟨w.heap.size + 1, 3, none⟩ = some (.int .i64 u.clear) := cell_at hT1 rfl
                            have qhT1_4 : w23.cell? ⟨w.heap.size + 1, 4, none⟩ = some (.int .i64 u.soft) := cell_at hT1 rfl
                            have qhT1_5 : w23.cell? ⟨w.heap.size + 1, 5, none⟩ = some (.slice A M cap) := cell_at hT1 rfl
                            have qhT2_0 : w23.cell? ⟨w.heap.size + 1 + 1, 0, none⟩ = some (.slice S SM scap) := cell_at hT2 rfl
                            have qhT2_1 : w23.cell? ⟨w.heap.size + 1 + 1, 1, none⟩ = some (.slice G gn gcap) := cell_at hT2 rfl
                            have qhT2_2 : w23.cell? ⟨w.heap.size + 1 + 1, 2, none⟩ = some (.int .i64 (TK : Int)) := cell_at hT2 rfl
                            have qt9_0 : w23.cell? ⟨bt9, 0, none⟩ = some (.int .i64 u.ring) := cell_at t9 rfl
                            have qt9_1 : w23.cell? ⟨bt9, 1, none⟩ = some (.int .i64 u.speed) := cell_at t9 rfl
                            have qt9_2 : w23.cell? ⟨bt9, 2, none⟩ = some (.int .i64 u.loss) := cell_at t9 rfl
                            have qt9_3 : w23.cell? ⟨bt9, 3, none⟩ = some (.int .i64 u.clear) := cell_at t9 rfl
                            have qt9_4 : w23.cell? ⟨bt9, 4, none⟩ = some (.int .i64 u.soft) := cell_at t9 rfl
                            have qt16_0 : w23.cell? ⟨b16, 0, none⟩ = some (.int .i64 (v.sx + 7)) := cell_at t16 rfl
                            have qt16_1 : w23.cell? ⟨b16, 1, none⟩ = some (.int .i64 (v.sy - 9)) := cell_at t16 rfl
                            have qt16_2 : w23.cell? ⟨b16, 2, none⟩ = some (.int .i64 v.dx) := cell_at t16 rfl
                            have qt16_3 : w23.cell? ⟨b16, 3, none⟩ = some (.int .i64 v.dy) := cell_at t16 rfl
                            have qt16_4 : w23.cell? ⟨b16, 4, none⟩ = some (.int .i64 (N : Int)) := cell_at t16 rfl
                            go_wp2
                            clear qhT0_0 qhT0_1 qhT0_2 qhT0_3 qhT0_4 qhT1_0 qhT1_1 qhT1_2 qhT1_3 qhT1_4 qhT1_5 qhT2_0 qhT2_1 qhT2_2 qt9_0 qt9_1 qt9_2 qt9_3 qt9_4 qt16_0 qt16_1 qt16_2 qt16_3 qt16_4
                            go_loopw [23, 249] (fun b i wr => ∃ j : Nat, j ≤ SM ∧ i = .int .i64 j ∧ b = .bool (Mo.inSp (sh.take j) ((n : Int) + (d : Int))) ∧ Below w23.heap.size w23 wr) (fun _ i _ => SM - (intOf i).toNat)
                            case atStart => exact ⟨0, by omega, rfl, rfl, Below.refl _ _⟩
                            case round =>
                              obtain ⟨j, hj, rfl, rfl, hBj⟩ := hrel
                              obtain ⟨w24, hww⟩ : ∃ W, W = wr := ⟨_, rfl⟩
                              rw [← hww] at hBj  ⊢
                              clear hww
                              have hB24 := hB23.call hBj rfl
                              replace hT0 := blkb hT0 hBj
                              replace hT1 := blkb hT1 hBj
                              replace hT2 := blkb hT2 hBj
                              replace H := H.below hBj
                              replace HS := HS.below hBj
                              replace h5 := blkb h5 hBj
                              replace t9 := blkb t9 hBj
                              replace t16 := blkb t16 hBj
                              replace hBd := hBd.call hBj rfl
                              clear hB23
                              by_cases hjs : j < SM
                              · as_aux_lemma =>
                                  obtain ⟨b, off, s, hA, hx, hb, hc⟩ := RdL.at (show RdL w24 2 Spn.enc S sh by unfold RdL; rw [← HSM.out]; exact HS) Spn.len (by rw [← HSM.out]; exact hjs)
                                  subst hA
                                  have s0 : w24.cell? ⟨b, off + j * 2, none⟩ = some (.int .i64 s.f) := hc 0 (by omega)
                                  have s1 : w24.cell? ⟨b, off + j * 2 + 1, none⟩ = some (.int .i64 s.t) := hc 1 (by omega)
                                  have hin := Mo.inSp_take hx ((n : Int) + (d : Int))
                                  obtain ⟨bi, hbi⟩ : ∃ x, x = Mo.inSp (sh.take j) ((n : Int) + (d : Int)) := ⟨_, rfl⟩
                                  rw [← hbi] at hin ⊢
                                  have HIN := Lib.hid hin
                                  clear hin hbi hc hx
                                  have hz : (w24.alloc (Obj.cells #[.int .i64 0, .int .i64 0] 96)).heap[w24.heap.size]? = some (Obj.cells #[.int .i64 0, .int .i64 0] 96) := heap_new rfl
                                  go_wp2_with (refine wpList_store_blk rfl 96 _ _ rfl w24.heap.size _ rfl rfl hz ?s1 ?s2 ?s3 ?_)
                                  case s1 => rfl
                                  case s2 => kernel_rfl
                                  case s3 => simp [Value.oneCell']
                                  intro w25 t25 hg3 hs3
                                  have hS := ((Below.refl _ _).alloc (Nat.le_refl _) _).grown hg3 (by simp) (fun j hj => by cases hj; exact Nat.le_refl _)
                                  have hB25 := hB24.call hS rfl
                                  replace hT0 := blkb hT0 hS
                                  replace hT1 := blkb hT1 hS
                                  replace hT2 := blkb hT2 hS
                                  replace H := H.below hS
                                  replace HS := HS.below hS
                                  replace h5 := blkb h5 hS
                                  replace t9 := blkb t9 hS
                                  replace t16 := blkb t16 hS
                                  replace hBd := hBd.call hS rfl
                                  replace hBj := hBj.call hS rfl
                                  clear hS hB24
                                  have qhT0_0 : w25.cell? ⟨w.heap.size, 0, none⟩ = some (.int .i64 v.sx) := cell_at hT0 rfl
                                  have qhT0_1 : w25.cell? ⟨w.heap.size, 1, none⟩ = some (.int .i64 v.sy) := cell_at hT0 rfl
                                  have qhT0_2 : w25.cell? ⟨w.heap.size, 2, none⟩ = some (.int .i64 v.dx) := cell_at hT0 rfl
                                  have qhT0_3 : w25.cell? ⟨w.heap.size, 3, none⟩ = some (.int .i64 v.dy) := cell_at hT0 rfl
                                  have qhT0_4 : w25.cell? ⟨w.heap.size, 4, none⟩ = some (.int .i64 (N : Int)) := cell_at hT0 rfl
                                  have qhT1_0 : w25.cell? ⟨w.heap.size + 1, 0, none⟩ = some (.int .i64 u.ring) := cell_at hT1 rfl
                                  have qhT1_1 : w25.cell? ⟨w.heap.size + 1, 1, none⟩ = some (.int .i64 u.speed) := cell_at hT1 rfl
                                  have qhT1_2 : w25.cell? ⟨w.heap.size + 1, 2, none⟩ = some (.int .i64 u.loss) := cell_at hT1 rfl
                                  have qhT1_3 : w25.cell? ⟨w.heap.size + 1, 3, none⟩ = some (.int .i64 u.clear) := cell_at hT1 rfl
                                  have qhT1_4 : w25.cell? ⟨w.heap.size + 1, 4, none⟩ = some (.int .i64 u.soft) := cell_at hT1 rfl
                                  have qhT1_5 : w25.cell? ⟨w.heap.size + 1, 5, none⟩ = some (.slice A M cap) := cell_at hT1 rfl
                                  have qhT2_0 : w25.cell? ⟨w.heap.size + 1 + 1, 0, none⟩ = some (.slice (some ⟨b, off, none⟩) SM scap) := cell_at hT2 rfl
                                  have qhT2_1 : w25.cell? ⟨w.heap.size + 1 + 1, 1, none⟩ = some (.slice G gn gcap) := cell_at hT2 rfl
                                  have qhT2_2 : w25.cell? ⟨w.heap.size + 1 + 1, 2, none⟩ = some (.int .i64 (TK : Int)) := cell_at hT2 rfl
                                  have qt9_0 : w25.cell? ⟨bt9, 0, none⟩ = some (.int .i64 u.ring) := cell_at t9 rfl
                                  have qt9_1 : w25.cell? ⟨bt9, 1, none⟩ = some (.int .i64 u.speed) := cell_at t9 rfl
                                  have qt9_2 : w25.cell? ⟨bt9, 2, none⟩ = some (.int .i64 u.loss) := cell_at t9 rfl
                                  have qt9_3 : w25.cell? ⟨bt9, 3, none⟩ = some (.int .i64 u.clear) := cell_at t9 rfl
                                  have qt9_4 : w25.cell? ⟨bt9, 4, none⟩ = some (.int .i64 u.soft) := cell_at t9 rfl
                                  have qt16_0 : w25.cell? ⟨b16, 0, none⟩ = some (.int .i64 (v.sx + 7)) := cell_at t16 rfl
                                  have qt16_1 : w25.cell? ⟨b16, 1, none⟩ = some (.int .i64 (v.sy - 9)) := cell_at t16 rfl
                                  have qt16_2 : w25.cell? ⟨b16, 2, none⟩ = some (.int .i64 v.dx) := cell_at t16 rfl
                                  have qt16_3 : w25.cell? ⟨b16, 3, none⟩ = some (.int .i64 v.dy) := cell_at t16 rfl
                                  have qt16_4 : w25.cell? ⟨b16, 4, none⟩ = some (.int .i64 (N : Int)) := cell_at t16 rfl
                                  clear hz hg3 hs3
                                  obtain ⟨bt25, hbt25⟩ : ∃ b, b = w24.heap.size := ⟨_, rfl⟩
                                  rw [← hbt25] at t25 ⊢
                                  clear hbt25
                                  clear qhT0_0 qhT0_1 qhT0_2 qhT0_3 qhT0_4 qhT1_0 qhT1_1 qhT1_2 qhT1_3 qhT1_4 qhT1_5 qhT2_0 qhT2_1 qhT2_2 qt9_0 qt9_1 qt9_2 qt9_3 qt9_4 qt16_0 qt16_1 qt16_2 qt16_3 qt16_4
                                  have qhT0_0 : w25.cell? ⟨w.heap.size, 0, none⟩ = some (.int .i64 v.sx) := cell_at hT0 rfl
                                  have qhT0_1 : w25.cell? ⟨w.heap.size, 1, none⟩ = some (.int .i64 v.sy) := cell_at hT0 rfl
                                  have qhT0_2 : w25.cell? ⟨w.heap.size, 2, none⟩ = some (.int .i64 v.dx) := cell_at hT0 rfl
                                  have qhT0_3 : w25.cell? ⟨w.heap.size, 3, none⟩ = some (.int .i64 v.dy) := cell_at hT0 rfl
                                  have qhT0_4 : w25.cell? ⟨w.heap.size, 4, none⟩ = some (.int .i64 (N : Int)) := cell_at hT0 rfl
                                  have qhT1_0 : w25.cell? ⟨w.heap.size + 1, 0, none⟩ = some (.int .i64 u.ring) := cell_at hT1 rfl
                                  have qhT1_1 : w25.cell? ⟨w.heap.size + 1, 1, none⟩ = some (.int .i64 u.speed) := cell_at hT1 rfl
                                  have qhT1_2 : w25.cell? ⟨w.heap.size + 1, 2, none⟩ = some (.int .i64 u.loss) := cell_at hT1 rfl
                                  have qhT1_3 : w25.cell? ⟨w.heap.size + 1, 3, none⟩ = some (.int .i64 u.clear) := cell_at hT1 rfl
                                  have qhT1_4 : w25.cell? ⟨w.heap.size + 1, 4, none⟩ = some (.int .i64 u.soft) := cell_at hT1 rfl
                                  have qhT1_5 : w25.cell? ⟨w.heap.size + 1, 5, none⟩ = some (.slice A M cap) := cell_at hT1 rfl
                                  have qhT2_0 : w25.cell? ⟨w.heap.size + 1 + 1, 0, none⟩ = some (.slice (some ⟨b, off, none⟩) SM scap) := cell_at hT2 rfl
                                  have qhT2_1 : w25.cell? ⟨w.heap.size + 1 + 1, 1, none⟩ = some (.slice G gn gcap) := cell_at hT2 rfl
                                  have qhT2_2 : w25.cell? ⟨w.heap.size + 1 + 1, 2, none⟩ = some (.int .i64 (TK : Int)) := cell_at hT2 rfl
                                  have qt9_0 : w25.cell? ⟨bt9, 0, none⟩ = some (.int .i64 u.ring) := cell_at t9 rfl
                                  have qt9_1 : w25.cell? ⟨bt9, 1, none⟩ = some (.int .i64 u.speed) := cell_at t9 rfl
                                  have qt9_2 : w25.cell? ⟨bt9, 2, none⟩ = some (.int .i64 u.loss) := cell_at t9 rfl
                                  have qt9_3 : w25.cell? ⟨bt9, 3, none⟩ = some (.int .i64 u.clear) := cell_at t9 rfl
                                  have qt9_4 : w25.cell? ⟨bt9, 4, none⟩ = some (.int .i64 u.soft) := cell_at t9 rfl
                                  have qt16_0 : w25.cell? ⟨b16, 0, none⟩ = some (.int .i64 (v.sx + 7)) := cell_at t16 rfl
                                  have qt16_1 : w25.cell? ⟨b16, 1, none⟩ = some (.int .i64 (v.sy - 9)) := cell_at t16 rfl
                                  have qt16_2 : w25.cell? ⟨b16, 2, none⟩ = some (.int .i64 v.dx) := cell_at t16 rfl
                                  have qt16_3 : w25.cell? ⟨b16, 3, none⟩ = some (.int .i64 v.dy) := cell_at t16 rfl
                                  have qt16_4 : w25.cell? ⟨b16, 4, none⟩ = some (.int .i64 (N : Int)) := cell_at t16 rfl
                                  have qt25_0 : w25.cell? ⟨bt25, 0, none⟩ = some (.int .i64 s.f) := cell_at t25 rfl
                                  have qt25_1 : w25.cell? ⟨bt25, 1, none⟩ = some (.int .i64 s.t) := cell_at t25 rfl
                                  cases c0 : bi
                                  · by_cases c1 : s.f ≤ (n : Int) + (d : Int)
                                    · by_cases c2 : (n : Int) + (d : Int) < s.t
                                      · go_wp2
                                        go_roundw
                                        case rel => exact ⟨j + 1, by omega, by go_num, by rw [HIN.out, c0]; unfold Mo.has; rw [decide_eq_true ⟨c1, c2⟩]; rfl, hBj⟩
                                        case measure => simp [intOf]; omega
                                      · go_wp2
                                        go_roundw
                                        case rel => exact ⟨j + 1, by omega, by go_num, by rw [HIN.out, c0]; unfold Mo.has; rw [decide_eq_false (fun h => c2 h.2)]; rfl, hBj⟩
                                        case measure => simp [intOf]; omega
                                    · go_wp2
                                      go_roundw
                                      case rel => exact ⟨j + 1, by omega, by go_num, by rw [HIN.out, c0]; unfold Mo.has; rw [decide_eq_false (fun h => c1 h.1)]; rfl, hBj⟩
                                      case measure => simp [intOf]; omega
                                  · go_wp2
                                    go_roundw
                                    case rel => exact ⟨j + 1, by omega, by go_num, by rw [HIN.out, c0]; rfl, hBj⟩
                                    case measure => simp [intOf]; omega
                              · as_aux_lemma =>
                                  obtain rfl : SM = j := by omega
                                  clear hjs
                                  have hall3 := HA2.out d hdK
                                  have hall4 : Mo.inSp sh ((n : Int) + (d : Int)) = true := by
                                    have h := hall3.2
                                    push_cast at h
                                    exact h
                                  rw [List.take_of_length_le (by rw [← HSM.out]; exact Nat.le_refl _), hall4]
                                  clear hall4
                                  have hlv := hall3.1
                                  clear hall3
                                  have hws : IntKind.i64.wrap (u.soft + 1) = u.soft + 1 := wrapI72 _ (by omega) (by omega)
                                  have qhT0_0 : w24.cell? ⟨w.heap.size, 0, none⟩ = some (.int .i64 v.sx) := cell_at hT0 rfl
                                  have qhT0_1 : w24.cell? ⟨w.heap.size, 1, none⟩ = some (.int .i64 v.sy) := cell_at hT0 rfl
                                  have qhT0_2 : w24.cell? ⟨w.heap.size, 2, none⟩ = some (.int .i64 v.dx) := cell_at hT0 rfl
                                  have qhT0_3 : w24.cell? ⟨w.heap.size, 3, none⟩ = some (.int .i64 v.dy) := cell_at hT0 rfl
                                  have qhT0_4 : w24.cell? ⟨w.heap.size, 4, none⟩ = some (.int .i64 (N : Int)) := cell_at hT0 rfl
                                  have qhT1_0 : w24.cell? ⟨w.heap.size + 1, 0, none⟩ = some (.int .i64 u.ring) := cell_at hT1 rfl
                                  have qhT1_1 : w24.cell? ⟨w.heap.size + 1, 1, none⟩ = some (.int .i64 u.speed) := cell_at hT1 rfl
                                  have qhT1_2 : w24.cell? ⟨w.heap.size + 1, 2, none⟩ = some (.int .i64 u.loss) := cell_at hT1 rfl
                                  have qhT1_3 : w24.cell? ⟨w.heap.size + 1, 3, none⟩ = some (.int .i64 u.clear) := cell_at hT1 rfl
                                  have qhT1_4 : w24.cell? ⟨w.heap.size + 1, 4, none⟩ = some (.int .i64 u.soft) := cell_at hT1 rfl
                                  have qhT1_5 : w24.cell? ⟨w.heap.size + 1, 5, none⟩ = some (.slice A M cap) := cell_at hT1 rfl
                                  have qhT2_0 : w24.cell? ⟨w.heap.size + 1 + 1, 0, none⟩ = some (.slice S SM scap) := cell_at hT2 rfl
                                  have qhT2_1 : w24.cell? ⟨w.heap.size + 1 + 1, 1, none⟩ = some (.slice G gn gcap) := cell_at hT2 rfl
                                  have qhT2_2 : w24.cell? ⟨w.heap.size + 1 + 1, 2, none⟩ = some (.int .i64 (TK : Int)) := cell_at hT2 rfl
                                  have qt9_0 : w24.cell? ⟨bt9, 0, none⟩ = some (.int .i64 u.ring) := cell_at t9 rfl
                                  have qt9_1 : w24.cell? ⟨bt9, 1, none⟩ = some (.int .i64 u.speed) := cell_at t9 rfl
                                  have qt9_2 : w24.cell? ⟨bt9, 2, none⟩ = some (.int .i64 u.loss) := cell_at t9 rfl
                                  have qt9_3 : w24.cell? ⟨bt9, 3, none⟩ = some (.int .i64 u.clear) := cell_at t9 rfl
                                  have qt9_4 : w24.cell? ⟨bt9, 4, none⟩ = some (.int .i64 u.soft) := cell_at t9 rfl
                                  have qt16_0 : w24.cell? ⟨b16, 0, none⟩ = some (.int .i64 (v.sx + 7)) := cell_at t16 rfl
                                  have qt16_1 : w24.cell? ⟨b16, 1, none⟩ = some (.int .i64 (v.sy - 9)) := cell_at t16 rfl
                                  have qt16_2 : w24.cell? ⟨b16, 2, none⟩ = some (.int .i64 v.dx) := cell_at t16 rfl
                                  have qt16_3 : w24.cell? ⟨b16, 3, none⟩ = some (.int .i64 v.dy) := cell_at t16 rfl
                                  have qt16_4 : w24.cell? ⟨b16, 4, none⟩ = some (.int .i64 (N : Int)) := cell_at t16 rfl
                                  have fl : w24.cell? ⟨g5, n + d, none⟩ = some (.int .i64 (u.soft + 1)) := cell_at h5 (by rw [HLG.out (n + d) (by rw [HN.out]; omega), hlv])
                                  clear hlv
                                  have hnd : ((n : Int) + (d : Int)).toNat = n + d := by omega
                                  have hnd0 : (0 : Int) ≤ (n : Int) + (d : Int) := by omega
                                  have hnd1 : (n : Int) + (d : Int) < (N : Int) := by omega
                                  go_wp2
                                  have zg5 : g5 < w24.heap.size := (Array.getElem?_eq_some_iff.1 h5).1
                                  have zhT0 : w.heap.size < w24.heap.size := (Array.getElem?_eq_some_iff.1 hT0).1
                                  have zhT1 : w.heap.size + 1 < w24.heap.size := (Array.getElem?_eq_some_iff.1 hT1).1
                                  have zhT2 : w.heap.size + 1 + 1 < w24.heap.size := (Array.getElem?_eq_some_iff.1 hT2).1
                                  have zt9 : bt9 < w24.heap.size := (Array.getElem?_eq_some_iff.1 t9).1
                                  have zt16 : b16 < w24.heap.size := (Array.getElem?_eq_some_iff.1 t16).1
                                  refine wp_region_growG (by kernel_rfl) (by kernel_rfl) ?_
                                  repeat (go_big_quiet_step ((first | fail)))
                                  refine wpQuiet_nil (gw_out ?_)
                                  intro w25 hS
                                  replace hBd := hBd.call hS rfl
                                  have hwd : IntKind.i64.wrap ((n : Int) + (d : Int) + 1) = (n : Int) + ((d + 1 : Nat) : Int) := by rw [wrapI72 _ (by omega) (by omega)]; omega
                                  go_wp2
                                  go_roundw
                                  case rel => exact ⟨d + 1, by omega, by first | rfl | go_num | (congr 1; omega), hBd⟩
                                  case measure => simp [intOf]; omega
                        · as_aux_lemma =>
                            obtain rfl : TK = d := by omega
                            clear hdK
                            have hlt2 : ¬ ((n : Int) + (TK : Int)) < ((n : Int) + (TK : Int)) := by omega
                            have qhT0_0 : w23.cell? ⟨w.heap.size, 0, none⟩ = some (.int .i64 v.sx) := cell_at hT0 rfl
                            have qhT0_1 : w23.cell? ⟨w.heap.size, 1, none⟩ = some (.int .i64 v.sy) := cell_at hT0 rfl
                            have qhT0_2 : w23.cell? ⟨w.heap.size, 2, none⟩ = some (.int .i64 v.dx) := cell_at hT0 rfl
                            have qhT0_3 : w23.cell? ⟨w.heap.size, 3, none⟩ = some (.int .i64 v.dy) := cell_at hT0 rfl
                            have qhT0_4 : w23.cell? ⟨w.heap.size, 4, none⟩ = some (.int .i64 (N : Int)) := cell_at hT0 rfl
                            have qhT1_0 : w23.cell? ⟨w.heap.size + 1, 0, none⟩ = some (.int .i64 u.ring) := cell_at hT1 rfl
                            have qhT1_1 : w23.cell? ⟨w.heap.size + 1, 1, none⟩ = some (.int .i64 u.speed) := cell_at hT1 rfl
                            have qhT1_2 : w23.cell? ⟨w.heap.size + 1, 2, none⟩ = some (.int .i64 u.loss) := cell_at hT1 rfl
                            have qhT1_3 : w23.cell? ⟨w.heap.size + 1, 3, none⟩ = some (.int .i64 u.clear) := cell_at hT1 rfl
                            have qhT1_4 : w23.cell? ⟨w.heap.size + 1, 4, none⟩ = some (.int .i64 u.soft) := cell_at hT1 rfl
                            have qhT1_5 : w23.cell? ⟨w.heap.size + 1, 5, none⟩ = some (.slice A M cap) := cell_at hT1 rfl
                            have qhT2_0 : w23.cell? ⟨w.heap.size + 1 + 1, 0, none⟩ = some (.slice S SM scap) := cell_at hT2 rfl
                            have qhT2_1 : w23.cell? ⟨w.heap.size + 1 + 1, 1, none⟩ = some (.slice G gn gcap) := cell_at hT2 rfl
                            have qhT2_2 : w23.cell? ⟨w.heap.size + 1 + 1, 2, none⟩ = some (.int .i64 (TK : Int)) := cell_at hT2 rfl
                            have qt9_0 : w23.cell? ⟨bt9, 0, none⟩ = some (.int .i64 u.ring) := cell_at t9 rfl
                            have qt9_1 : w23.cell? ⟨bt9, 1, none⟩ = some (.int .i64 u.speed) := cell_at t9 rfl
                            have qt9_2 : w23.cell? ⟨bt9, 2, none⟩ = some (.int .i64 u.loss) := cell_at t9 rfl
                            have qt9_3 : w23.cell? ⟨bt9, 3, none⟩ = some (.int .i64 u.clear) := cell_at t9 rfl
                            have qt9_4 : w23.cell? ⟨bt9, 4, none⟩ = some (.int .i64 u.soft) := cell_at t9 rfl
                            have qt16_0 : w23.cell? ⟨b16, 0, none⟩ = some (.int .i64 (v.sx + 7)) := cell_at t16 rfl
                            have qt16_1 : w23.cell? ⟨b16, 1, none⟩ = some (.int .i64 (v.sy - 9)) := cell_at t16 rfl
                            have qt16_2 : w23.cell? ⟨b16, 2, none⟩ = some (.int .i64 v.dx) := cell_at t16 rfl
                            have qt16_3 : w23.cell? ⟨b16, 3, none⟩ = some (.int .i64 v.dy) := cell_at t16 rfl
                            have qt16_4 : w23.cell? ⟨b16, 4, none⟩ = some (.int .i64 (N : Int)) := cell_at t16 rfl
                            by_cases hK1 : TK = 1
                            · as_aux_lemma =>
                                have hk1 : ((TK : Int) == 1) = true := by simp; omega
                                go_wp2_with fail
                                refine (c15 _).mono ?_
                                rintro e wz ⟨rfl, hz⟩
                                go_wp2
                                go_ret
                                exact ⟨rfl, hB23.call hz rfl⟩
                            · as_aux_lemma =>
                                have hk1 : ((TK : Int) == 1) = false := by simp; omega
                                obtain ⟨m, hm2, hle⟩ := HLS.out (by omega)
                                have HM2 := Lib.hid hm2
                                have hle2 : m ≤ (n : Int) := hle
                                clear hm2 hle
                                have hwk : IntKind.i64.wrap ((TK : Int) - 1) = (TK : Int) - 1 := wrapI72 _ (by omega) (by omega)
                                go_wp2
                                refine wp_region_plan [(0, true), (1, true), (2, true), (3, true), (5, true), (6, true), (8, true), (9, true), (10, true), (4, false), (7, false), (11, false), (12, true), (13, true), (14, true), (15, true), (16, true)] w23.heap.size (by kernel_rfl) (by kernel_rfl) (Nat.le_refl _) (fun _ _ d _ _ h => by cases d <;> exact h) ?_
                                have hC : Below w23.heap.size w23 w23 := Below.refl _ _
                                have zhT0 : w.heap.size < w23.heap.size := (Array.getElem?_eq_some_iff.1 hT0).1
                                have zhT1 : w.heap.size + 1 < w23.heap.size := (Array.getElem?_eq_some_iff.1 hT1).1
                                have zhT2 : w.heap.size + 1 + 1 < w23.heap.size := (Array.getElem?_eq_some_iff.1 hT2).1
                                have zt9 : bt9 < w23.heap.size := (Array.getElem?_eq_some_iff.1 t9).1
                                have zt16 : b16 < w23.heap.size := (Array.getElem?_eq_some_iff.1 t16).1
                                repeat (first | (refine wpPlanA_skip _ rfl (by rfl) ?_; simp only [Act.put, List.setIfInBounds_toArray, List.set_cons_zero, List.set_cons_succ]) | (refine wpPlanA_soft _ ?_ rfl (by rfl) ?_ ?_; rotate_left; (intro wq hq hcq; go_simp; first | exact rfl | exact ⟨rfl, rfl⟩); simp only [Act.put, List.setIfInBounds_toArray, List.set_cons_zero, List.set_cons_succ]))
                                refine wpPlanA_hard _ rfl (by rfl) (fun w24 hS K hK => ?_)
                                have hB24 := hB23.call hS rfl
                                replace hC := hC.call hS rfl
                                replace hT0 := blkb hT0 hS
                                replace hT1 := blkb hT1 hS
                                replace hT2 := blkb hT2 hS
                                replace H := H.below hS
                                replace HS := HS.below hS
                                replace h5 := blkb h5 hS
                                replace t9 := blkb t9 hS
                                replace t16 := blkb t16 hS
                                replace hBd := hBd.call hS rfl
                                clear hS hB23
                                go_simp
                                refine (H17.out _ H).mono ?_
                                rintro e w25 ⟨_, rfl, ⟨AT, CT, rfl, ht⟩, hb⟩
                                have hB25 := hB24.call hb rfl
                                replace hC := hC.call hb rfl
                                replace hT0 := blkb hT0 hb
                                replace hT1 := blkb hT1 hb
                                replace hT2 := blkb hT2 hb
                                replace H := H.below hb
                                replace HS := HS.below hb
                                replace h5 := blkb h5 hb
                                replace t9 := blkb t9 hb
                                replace t16 := blkb t16 hb
                                replace hBd := hBd.call hb rfl
                                clear hb hB24
                                refine hK _ _ hC ?_
                                clear hK K
                                try simp only [Act.put, List.setIfInBounds_toArray, List.set_cons_zero, List.set_cons_succ]
                                refine wpPlanA_hard _ rfl (by rfl) (fun w26 hS K hK => ?_)
                                have hB26 := hB25.call hS rfl
                                replace hC := hC.call hS rfl
                                replace hT0 := blkb hT0 hS
                                replace hT1 := blkb hT1 hS
                                replace hT2 := blkb hT2 hS
                                replace H := H.below hS
                                replace HS := HS.below hS
                                replace h5 := blkb h5 hS
                                replace t9 := blkb t9 hS
                                replace t16 := blkb t16 hS
                                replace hBd := hBd.call hS rfl
                                replace ht := ht.below hS
                                clear hS hB25
                                go_simp
                                refine (H39.out _ HS).mono ?_
                                rintro e w27 ⟨_, rfl, ⟨AS, CS, rfl, hts⟩, hb⟩
                                have hB27 := hB26.call hb rfl
                                replace hC := hC.call hb rfl
                                replace hT0 := blkb hT0 hb
                                replace hT1 := blkb hT1 hb
                                replace hT2 := blkb hT2 hb
                                replace H := H.below hb
                                replace HS := HS.below hb
                                replace h5 := blkb h5 hb
                                replace t9 := blkb t9 hb
                                replace t16 := blkb t16 hb
                                replace hBd := hBd.call hb rfl
                                replace ht := ht.below hb
                                clear hb hB26
                                refine hK _ _ hC ?_
                                clear hK K
                                try simp only [Act.put, List.setIfInBounds_toArray, List.set_cons_zero, List.set_cons_succ]
                                refine wpPlanA_hard _ rfl (by rfl) (fun w28 hS K hK => ?_)
                                have hB28 := hB27.call hS rfl
                                replace hC := hC.call hS rfl
                                replace hT0 := blkb hT0 hS
                                replace hT1 := blkb hT1 hS
                                replace hT2 := blkb hT2 hS
                                replace H := H.below hS
                                replace HS := HS.below hS
                                replace h5 := blkb h5 hS
                                replace t9 := blkb t9 hS
                                replace t16 := blkb t16 hS
                                replace hBd := hBd.call hS rfl
                                replace ht := ht.below hS
                                replace hts := hts.below hS
                                clear hS hB27
                                go_simp
                                refine (H38.out _ ((TK : Int) - 1) AT CT AS CS ht hts (m, 0) HM2.out.symm).mono ?_
                                rintro e w29 ⟨rfl, hb⟩
                                have hB29 := hB28.call hb rfl
                                replace hC := hC.call hb rfl
                                replace hT0 := blkb hT0 hb
                                replace hT1 := blkb hT1 hb
                                replace hT2 := blkb hT2 hb
                                replace H := H.below hb
                                replace HS := HS.below hb
                                replace h5 := blkb h5 hb
                                replace t9 := blkb t9 hb
                                replace t16 := blkb t16 hb
                                replace hBd := hBd.call hb rfl
                                replace ht := ht.below hb
                                replace hts := hts.below hb
                                clear hb hB28
                                refine hK _ _ hC ?_
                                clear hK K
                                try simp only [Act.put, List.setIfInBounds_toArray, List.set_cons_zero, List.set_cons_succ]
                                repeat (first | (refine wpPlanA_skip _ rfl (by rfl) ?_; simp only [Act.put, List.setIfInBounds_toArray, List.set_cons_zero, List.set_cons_succ]) | (refine wpPlanA_soft _ ?_ rfl (by rfl) ?_ ?_; rotate_left; (intro wq hq hcq; go_simp; first | exact rfl | exact ⟨rfl, rfl⟩); simp only [Act.put, List.setIfInBounds_toArray, List.set_cons_zero, List.set_cons_succ]))
                                clear qhT0_0 qhT0_1 qhT0_2 qhT0_3 qhT0_4 qhT1_0 qhT1_1 qhT1_2 qhT1_3 qhT1_4 qhT1_5 qhT2_0 qhT2_1 qhT2_2 qt9_0 qt9_1 qt9_2 qt9_3 qt9_4 qt16_0 qt16_1 qt16_2 qt16_3 qt16_4
                                refine wpPlanA_nil (fun w30 hS => ?_)
                                clear hC zhT0 zhT1 zhT2 zt9 zt16
                                have hB30 := hB29.call hS rfl
                                replace hT0 := blkb hT0 hS
                                replace hT1 := blkb hT1 hS
                                replace hT2 := blkb hT2 hS
                                replace H := H.below hS
                                replace HS := HS.below hS
                                replace h5 := blkb h5 hS
                                replace t9 := blkb t9 hS
                                replace t16 := blkb t16 hS
                                replace hBd := hBd.call hS rfl
                                replace ht := ht.below hS
                                replace hts := hts.below hS
                                clear hS hB29
                                have qhT0_0 : w30.cell? ⟨w.heap.size, 0, none⟩ = some (.int .i64 v.sx) := cell_at hT0 rfl
                                have qhT0_1 : w30.cell? ⟨w.heap.size, 1, none⟩ = some (.int .i64 v.sy) := cell_at hT0 rfl
                                have qhT0_2 : w30.cell? ⟨w.heap.size, 2, none⟩ = some (.int .i64 v.dx) := cell_at hT0 rfl
                                have qhT0_3 : w30.cell? ⟨w.heap.size, 3, none⟩ = some (.int .i64 v.dy) := cell_at hT0 rfl
                                have qhT0_4 : w30.cell? ⟨w.heap.size, 4, none⟩ = some (.int .i64 (N : Int)) := cell_at hT0 rfl
                                have qhT1_0 : w30.cell? ⟨w.heap.size + 1, 0, none⟩ = some (.int .i64 u.ring) := cell_at hT1 rfl
                                have qhT1_1 : w30.cell? ⟨w.heap.size + 1, 1, none⟩ = some (.int .i64 u.speed) := cell_at hT1 rfl
                                have qhT1_2 : w30.cell? ⟨w.heap.size + 1, 2, none⟩ = some (.int .i64 u.loss) := cell_at hT1 rfl
                                have qhT1_3 : w30.cell? ⟨w.heap.size + 1, 3, none⟩ = some (.int .i64 u.clear) := cell_at hT1 rfl
                                have qhT1_4 : w30.cell? ⟨w.heap.size + 1, 4, none⟩ = some (.int .i64 u.soft) := cell_at hT1 rfl
                                have qhT1_5 : w30.cell? ⟨w.heap.size + 1, 5, none⟩ = some (.slice A M cap) := cell_at hT1 rfl
                                have qhT2_0 : w30.cell? ⟨w.heap.size + 1 + 1, 0, none⟩ = some (.slice S SM scap) := cell_at hT2 rfl
                                have qhT2_1 : w30.cell? ⟨w.heap.size + 1 + 1, 1, none⟩ = some (.slice G gn gcap) := cell_at hT2 rfl
                                have qhT2_2 : w30.cell? ⟨w.heap.size + 1 + 1, 2, none⟩ = some (.int .i64 (TK : Int)) := cell_at hT2 rfl
                                have qt9_0 : w30.cell? ⟨bt9, 0, none⟩ = some (.int .i64 u.ring) := cell_at t9 rfl
                                have qt9_1 : w30.cell? ⟨bt9, 1, none⟩ = some (.int .i64 u.speed) := cell_at t9 rfl
                                have qt9_2 : w30.cell? ⟨bt9, 2, none⟩ = some (.int .i64 u.loss) := cell_at t9 rfl
                                have qt9_3 : w30.cell? ⟨bt9, 3, none⟩ = some (.int .i64 u.clear) := cell_at t9 rfl
                                have qt9_4 : w30.cell? ⟨bt9, 4, none⟩ = some (.int .i64 u.soft) := cell_at t9 rfl
                                have qt16_0 : w30.cell? ⟨b16, 0, none⟩ = some (.int .i64 (v.sx + 7)) := cell_at t16 rfl
                                have qt16_1 : w30.cell? ⟨b16, 1, none⟩ = some (.int .i64 (v.sy - 9)) := cell_at t16 rfl
                                have qt16_2 : w30.cell? ⟨b16, 2, none⟩ = some (.int .i64 v.dx) := cell_at t16 rfl
                                have qt16_3 : w30.cell? ⟨b16, 3, none⟩ = some (.int .i64 v.dy) := cell_at t16 rfl
                                have qt16_4 : w30.cell? ⟨b16, 4, none⟩ = some (.int .i64 (N : Int)) := cell_at t16 rfl
                                clear ht
                                clear hts
                                go_wp2_with fail
                                refine (c15 _).mono ?_
                                rintro e wz ⟨rfl, hz⟩
                                go_wp2
                                go_ret
                                exact ⟨rfl, hB30.call hz rfl⟩

theorem l8 (v : Ves) (u : Wat) (A : Option Addr) (cap : Nat) (l : List Sgt) (S : Option Addr) (scap : Nat) (sh : List Spn) (G : Option Addr) (gn gcap : Nat) (tk : Int) (w : World) (H : RdL w 3 Sgt.enc A l) (HS : RdL w 2 Spn.enc S sh) (hAz : A = none → cap = 0) (hs0 : S = none → scap = 0) (hcap : l.length ≤ cap) : Calls Tryz.prog 8 #[.agg #[.int .i64 v.sx, .int .i64 v.sy, .int .i64 v.dx, .int .i64 v.dy, .int .i64 v.n], .agg #[.int .i64 u.ring, .int .i64 u.speed, .int .i64 u.loss, .int .i64 u.clear, .int .i64 u.soft, .slice A l.length cap], .agg #[.slice S sh.length scap, .slice G gn gcap, .int .i64 tk]] w fun en w' => en = .returned (.bool true) ∧ Below w.heap.size w w' := by
  by_cases h : Mo.all v u l = 0 ∧ Mo.spans sh = 0 ∧ Mo.range tk 1 4096 = 0
  · have hn := (Mo.all_ok h.1).1.n
    have hk := Mo.range_zero h.2.2
    have hN : v.n = ((v.n.toNat : Nat) : Int) := by omega
    have hK : tk = ((tk.toNat : Nat) : Int) := by omega
    have := l8_ok v u A cap l S scap sh G gn gcap tk.toNat v.n.toNat w H HS hAz hs0 hcap h.1 h.2.1 (by omega) hN
    rw [← hN, ← hK] at this
    exact this
  · exact l8_bad v u A cap l S scap sh G gn gcap tk w H HS hAz hs0 h

end Go.Proofs.YtndhjkammoeikaaGreatDoor
