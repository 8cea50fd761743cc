/- A part of the proofs about chapter 9: contracts of functions and plain laws (W65). -/
import Derived.Test.YtndhjkammoeikaaGreatDoorL01
set_option linter.all false
namespace Go.Proofs.YtndhjkammoeikaaGreatDoor
open Go.RowKit
set_option maxHeartbeats 1000000
set_option maxRecDepth 20000

def Mo.insS (v : Ves) (u : Wat) (l : List Sgt) : List Bool := if Mo.all v u l = 0 then Mo.insides v u l else []
def Mo.levS (v : Ves) (u : Wat) (l : List Sgt) : List Int := if Mo.all v u l = 0 then Mo.levels v u l else []
def Mo.silS (v : Ves) (u : Wat) (l : List Sgt) : List Spn := if Mo.all v u l = 0 then Mo.runs (fun (t : Nat) => Mo.level v u l t == 0) v.n.toNat else []
theorem Mo.insides_len (v : Ves) (u : Wat) (l : List Sgt) : (Mo.insides v u l).length = v.n.toNat := by simp [Mo.insides]
theorem Mo.levels_len (v : Ves) (u : Wat) (l : List Sgt) : (Mo.levels v u l).length = v.n.toNat := by simp [Mo.levels]

theorem u16 (v : Ves) (u : Wat) (A : Option Addr) (cap : Nat) (l : List Sgt) (w : World) (hl : l.length ≤ 1000000) (H : RdL w 3 Sgt.enc A l) (E : Int) (hE : E = Mo.all v u l) (X : List Bool) (hX : X = Mo.insS v u l) :
    Calls Tryz.prog 16 #[.agg #[.int .i64 v.sx, .int .i64 v.sy, .int .i64 v.dx, .int .i64 v.dy, .int .i64 v.n], .agg #[.int .i64 u.ring, .int .i64 u.speed, .int .i64 u.loss, .int .i64 u.clear, .int .i64 u.soft], .slice A l.length cap] w fun en w' => ∃ A1 C1, en = .returned (.tuple #[.slice A1 X.length C1, .int .i64 E]) ∧ RdS w' 1 A1 X.length (X.map Value.bool) ∧ Below w.heap.size w w' := by
  subst hE
  subst hX
  unfold Mo.insS
  by_cases h : Mo.all v u l = 0
  · rw [if_pos h, h]
    refine (c16_ok v u A cap l w H h).mono ?_
    rintro e w' ⟨g, rfl, h1, _, hb⟩
    rw [Mo.insides_len]
    exact ⟨_, _, rfl, RdS.of_block h1 (by rw [List.length_map, Mo.insides_len, Nat.mul_one]), hb⟩
  · rw [if_neg h]
    refine (c16_bad v u A cap l w hl H h).mono ?_
    rintro e w' ⟨rfl, hb⟩
    exact ⟨none, 0, rfl, ⟨rfl, fun h => absurd h (by simp)⟩, hb⟩

theorem u18 (v : Ves) (u : Wat) (A : Option Addr) (cap : Nat) (l : List Sgt) (w : World) (hl : l.length ≤ 1000000) (H : RdL w 3 Sgt.enc A l) (E : Int) (hE : E = Mo.all v u l) (X : List Int) (hX : X = Mo.levS v u l) :
    Calls Tryz.prog 18 #[.agg #[.int .i64 v.sx, .int .i64 v.sy, .int .i64 v.dx, .int .i64 v.dy, .int .i64 v.n], .agg #[.int .i64 u.ring, .int .i64 u.speed, .int .i64 u.loss, .int .i64 u.clear, .int .i64 u.soft], .slice A l.length cap] w fun en w' => ∃ A1 C1, en = .returned (.tuple #[.slice A1 X.length C1, .int .i64 E]) ∧ RdS w' 1 A1 X.length (X.map (Value.int .i64)) ∧ Below w.heap.size w w' := by
  subst hE
  subst hX
  unfold Mo.levS
  by_cases h : Mo.all v u l = 0
  · rw [if_pos h, h]
    refine (c18_ok v u A cap l w H h).mono ?_
    rintro e w' ⟨g, rfl, h1, _, hb⟩
    rw [Mo.levels_len]
    exact ⟨_, _, rfl, RdS.of_block h1 (by rw [List.length_map, Mo.levels_len, Nat.mul_one]), hb⟩
  · rw [if_neg h]
    refine (c18_bad v u A cap l w hl H h).mono ?_
    rintro e w' ⟨rfl, hb⟩
    exact ⟨none, 0, rfl, ⟨rfl, fun h => absurd h (by simp)⟩, hb⟩

theorem u19 (v : Ves) (u : Wat) (A : Option Addr) (cap : Nat) (l : List Sgt) (w : World) (hl : l.length ≤ 1000000) (H : RdL w 3 Sgt.enc A l) (E : Int) (hE : E = Mo.all v u l) (X : List Spn) (hX : X = Mo.silS v u l) :
    Calls Tryz.prog 19 #[.agg #[.int .i64 v.sx, .int .i64 v.sy, .int .i64 v.dx, .int .i64 v.dy, .int .i64 v.n], .agg #[.int .i64 u.ring, .int .i64 u.speed, .int .i64 u.loss, .int .i64 u.clear, .int .i64 u.soft], .slice A l.length cap] w fun en w' => ∃ A1 C1, en = .returned (.tuple #[.slice A1 X.length C1, .int .i64 E]) ∧ RdS w' 2 A1 X.length (X.flatMap Spn.enc) ∧ Below w.heap.size w w' := by
  subst hE
  subst hX
  unfold Mo.silS
  by_cases h : Mo.all v u l = 0
  · rw [if_pos h, h]
    refine (c19_ok v u A cap l w H h).mono ?_
    rintro e w' ⟨x, rfl, ⟨A1, C1, rfl, h1⟩, hb⟩
    exact ⟨A1, C1, rfl, h1, hb⟩
  · rw [if_neg h]
    refine (c19_bad v u A cap l w hl H h).mono ?_
    rintro e w' ⟨rfl, hb⟩
    exact ⟨none, 0, rfl, ⟨rfl, fun h => absurd h (by simp)⟩, hb⟩

theorem u21 (v : Ves) (u : Wat) (A : Option Addr) (cap : Nat) (l : List Sgt) (w : World) (H : RdL w 3 Sgt.enc A l) (hE : Mo.all v u l = 0) (X : List Bool) (hX : X = Mo.insS v u l) :
    Calls Tryz.prog 21 #[.agg #[.int .i64 v.sx, .int .i64 v.sy, .int .i64 v.dx, .int .i64 v.dy, .int .i64 v.n], .agg #[.int .i64 u.ring, .int .i64 u.speed, .int .i64 u.loss, .int .i64 u.clear, .int .i64 u.soft], .slice A l.length cap] w fun en w' => ∃ A1 C1, en = .returned (.slice A1 X.length C1) ∧ RdS w' 1 A1 X.length (X.map Value.bool) ∧ Below w.heap.size w w' := by
  subst hX
  unfold Mo.insS
  rw [if_pos hE]
  refine (c21 v u A cap l w H hE).mono ?_
  rintro e w' ⟨x, rfl, ⟨A1, C1, rfl, h1⟩, hb⟩
  rw [Mo.insides_len]
  exact ⟨A1, C1, rfl, h1, hb⟩

theorem u22 (v : Ves) (u : Wat) (A : Option Addr) (cap : Nat) (l : List Sgt) (w : World) (H : RdL w 3 Sgt.enc A l) (hE : Mo.all v u l = 0) (X : List Int) (hX : X = Mo.levS v u l) :
    Calls Tryz.prog 22 #[.agg #[.int .i64 v.sx, .int .i64 v.sy, .int .i64 v.dx, .int .i64 v.dy, .int .i64 v.n], .agg #[.int .i64 u.ring, .int .i64 u.speed, .int .i64 u.loss, .int .i64 u.clear, .int .i64 u.soft], .slice A l.length cap] w fun en w' => ∃ A1 C1, en = .returned (.slice A1 X.length C1) ∧ RdS w' 1 A1 X.length (X.map (Value.int .i64)) ∧ Below w.heap.size w w' := by
  subst hX
  unfold Mo.levS
  rw [if_pos hE]
  refine (c22 v u A cap l w H hE).mono ?_
  rintro e w' ⟨x, rfl, ⟨A1, C1, rfl, h1⟩, hb⟩
  rw [Mo.levels_len]
  exact ⟨A1, C1, rfl, h1, hb⟩

theorem u23 (v : Ves) (u : Wat) (A : Option Addr) (cap : Nat) (l : List Sgt) (w : World) (H : RdL w 3 Sgt.enc A l) (hE : Mo.all v u l = 0) (X : List Spn) (hX : X = Mo.silS v u l) :
    Calls Tryz.prog 23 #[.agg #[.int .i64 v.sx, .int .i64 v.sy, .int .i64 v.dx, .int .i64 v.dy, .int .i64 v.n], .agg #[.int .i64 u.ring, .int .i64 u.speed, .int .i64 u.loss, .int .i64 u.clear, .int .i64 u.soft], .slice A l.length cap] w fun en w' => ∃ A1 C1, en = .returned (.slice A1 X.length C1) ∧ RdS w' 2 A1 X.length (X.flatMap Spn.enc) ∧ Below w.heap.size w w' := by
  subst hX
  unfold Mo.silS
  rw [if_pos hE]
  refine (c23 v u A cap l w H hE).mono ?_
  rintro e w' ⟨x, rfl, ⟨A1, C1, rfl, h1⟩, hb⟩
  
  exact ⟨A1, C1, rfl, h1, hb⟩

theorem Mo.lens (v : Ves) (u : Wat) (l : List Sgt) : (Mo.insS v u l).length ≤ 4096 ∧ (Mo.levS v u l).length ≤ 4096 ∧ (Mo.silS v u l).length ≤ 4096 := by
  unfold Mo.insS Mo.levS Mo.silS
  by_cases h : Mo.all v u l = 0
  · rw [if_pos h, if_pos h, if_pos h, Mo.insides_len, Mo.levels_len]
    have hv := (Mo.all_ok h).1.n
    have := Mo.runs_len (fun (t : Nat) => Mo.level v u l t == 0) v.n.toNat
    omega
  · rw [if_neg h, if_neg h, if_neg h]; simp
theorem Mo.nils {v : Ves} {u : Wat} {l : List Sgt} (h : Mo.all v u l ≠ 0) : Mo.insS v u l = [] ∧ Mo.levS v u l = [] ∧ Mo.silS v u l = [] := by
  unfold Mo.insS Mo.levS Mo.silS
  rw [if_neg h, if_neg h, if_neg h]; exact ⟨rfl, rfl, rfl⟩
theorem l3 (v : Ves) (u : Wat) (A : Option Addr) (cap : Nat) (l : List Sgt) (w : World) (H : RdL w 3 Sgt.enc A l) :
    Calls Tryz.prog 3 #[.agg #[.int .i64 v.sx, .int .i64 v.sy, .int .i64 v.dx, .int .i64 v.dy, .int .i64 v.n], .agg #[.int .i64 u.ring, .int .i64 u.speed, .int .i64 u.loss, .int .i64 u.clear, .int .i64 u.soft], .slice A l.length cap] w fun en w' => en = .returned (.bool true) ∧ Below w.heap.size w w' := by
  obtain ⟨N, hN⟩ : ∃ N, N = l.length := ⟨_, rfl⟩
  obtain ⟨E, hE⟩ : ∃ E, E = Mo.all v u l := ⟨_, rfl⟩
  obtain ⟨XI, hXI⟩ : ∃ X, X = Mo.insS v u l := ⟨_, rfl⟩
  obtain ⟨XL, hXL⟩ : ∃ X, X = Mo.levS v u l := ⟨_, rfl⟩
  obtain ⟨XS, hXS⟩ : ∃ X, X = Mo.silS v u l := ⟨_, rfl⟩
  have hlen := Mo.lens v u l
  rw [← hXI, ← hXL, ← hXS] at hlen
  obtain ⟨hli, hll, hls⟩ := hlen
  rw [← hN]
  have HN := Lib.hid hN
  have HE := Lib.hid hE
  have HI := Lib.hid hXI
  have HL := Lib.hid hXL
  have HS := Lib.hid hXS
  clear hN hE hXI hXL hXS
  go_enter Tryz.func3, Tryz.ntmps3
  obtain ⟨w0, hW⟩ : ∃ W, W = (w.alloc (Obj.cells #[.int .i64 v.sx, .int .i64 v.sy, .int .i64 v.dx, .int .i64 v.dy, .int .i64 v.n] 25)).alloc (Obj.cells #[.int .i64 u.ring, .int .i64 u.speed, .int .i64 u.loss, .int .i64 u.clear, .int .i64 u.soft] 27) := ⟨_, rfl⟩
  have hT0 : w0.heap[w.heap.size]? = some (.cells #[.int .i64 v.sx, .int .i64 v.sy, .int .i64 v.dx, .int .i64 v.dy, .int .i64 v.n] 25 (0, 0)) := by rw [hW]; exact heap_old (by simp <;> omega) (heap_new (by simp))
  have hT1 : w0.heap[w.heap.size + 1]? = some (.cells #[.int .i64 u.ring, .int .i64 u.speed, .int .i64 u.loss, .int .i64 u.clear, .int .i64 u.soft] 27 (0, 0)) := by rw [hW]; exact heap_new (by simp)
  have hB0 : Below w.heap.size w w0 := by rw [hW]; exact (((Below.refl _ _).alloc (by first | omega | (simp <;> omega)) _).alloc (by first | omega | (simp <;> omega)) _)
  replace H := H.below hB0
  go_wp2_with fail
  rw [← hW]
  clear hW
  have qhT0_0 : w0.cell? ⟨w.heap.size, 0, none⟩ = some (.int .i64 v.sx) := cell_at hT0 rfl
  have qhT0_1 : w0.cell? ⟨w.heap.size, 1, none⟩ = some (.int .i64 v.sy) := cell_at hT0 rfl
  have qhT0_2 : w0.cell? ⟨w.heap.size, 2, none⟩ = some (.int .i64 v.dx) := cell_at hT0 rfl
  have qhT0_3 : w0.cell? ⟨w.heap.size, 3, none⟩ = some (.int .i64 v.dy) := cell_at hT0 rfl
  have qhT0_4 : w0.cell? ⟨w.heap.size, 4, none⟩ = some (.int .i64 v.n) := cell_at hT0 rfl
  have qhT1_0 : w0.cell? ⟨w.heap.size + 1, 0, none⟩ = some (.int .i64 u.ring) := cell_at hT1 rfl
  have qhT1_1 : w0.cell? ⟨w.heap.size + 1, 1, none⟩ = some (.int .i64 u.speed) := cell_at hT1 rfl
  have qhT1_2 : w0.cell? ⟨w.heap.size + 1, 2, none⟩ = some (.int .i64 u.loss) := cell_at hT1 rfl
  have qhT1_3 : w0.cell? ⟨w.heap.size + 1, 3, none⟩ = some (.int .i64 u.clear) := cell_at hT1 rfl
  have qhT1_4 : w0.cell? ⟨w.heap.size + 1, 4, none⟩ = some (.int .i64 u.soft) := cell_at hT1 rfl
  go_wp2_with fail
  refine (c14 v A N cap _).mono ?_
  rintro e w1 ⟨⟨b, rfl, hb1⟩, hb⟩
  clear qhT0_0 qhT0_1 qhT0_2 qhT0_3 qhT0_4 qhT1_0 qhT1_1 qhT1_2 qhT1_3 qhT1_4
  have hS := hb
  have hB1 := hB0.call hS rfl
  replace hT0 := blkb hT0 hS
  replace hT1 := blkb hT1 hS
  replace H := H.below hS
  clear hS hB0
  have qhT0_0 : w1.cell? ⟨w.heap.size, 0, none⟩ = some (.int .i64 v.sx) := cell_at hT0 rfl
  have qhT0_1 : w1.cell? ⟨w.heap.size, 1, none⟩ = some (.int .i64 v.sy) := cell_at hT0 rfl
  have qhT0_2 : w1.cell? ⟨w.heap.size, 2, none⟩ = some (.int .i64 v.dx) := cell_at hT0 rfl
  have qhT0_3 : w1.cell? ⟨w.heap.size, 3, none⟩ = some (.int .i64 v.dy) := cell_at hT0 rfl
  have qhT0_4 : w1.cell? ⟨w.heap.size, 4, none⟩ = some (.int .i64 v.n) := cell_at hT0 rfl
  have qhT1_0 : w1.cell? ⟨w.heap.size + 1, 0, none⟩ = some (.int .i64 u.ring) := cell_at hT1 rfl
  have qhT1_1 : w1.cell? ⟨w.heap.size + 1, 1, none⟩ = some (.int .i64 u.speed) := cell_at hT1 rfl
  have qhT1_2 : w1.cell? ⟨w.heap.size + 1, 2, none⟩ = some (.int .i64 u.loss) := cell_at hT1 rfl
  have qhT1_3 : w1.cell? ⟨w.heap.size + 1, 3, none⟩ = some (.int .i64 u.clear) := cell_at hT1 rfl
  have qhT1_4 : w1.cell? ⟨w.heap.size + 1, 4, none⟩ = some (.int .i64 u.soft) := cell_at hT1 rfl
  clear hb
  cases b
  case false =>
    go_wp2_with fail
    refine (c15 _).mono ?_
    rintro e wz ⟨rfl, hz⟩
    go_wp2
    go_ret
    exact ⟨rfl, hB1.call hz rfl⟩
  have hl := hb1 rfl
  clear hb1
  have hl6 : l.length ≤ 1000000 := by rw [← HN.out]; omega
  go_wp2
  refine wp_region_plan [(0, true), (1, true), (2, true), (3, false), (4, false), (5, true), (6, true), (7, true), (8, true), (9, true)] w1.heap.size (by kernel_rfl) (by kernel_rfl) (Nat.le_refl _) (fun _ _ d _ _ h => by cases d <;> exact h) ?_
  have hC : Below w1.heap.size w1 w1 := Below.refl _ _
  have zhT0 : w.heap.size < w1.heap.size := (Array.getElem?_eq_some_iff.1 hT0).1
  have zhT1 : w.heap.size + 1 < w1.heap.size := (Array.getElem?_eq_some_iff.1 hT1).1
  repeat (first | (refine wpPlanA_skip _ rfl (by rfl) ?_; simp only [Act.put, List.setIfInBounds_toArray, List.set_cons_zero, List.set_cons_succ]) | (refine wpPlanA_soft _ ?_ rfl (by rfl) ?_ ?_; rotate_left; (intro wq hq hcq; go_simp; first | exact rfl | exact ⟨rfl, rfl⟩); simp only [Act.put, List.setIfInBounds_toArray, List.set_cons_zero, List.set_cons_succ]))
  simp only [HN.out]
  refine wpPlanA_hard _ rfl (by rfl) (fun w2 hS K hK => ?_)
  have hB2 := hB1.call hS rfl
  replace hC := hC.call hS rfl
  replace hT0 := blkb hT0 hS
  replace hT1 := blkb hT1 hS
  replace H := H.below hS
  clear hS hB1
  go_simp
  refine (c17 A cap l _ hl6 H).mono ?_
  rintro e w3 ⟨_, rfl, ⟨AT, CT, rfl, ht⟩, hb⟩
  have hB3 := hB2.call hb rfl
  replace hC := hC.call hb rfl
  replace hT0 := blkb hT0 hb
  replace hT1 := blkb hT1 hb
  replace H := H.below hb
  clear hb hB2
  refine hK _ _ hC ?_
  clear hK K
  try simp only [Act.put, List.setIfInBounds_toArray, List.set_cons_zero, List.set_cons_succ]
  refine wpPlanA_hard _ rfl (by rfl) (fun w4 hS K hK => ?_)
  have hB4 := hB3.call hS rfl
  replace hC := hC.call hS rfl
  replace hT0 := blkb hT0 hS
  replace hT1 := blkb hT1 hS
  replace H := H.below hS
  replace ht := ht.below hS
  clear hS hB3
  go_simp
  refine (u16 v u AT CT l _ hl6 ht E HE.out XI HI.out).mono ?_
  rintro e w5 ⟨A1, CA1, rfl, h1, hb⟩
  have hB5 := hB4.call hb rfl
  replace hC := hC.call hb rfl
  replace hT0 := blkb hT0 hb
  replace hT1 := blkb hT1 hb
  replace H := H.below hb
  replace ht := ht.below hb
  clear hb hB4
  refine hK _ _ hC ?_
  clear hK K
  try simp only [Act.put, List.setIfInBounds_toArray, List.set_cons_zero, List.set_cons_succ]
  repeat (first | (refine wpPlanA_skip _ rfl (by rfl) ?_; simp only [Act.put, List.setIfInBounds_toArray, List.set_cons_zero, List.set_cons_succ]) | (refine wpPlanA_soft _ ?_ rfl (by rfl) ?_ ?_; rotate_left; (intro wq hq hcq; go_simp; first | exact rfl | exact ⟨rfl, rfl⟩); simp only [Act.put, List.setIfInBounds_toArray, List.set_cons_zero, List.set_cons_succ]))
  clear qhT0_0 qhT0_1 qhT0_2 qhT0_3 qhT0_4 qhT1_0 qhT1_1 qhT1_2 qhT1_3 qhT1_4
  refine wpPlanA_nil (fun w6 hS => ?_)
  clear hC zhT0 zhT1
  have hB6 := hB5.call hS rfl
  replace hT0 := blkb hT0 hS
  replace hT1 := blkb hT1 hS
  replace H := H.below hS
  replace ht := ht.below hS
  replace h1 := h1.below hS
  clear hS hB5
  have qhT0_0 : w6.cell? ⟨w.heap.size, 0, none⟩ = some (.int .i64 v.sx) := cell_at hT0 rfl
  have qhT0_1 : w6.cell? ⟨w.heap.size, 1, none⟩ = some (.int .i64 v.sy) := cell_at hT0 rfl
  have qhT0_2 : w6.cell? ⟨w.heap.size, 2, none⟩ = some (.int .i64 v.dx) := cell_at hT0 rfl
  have qhT0_3 : w6.cell? ⟨w.heap.size, 3, none⟩ = some (.int .i64 v.dy) := cell_at hT0 rfl
  have qhT0_4 : w6.cell? ⟨w.heap.size, 4, none⟩ = some (.int .i64 v.n) := cell_at hT0 rfl
  have qhT1_0 : w6.cell? ⟨w.heap.size + 1, 0, none⟩ = some (.int .i64 u.ring) := cell_at hT1 rfl
  have qhT1_1 : w6.cell? ⟨w.heap.size + 1, 1, none⟩ = some (.int .i64 u.speed) := cell_at hT1 rfl
  have qhT1_2 : w6.cell? ⟨w.heap.size + 1, 2, none⟩ = some (.int .i64 u.loss) := cell_at hT1 rfl
  have qhT1_3 : w6.cell? ⟨w.heap.size + 1, 3, none⟩ = some (.int .i64 u.clear) := cell_at hT1 rfl
  have qhT1_4 : w6.cell? ⟨w.heap.size + 1, 4, none⟩ = some (.int .i64 u.soft) := cell_at hT1 rfl
  clear ht
  simp only [← HN.out]
  go_wp2
  refine wp_region_plan [(0, true), (1, true), (2, true), (3, false), (4, false), (5, true), (6, true), (7, true), (8, true), (9, true)] w6.heap.size (by kernel_rfl) (by kernel_rfl) (Nat.le_refl _) (fun _ _ d _ _ h => by cases d <;> exact h) ?_
  have hC : Below w6.heap.size w6 w6 := Below.refl _ _
  have zhT0 : w.heap.size < w6.heap.size := (Array.getElem?_eq_some_iff.1 hT0).1
  have zhT1 : w.heap.size + 1 < w6.heap.size := (Array.getElem?_eq_some_iff.1 hT1).1
  repeat (first | (refine wpPlanA_skip _ rfl (by rfl) ?_; simp only [Act.put, List.setIfInBounds_toArray, List.set_cons_zero, List.set_cons_succ]) | (refine wpPlanA_soft _ ?_ rfl (by rfl) ?_ ?_; rotate_left; (intro wq hq hcq; go_simp; first | exact rfl | exact ⟨rfl, rfl⟩); simp only [Act.put, List.setIfInBounds_toArray, List.set_cons_zero, List.set_cons_succ]))
  simp only [HN.out]
  refine wpPlanA_hard _ rfl (by rfl) (fun w7 hS K hK => ?_)
  have hB7 := hB6.call hS rfl
  replace hC := hC.call hS rfl
  replace hT0 := blkb hT0 hS
  replace hT1 := blkb hT1 hS
  replace H := H.below hS
  replace h1 := h1.below hS
  clear hS hB6
  go_simp
  refine (c17 A cap l _ hl6 H).mono ?_
  rintro e w8 ⟨_, rfl, ⟨AT, CT, rfl, ht⟩, hb⟩
  have hB8 := hB7.call hb rfl
  replace hC := hC.call hb rfl
  replace hT0 := blkb hT0 hb
  replace hT1 := blkb hT1 hb
  replace H := H.below hb
  replace h1 := h1.below hb
  clear hb hB7
  refine hK _ _ hC ?_
  clear hK K
  try simp only [Act.put, List.setIfInBounds_toArray, List.set_cons_zero, List.set_cons_succ]
  refine wpPlanA_hard _ rfl (by rfl) (fun w9 hS K hK => ?_)
  have hB9 := hB8.call hS rfl
  replace hC := hC.call hS rfl
  replace hT0 := blkb hT0 hS
  replace hT1 := blkb hT1 hS
  replace H := H.below hS
  replace h1 := h1.below hS
  replace ht := ht.below hS
  clear hS hB8
  go_simp
  refine (u18 v u AT CT l _ hl6 ht E HE.out XL HL.out).mono ?_
  rintro e w10 ⟨A2, CA2, rfl, h2, hb⟩
  have hB10 := hB9.call hb rfl
  replace hC := hC.call hb rfl
  replace hT0 := blkb hT0 hb
  replace hT1 := blkb hT1 hb
  replace H := H.below hb
  replace h1 := h1.below hb
  replace ht := ht.below hb
  clear hb hB9
  refine hK _ _ hC ?_
  clear hK K
  try simp only [Act.put, List.setIfInBounds_toArray, List.set_cons_zero, List.set_cons_succ]
  repeat (first | (refine wpPlanA_skip _ rfl (by rfl) ?_; simp only [Act.put, List.setIfInBounds_toArray, List.set_cons_zero, List.set_cons_succ]) | (refine wpPlanA_soft _ ?_ rfl (by rfl) ?_ ?_; rotate_left; (intro wq hq hcq; go_simp; first | exact rfl | exact ⟨rfl, rfl⟩); simp only [Act.put, List.setIfInBounds_toArray, List.set_cons_zero, List.set_cons_succ]))
  clear qhT0_0 qhT0_1 qhT0_2 qhT0_3 qhT0_4 qhT1_0 qhT1_1 qhT1_2 qhT1_3 qhT1_4
  refine wpPlanA_nil (fun w11 hS => ?_)
  clear hC zhT0 zhT1
  have hB11 := hB10.call hS rfl
  replace hT0 := blkb hT0 hS
  replace hT1 := blkb hT1 hS
  replace H := H.below hS
  replace h1 := h1.below hS
  replace ht := ht.below hS
  replace h2 := h2.below hS
  clear hS hB10
  have qhT0_0 : w11.cell? ⟨w.heap.size, 0, none⟩ = some (.int .i64 v.sx) := cell_at hT0 rfl
  have qhT0_1 : w11.cell? ⟨w.heap.size, 1, none⟩ = some (.int .i64 v.sy) := cell_at hT0 rfl
  have qhT0_2 : w11.cell? ⟨w.heap.size, 2, none⟩ = some (.int .i64 v.dx) := cell_at hT0 rfl
  have qhT0_3 : w11.cell? ⟨w.heap.size, 3, none⟩ = some (.int .i64 v.dy) := cell_at hT0 rfl
  have qhT0_4 : w11.cell? ⟨w.heap.size, 4, none⟩ = some (.int .i64 v.n) := cell_at hT0 rfl
  have qhT1_0 : w11.cell? ⟨w.heap.size + 1, 0, none⟩ = some (.int .i64 u.ring) := cell_at hT1 rfl
  have qhT1_1 : w11.cell? ⟨w.heap.size + 1, 1, none⟩ = some (.int .i64 u.speed) := cell_at hT1 rfl
  have qhT1_2 : w11.cell? ⟨w.heap.size + 1, 2, none⟩ = some (.int .i64 u.loss) := cell_at hT1 rfl
  have qhT1_3 : w11.cell? ⟨w.heap.size + 1, 3, none⟩ = some (.int .i64 u.clear) := cell_at hT1 rfl
  have qhT1_4 : w11.cell? ⟨w.heap.size + 1, 4, none⟩ = some (.int .i64 u.soft) := cell_at hT1 rfl
  clear ht
  simp only [← HN.out]
  go_wp2
  refine wp_region_plan [(0, true), (1, true), (2, true), (3, false), (4, false), (5, true), (6, true), (7, true), (8, true), (9, true)] w11.heap.size (by kernel_rfl) (by kernel_rfl) (Nat.le_refl _) (fun _ _ d _ _ h => by cases d <;> exact h) ?_
  have hC : Below w11.heap.size w11 w11 := Below.refl _ _
  have zhT0 : w.heap.size < w11.heap.size := (Array.getElem?_eq_some_iff.1 hT0).1
  have zhT1 : w.heap.size + 1 < w11.heap.size := (Array.getElem?_eq_some_iff.1 hT1).1
  repeat (first | (refine wpPlanA_skip _ rfl (by rfl) ?_; simp only [Act.put, List.setIfInBounds_toArray, List.set_cons_zero, List.set_cons_succ]) | (refine wpPlanA_soft _ ?_ rfl (by rfl) ?_ ?_; rotate_left; (intro wq hq hcq; go_simp; first | exact rfl | exact ⟨rfl, rfl⟩); simp only [Act.put, List.setIfInBounds_toArray, List.set_cons_zero, List.set_cons_succ]))
  simp only [HN.out]
  refine wpPlanA_hard _ rfl (by rfl) (fun w12 hS K hK => ?_)
  have hB12 := hB11.call hS rfl
  replace hC := hC.call hS rfl
  replace hT0 := blkb hT0 hS
  replace hT1 := blkb hT1 hS
  replace H := H.below hS
  replace h1 := h1.below hS
  replace h2 := h2.below hS
  clear hS hB11
  go_simp
  refine (c17 A cap l _ hl6 H).mono ?_
  rintro e w13 ⟨_, rfl, ⟨AT, CT, rfl, ht⟩, hb⟩
  have hB13 := hB12.call hb rfl
  replace hC := hC.call hb rfl
  replace hT0 := blkb hT0 hb
  replace hT1 := blkb hT1 hb
  replace H := H.below hb
  replace h1 := h1.below hb
  replace h2 := h2.below hb
  clear hb hB12
  refine hK _ _ hC ?_
  clear hK K
  try simp only [Act.put, List.setIfInBounds_toArray, List.set_cons_zero, List.set_cons_succ]
  refine wpPlanA_hard _ rfl (by rfl) (fun w14 hS K hK => ?_)
  have hB14 := hB13.call hS rfl
  replace hC := hC.call hS rfl
  replace hT0 := blkb hT0 hS
  replace hT1 := blkb hT1 hS
  replace H := H.below hS
  replace h1 := h1.below hS
  replace h2 := h2.below hS
  replace ht := ht.below hS
  clear hS hB13
  go_simp
  refine (u19 v u AT CT l _ hl6 ht E HE.out XS HS.out).mono ?_
  rintro e w15 ⟨A3, CA3, rfl, h3, hb⟩
  have hB15 := hB14.call hb rfl
  replace hC := hC.call hb rfl
  replace hT0 := blkb hT0 hb
  replace hT1 := blkb hT1 hb
  replace H := H.below hb
  replace h1 := h1.below hb
  replace h2 := h2.below hb
  replace ht := ht.below hb
  clear hb hB14
  refine hK _ _ hC ?_
  clear hK K
  try simp only [Act.put, List.setIfInBounds_toArray, List.set_cons_zero, List.set_cons_succ]
  repeat (first | (refine wpPlanA_skip _ rfl (by rfl) ?_; simp only [Act.put, List.setIfInBounds_toArray, List.set_cons_zero, List.set_cons_succ]) | (refine wpPlanA_soft _ ?_ rfl (by rfl) ?_ ?_; rotate_left; (intro wq hq hcq; go_simp; first | exact rfl | exact ⟨rfl, rfl⟩); simp only [Act.put, List.setIfInBounds_toArray, List.set_cons_zero, List.set_cons_succ]))
  clear qhT0_0 qhT0_1 qhT0_2 qhT0_3 qhT0_4 qhT1_0 qhT1_1 qhT1_2 qhT1_3 qhT1_4
  refine wpPlanA_nil (fun w16 hS => ?_)
  clear hC zhT0 zhT1
  have hB16 := hB15.call hS rfl
  replace hT0 := blkb hT0 hS
  replace hT1 := blkb hT1 hS
  replace H := H.below hS
  replace h1 := h1.below hS
  replace h2 := h2.below hS
  replace ht := ht.below hS
  replace h3 := h3.below hS
  clear hS hB15
  have qhT0_0 : w16.cell? ⟨w.heap.size, 0, none⟩ = some (.int .i64 v.sx) := cell_at hT0 rfl
  have qhT0_1 : w16.cell? ⟨w.heap.size, 1, none⟩ = some (.int .i64 v.sy) := cell_at hT0 rfl
  have qhT0_2 : w16.cell? ⟨w.heap.size, 2, none⟩ = some (.int .i64 v.dx) := cell_at hT0 rfl
  have qhT0_3 : w16.cell? ⟨w.heap.size, 3, none⟩ = some (.int .i64 v.dy) := cell_at hT0 rfl
  have qhT0_4 : w16.cell? ⟨w.heap.size, 4, none⟩ = some (.int .i64 v.n) := cell_at hT0 rfl
  have qhT1_0 : w16.cell? ⟨w.heap.size + 1, 0, none⟩ = some (.int .i64 u.ring) := cell_at hT1 rfl
  have qhT1_1 : w16.cell? ⟨w.heap.size + 1, 1, none⟩ = some (.int .i64 u.speed) := cell_at hT1 rfl
  have qhT1_2 : w16.cell? ⟨w.heap.size + 1, 2, none⟩ = some (.int .i64 u.loss) := cell_at hT1 rfl
  have qhT1_3 : w16.cell? ⟨w.heap.size + 1, 3, none⟩ = some (.int .i64 u.clear) := cell_at hT1 rfl
  have qhT1_4 : w16.cell? ⟨w.heap.size + 1, 4, none⟩ = some (.int .i64 u.soft) := cell_at hT1 rfl
  clear ht
  simp only [← HN.out]
  have h20 := fun w1 (H1 : RdL w1 3 Sgt.enc A l) => c20 v u A cap l w1 hl6 H1
  rw [← HE.out, ← HN.out] at h20
  have H20 := Lib.hid h20
  clear h20
  go_wp2_with fail
  refine (H20.out _ H).mono ?_
  rintro e w17 ⟨rfl, hb⟩
  clear qhT0_0 qhT0_1 qhT0_2 qhT0_3 qhT0_4 qhT1_0 qhT1_1 qhT1_2 qhT1_3 qhT1_4
  have hS := hb
  have hB17 := hB16.call hS rfl
  replace hT0 := blkb hT0 hS
  replace hT1 := blkb hT1 hS
  replace H := H.below hS
  replace h1 := h1.below hS
  replace h2 := h2.below hS
  replace h3 := h3.below hS
  clear hS hB16
  have qhT0_0 : w17.cell? ⟨w.heap.size, 0, none⟩ = some (.int .i64 v.sx) := cell_at hT0 rfl
  have qhT0_1 : w17.cell? ⟨w.heap.size, 1, none⟩ = some (.int .i64 v.sy) := cell_at hT0 rfl
  have qhT0_2 : w17.cell? ⟨w.heap.size, 2, none⟩ = some (.int .i64 v.dx) := cell_at hT0 rfl
  have qhT0_3 : w17.cell? ⟨w.heap.size, 3, none⟩ = some (.int .i64 v.dy) := cell_at hT0 rfl
  have qhT0_4 : w17.cell? ⟨w.heap.size, 4, none⟩ = some (.int .i64 v.n) := cell_at hT0 rfl
  have qhT1_0 : w17.cell? ⟨w.heap.size + 1, 0, none⟩ = some (.int .i64 u.ring) := cell_at hT1 rfl
  have qhT1_1 : w17.cell? ⟨w.heap.size + 1, 1, none⟩ = some (.int .i64 u.speed) := cell_at hT1 rfl
  have qhT1_2 : w17.cell? ⟨w.heap.size + 1, 2, none⟩ = some (.int .i64 u.loss) := cell_at hT1 rfl
  have qhT1_3 : w17.cell? ⟨w.heap.size + 1, 3, none⟩ = some (.int .i64 u.clear) := cell_at hT1 rfl
  have qhT1_4 : w17.cell? ⟨w.heap.size + 1, 4, none⟩ = some (.int .i64 u.soft) := cell_at hT1 rfl
  clear hb
  clear H20
  by_cases h0 : E = 0
  · have hok : Mo.all v u l = 0 := HE.out.symm.trans h0
    have HOK := Lib.hid hok
    have H0 := Lib.hid h0
    clear hok
    subst h0
    go_wp2
    refine wp_region_plan [(0, true), (1, true), (2, true), (4, true), (5, true), (6, true), (8, true), (9, true), (10, true), (3, false), (7, false), (11, false), (12, true), (13, true), (14, true)] w17.heap.size (by kernel_rfl) (by kernel_rfl) (Nat.le_refl _) (fun _ _ d _ _ h => by cases d <;> exact h) ?_
    have hC : Below w17.heap.size w17 w17 := Below.refl _ _
    have zhT0 : w.heap.size < w17.heap.size := (Array.getElem?_eq_some_iff.1 hT0).1
    have zhT1 : w.heap.size + 1 < w17.heap.size := (Array.getElem?_eq_some_iff.1 hT1).1
    repeat (first | (refine wpPlanA_skip _ rfl (by rfl) ?_; simp only [Act.put, List.setIfInBounds_toArray, List.set_cons_zero, List.set_cons_succ]) | (refine wpPlanA_soft _ ?_ rfl (by rfl) ?_ ?_; rotate_left; (intro wq hq hcq; go_simp; first | exact rfl | exact ⟨rfl, rfl⟩); simp only [Act.put, List.setIfInBounds_toArray, List.set_cons_zero, List.set_cons_succ]))
    simp only [HN.out]
    refine wpPlanA_hard _ rfl (by rfl) (fun w18 hS K hK => ?_)
    have hB18 := hB17.call hS rfl
    replace hC := hC.call hS rfl
    replace hT0 := blkb hT0 hS
    replace hT1 := blkb hT1 hS
    replace H := H.below hS
    replace h1 := h1.below hS
    replace h2 := h2.below hS
    replace h3 := h3.below hS
    clear hS hB17
    go_simp
    refine (u21 v u A cap l _ H HOK.out XI HI.out).mono ?_
    rintro e w19 ⟨A4, C4, rfl, h4, hb⟩
    have hB19 := hB18.call hb rfl
    replace hC := hC.call hb rfl
    replace hT0 := blkb hT0 hb
    replace hT1 := blkb hT1 hb
    replace H := H.below hb
    replace h1 := h1.below hb
    replace h2 := h2.below hb
    replace h3 := h3.below hb
    clear hb hB18
    refine hK _ _ hC ?_
    clear hK K
    try simp only [Act.put, List.setIfInBounds_toArray, List.set_cons_zero, List.set_cons_succ]
    refine wpPlanA_hard _ rfl (by rfl) (fun w20 hS K hK => ?_)
    have hB20 := hB19.call hS rfl
    replace hC := hC.call hS rfl
    replace hT0 := blkb hT0 hS
    replace hT1 := blkb hT1 hS
    replace H := H.below hS
    replace h1 := h1.below hS
    replace h2 := h2.below hS
    replace h3 := h3.below hS
    replace h4 := h4.below hS
    clear hS hB19
    go_simp
    refine (u22 v u A cap l _ H HOK.out XL HL.out).mono ?_
    rintro e w21 ⟨A5, C5, rfl, h5, hb⟩
    have hB21 := hB20.call hb rfl
    replace hC := hC.call hb rfl
    replace hT0 := blkb hT0 hb
    replace hT1 := blkb hT1 hb
    replace H := H.below hb
    replace h1 := h1.below hb
    replace h2 := h2.below hb
    replace h3 := h3.below hb
    replace h4 := h4.below hb
    clear hb hB20
    refine hK _ _ hC ?_
    clear hK K
    try simp only [Act.put, List.setIfInBounds_toArray, List.set_cons_zero, List.set_cons_succ]
    refine wpPlanA_hard _ rfl (by rfl) (fun w22 hS K hK => ?_)
    have hB22 := hB21.call hS rfl
    replace hC := hC.call hS rfl
    replace hT0 := blkb hT0 hS
    replace hT1 := blkb hT1 hS
    replace H := H.below hS
    replace h1 := h1.below hS
    replace h2 := h2.below hS
    replace h3 := h3.below hS
    replace h4 := h4.below hS
    replace h5 := h5.below hS
    clear hS hB21
    go_simp
    refine (u23 v u A cap l _ H HOK.out XS HS.out).mono ?_
    rintro e w23 ⟨A6, C6, rfl, h6, hb⟩
    have hB23 := hB22.call hb rfl
    replace hC := hC.call hb rfl
    replace hT0 := blkb hT0 hb
    replace hT1 := blkb hT1 hb
    replace H := H.below hb
    replace h1 := h1.below hb
    replace h2 := h2.below hb
    replace h3 := h3.below hb
    replace h4 := h4.below hb
    replace h5 := h5.below hb
    clear hb hB22
    refine hK _ _ hC ?_
    clear hK K
    try simp only [Act.put, List.setIfInBounds_toArray, List.set_cons_zero, List.set_cons_succ]
    repeat (first | (refine wpPlanA_skip _ rfl (by rfl) ?_; simp only [Act.put, List.setIfInBounds_toArray, List.set_cons_zero, List.set_cons_succ]) | (refine wpPlanA_soft _ ?_ rfl (by rfl) ?_ ?_; rotate_left; (intro wq hq hcq; go_simp; first | exact rfl | exact ⟨rfl, rfl⟩); simp only [Act.put, List.setIfInBounds_toArray, List.set_cons_zero, List.set_cons_succ]))
    clear qhT0_0 qhT0_1 qhT0_2 qhT0_3 qhT0_4 qhT1_0 qhT1_1 qhT1_2 qhT1_3 qhT1_4
    refine wpPlanA_nil (fun w24 hS => ?_)
    clear hC zhT0 zhT1
    have hB24 := hB23.call hS rfl
    replace hT0 := blkb hT0 hS
    replace hT1 := blkb hT1 hS
    replace H := H.below hS
    replace h1 := h1.below hS
    replace h2 := h2.below hS
    replace h3 := h3.below hS
    replace h4 := h4.below hS
    replace h5 := h5.below hS
    replace h6 := h6.below hS
    clear hS hB23
    have qhT0_0 : w24.cell? ⟨w.heap.size, 0, none⟩ = some (.int .i64 v.sx) := cell_at hT0 rfl
    have qhT0_1 : w24.cell? ⟨w.heap.size, 1, none⟩ = some (.int .i64 v.sy) := cell_at hT0 rfl
    have qhT0_2 : w24.cell? ⟨w.heap.size, 2, none⟩ = some (.int .i64 v.dx) := cell_at hT0 rfl
    have qhT0_3 : w24.cell? ⟨w.heap.size, 3, none⟩ = some (.int .i64 v.dy) := cell_at hT0 rfl
    have qhT0_4 : w24.cell? ⟨w.heap.size, 4, none⟩ = some (.int .i64 v.n) := cell_at hT0 rfl
    have qhT1_0 : w24.cell? ⟨w.heap.size + 1, 0, none⟩ = some (.int .i64 u.ring) := cell_at hT1 rfl
    have qhT1_1 : w24.cell? ⟨w.heap.size + 1, 1, none⟩ = some (.int .i64 u.speed) := cell_at hT1 rfl
    have qhT1_2 : w24.cell? ⟨w.heap.size + 1, 2, none⟩ = some (.int .i64 u.loss) := cell_at hT1 rfl
    have qhT1_3 : w24.cell? ⟨w.heap.size + 1, 3, none⟩ = some (.int .i64 u.clear) := cell_at hT1 rfl
    have qhT1_4 : w24.cell? ⟨w.heap.size + 1, 4, none⟩ = some (.int .i64 u.soft) := cell_at hT1 rfl
    simp only [← HN.out]
    go_wp2
    refine wp_region_plan [(0, true), (2, true), (1, false), (3, false), (4, true), (5, true), (6, true), (8, true), (7, false), (9, false), (10, true), (11, true), (12, true), (13, true), (16, true), (14, false), (15, false), (17, false), (18, true), (19, true), (20, true), (21, true), (22, true), (23, false), (24, true), (25, true), (26, true), (27, true), (28, true), (29, true), (30, true), (31, true), (32, true), (33, false), (34, true), (35, true), (36, true), (37, true), (38, true), (39, true), (40, true), (41, true), (42, true), (43, false), (44, true), (45, true), (46, true), (47, true), (48, true), (49, true), (50, true), (51, false), (52, true), (53, true)] w24.heap.size (by kernel_rfl) (by kernel_rfl) (Nat.le_refl _) (fun _ _ d _ _ h => by cases d <;> exact h) ?_
    have hC : Below w24.heap.size w24 w24 := Below.refl _ _
    have zhT0 : w.heap.size < w24.heap.size := (Array.getElem?_eq_some_iff.1 hT0).1
    have zhT1 : w.heap.size + 1 < w24.heap.size := (Array.getElem?_eq_some_iff.1 hT1).1
    repeat (first | (refine wpPlanA_skip _ rfl (by rfl) ?_; simp only [Act.put, List.setIfInBounds_toArray, List.set_cons_zero, List.set_cons_succ]) | (refine wpPlanA_soft _ ?_ rfl (by rfl) ?_ ?_; rotate_left; (intro wq hq hcq; go_simp; first | exact rfl | exact ⟨rfl, rfl⟩); simp only [Act.put, List.setIfInBounds_toArray, List.set_cons_zero, List.set_cons_succ]))
    refine wpPlanA_hard _ rfl (by rfl) (fun w25 hS K hK => ?_)
    have hB25 := hB24.call hS rfl
    replace hC := hC.call hS rfl
    replace hT0 := blkb hT0 hS
    replace hT1 := blkb hT1 hS
    replace H := H.below hS
    replace h1 := h1.below hS
    replace h2 := h2.below hS
    replace h3 := h3.below hS
    replace h4 := h4.below hS
    replace h5 := h5.below hS
    replace h6 := h6.below hS
    clear hS hB24
    go_simp
    refine (c24 _ _ _ _ _ _).mono ?_
    rintro e w26 ⟨rfl, hb⟩
    have hB26 := hB25.call hb rfl
    replace hC := hC.call hb rfl
    replace hT0 := blkb hT0 hb
    replace hT1 := blkb hT1 hb
    replace H := H.below hb
    replace h1 := h1.below hb
    replace h2 := h2.below hb
    replace h3 := h3.below hb
    replace h4 := h4.below hb
    replace h5 := h5.below hb
    replace h6 := h6.below hb
    clear hb hB25
    refine hK _ _ hC ?_
    clear hK K
    try simp only [Act.put, List.setIfInBounds_toArray, List.set_cons_zero, List.set_cons_succ]
    refine wpPlanA_hard _ rfl (by rfl) (fun w27 hS K hK => ?_)
    have hB27 := hB26.call hS rfl
    replace hC := hC.call hS rfl
    replace hT0 := blkb hT0 hS
    replace hT1 := blkb hT1 hS
    replace H := H.below hS
    replace h1 := h1.below hS
    replace h2 := h2.below hS
    replace h3 := h3.below hS
    replace h4 := h4.below hS
    replace h5 := h5.below hS
    replace h6 := h6.below hS
    clear hS hB26
    go_simp
    refine (c25 _ _ _ _ _ _).mono ?_
    rintro e w28 ⟨rfl, hb⟩
    have hB28 := hB27.call hb rfl
    replace hC := hC.call hb rfl
    replace hT0 := blkb hT0 hb
    replace hT1 := blkb hT1 hb
    replace H := H.below hb
    replace h1 := h1.below hb
    replace h2 := h2.below hb
    replace h3 := h3.below hb
    replace h4 := h4.below hb
    replace h5 := h5.below hb
    replace h6 := h6.below hb
    clear hb hB27
    refine hK _ _ hC ?_
    clear hK K
    try simp only [Act.put, List.setIfInBounds_toArray, List.set_cons_zero, List.set_cons_succ]
    repeat (first | (refine wpPlanA_skip _ rfl (by rfl) ?_; simp only [Act.put, List.setIfInBounds_toArray, List.set_cons_zero, List.set_cons_succ]) | (refine wpPlanA_soft _ ?_ rfl (by rfl) ?_ ?_; rotate_left; (intro wq hq hcq; go_simp; first | exact rfl | exact ⟨rfl, rfl⟩); simp only [Act.put, List.setIfInBounds_toArray, List.set_cons_zero, List.set_cons_succ]))
    refine wpPlanA_hard _ rfl (by rfl) (fun w29 hS K hK => ?_)
    have hB29 := hB28.call hS rfl
    replace hC := hC.call hS rfl
    replace hT0 := blkb hT0 hS
    replace hT1 := blkb hT1 hS
    replace H := H.below hS
    replace h1 := h1.below hS
    replace h2 := h2.below hS
    replace h3 := h3.below hS
    replace h4 := h4.below hS
    replace h5 := h5.below hS
    replace h6 := h6.below hS
    clear hS hB28
    go_simp
    refine (c26 _ _ _ _ _ _).mono ?_
    rintro e w30 ⟨rfl, hb⟩
    have hB30 := hB29.call hb rfl
    replace hC := hC.call hb rfl
    replace hT0 := blkb hT0 hb
    replace hT1 := blkb hT1 hb
    replace H := H.below hb
    replace h1 := h1.below hb
    replace h2 := h2.below hb
    replace h3 := h3.below hb
    replace h4 := h4.below hb
    replace h5 := h5.below hb
    replace h6 := h6.below hb
    clear hb hB29
    refine hK _ _ hC ?_
    clear hK K
    try simp only [Act.put, List.setIfInBounds_toArray, List.set_cons_zero, List.set_cons_succ]
    refine wpPlanA_hard _ rfl (by rfl) (fun w31 hS K hK => ?_)
    have hB31 := hB30.call hS rfl
    replace hC := hC.call hS rfl
    replace hT0 := blkb hT0 hS
    replace hT1 := blkb hT1 hS
    replace H := H.below hS
    replace h1 := h1.below hS
    replace h2 := h2.below hS
    replace h3 := h3.below hS
    replace h4 := h4.below hS
    replace h5 := h5.below hS
    replace h6 := h6.below hS
    clear hS hB30
    go_simp
    refine (c27 _ _ _ _ _ _).mono ?_
    rintro e w32 ⟨rfl, hb⟩
    have hB32 := hB31.call hb rfl
    replace hC := hC.call hb rfl
    replace hT0 := blkb hT0 hb
    replace hT1 := blkb hT1 hb
    replace H := H.below hb
    replace h1 := h1.below hb
    replace h2 := h2.below hb
    replace h3 := h3.below hb
    replace h4 := h4.below hb
    replace h5 := h5.below hb
    replace h6 := h6.below hb
    clear hb hB31
    refine hK _ _ hC ?_
    clear hK K
    try simp only [Act.put, List.setIfInBounds_toArray, List.set_cons_zero, List.set_cons_succ]
    repeat (first | (refine wpPlanA_skip _ rfl (by rfl) ?_; simp only [Act.put, List.setIfInBounds_toArray, List.set_cons_zero, List.set_cons_succ]) | (refine wpPlanA_soft _ ?_ rfl (by rfl) ?_ ?_; rotate_left; (intro wq hq hcq; go_simp; first | exact rfl | exact ⟨rfl, rfl⟩); simp only [Act.put, List.setIfInBounds_toArray, List.set_cons_zero, List.set_cons_succ]))
    simp only [HN.out]
    refine wpPlanA_hard _ rfl (by rfl) (fun w33 hS K hK => ?_)
    have hB33 := hB32.call hS rfl
    replace hC := hC.call hS rfl
    replace hT0 := blkb hT0 hS
    replace hT1 := blkb hT1 hS
    replace H := H.below hS
    replace h1 := h1.below hS
    replace h2 := h2.below hS
    replace h3 := h3.below hS
    replace h4 := h4.below hS
    replace h5 := h5.below hS
    replace h6 := h6.below hS
    clear hS hB32
    go_simp
    refine (c17 A cap l _ hl6 H).mono ?_
    rintro e w34 ⟨_, rfl, ⟨AT, CT, rfl, ht⟩, hb⟩
    have hB34 := hB33.call hb rfl
    replace hC := hC.call hb rfl
    replace hT0 := blkb hT0 hb
    replace hT1 := blkb hT1 hb
    replace H := H.below hb
    replace h1 := h1.below hb
    replace h2 := h2.below hb
    replace h3 := h3.below hb
    replace h4 := h4.below hb
    replace h5 := h5.below hb
    replace h6 := h6.below hb
    clear hb hB33
    refine hK _ _ hC ?_
    clear hK K
    try simp only [Act.put, List.setIfInBounds_toArray, List.set_cons_zero, List.set_cons_succ]
    refine wpPlanA_hard _ rfl (by rfl) (fun w35 hS K hK => ?_)
    have hB35 := hB34.call hS rfl
    replace hC := hC.call hS rfl
    replace hT0 := blkb hT0 hS
    replace hT1 := blkb hT1 hS
    replace H := H.below hS
    replace h1 := h1.below hS
    replace h2 := h2.below hS
    replace h3 := h3.below hS
    replace h4 := h4.below hS
    replace h5 := h5.below hS
    replace h6 := h6.below hS
    replace ht := ht.below hS
    clear hS hB34
    go_simp
    refine (c28 AT CT l _ hl6 ht).mono ?_
    rintro e w36 ⟨rfl, hb⟩
    have hB36 := hB35.call hb rfl
    replace hC := hC.call hb rfl
    replace hT0 := blkb hT0 hb
    replace hT1 := blkb hT1 hb
    replace H := H.below hb
    replace h1 := h1.below hb
    replace h2 := h2.below hb
    replace h3 := h3.below hb
    replace h4 := h4.below hb
    replace h5 := h5.below hb
    replace h6 := h6.below hb
    replace ht := ht.below hb
    clear hb hB35
    refine hK _ _ hC ?_
    clear hK K
    try simp only [Act.put, List.setIfInBounds_toArray, List.set_cons_zero, List.set_cons_succ]
    refine wpPlanA_hard _ rfl (by rfl) (fun w37 hS K hK => ?_)
    have hB37 := hB36.call hS rfl
    replace hC := hC.call hS rfl
    replace hT0 := blkb hT0 hS
    replace hT1 := blkb hT1 hS
    replace H := H.below hS
    replace h1 := h1.below hS
    replace h2 := h2.below hS
    replace h3 := h3.below hS
    replace h4 := h4.below hS
    replace h5 := h5.below hS
    replace h6 := h6.below hS
    replace ht := ht.below hS
    clear hS hB36
    go_simp
    refine (c29 A cap l _ hl6 H).mono ?_
    rintro e w38 ⟨rfl, hb⟩
    have hB38 := hB37.call hb rfl
    replace hC := hC.call hb rfl
    replace hT0 := blkb hT0 hb
    replace hT1 := blkb hT1 hb
    replace H := H.below hb
    replace h1 := h1.below hb
    replace h2 := h2.below hb
    replace h3 := h3.below hb
    replace h4 := h4.below hb
    replace h5 := h5.below hb
    replace h6 := h6.below hb
    replace ht := ht.below hb
    clear hb hB37
    refine hK _ _ hC ?_
    clear hK K
    try simp only [Act.put, List.setIfInBounds_toArray, List.set_cons_zero, List.set_cons_succ]
    repeat (first | (refine wpPlanA_skip _ rfl (by rfl) ?_; simp only [Act.put, List.setIfInBounds_toArray, List.set_cons_zero, List.set_cons_succ]) | (refine wpPlanA_soft _ ?_ rfl (by rfl) ?_ ?_; rotate_left; (intro wq hq hcq; go_simp; first | exact rfl | exact ⟨rfl, rfl⟩); simp only [Act.put, List.setIfInBounds_toArray, List.set_cons_zero, List.set_cons_succ]))
    refine wpPlanA_hard _ rfl (by rfl) (fun w39 hS K hK => ?_)
    have hB39 := hB38.call hS rfl
    replace hC := hC.call hS rfl
    replace hT0 := blkb hT0 hS
    replace hT1 := blkb hT1 hS
    replace H := H.below hS
    replace h1 := h1.below hS
    replace h2 := h2.below hS
    replace h3 := h3.below hS
    replace h4 := h4.below hS
    replace h5 := h5.below hS
    replace h6 := h6.below hS
    replace ht := ht.below hS
    clear hS hB38
    go_simp
    refine (c30 A1 A4 CA1 C4 XI _ (by omega) h1 h4).mono ?_
    rintro e w40 ⟨rfl, hb⟩
    have hB40 := hB39.call hb rfl
    replace hC := hC.call hb rfl
    replace hT0 := blkb hT0 hb
    replace hT1 := blkb hT1 hb
    replace H := H.below hb
    replace h1 := h1.below hb
    replace h2 := h2.below hb
    replace h3 := h3.below hb
    replace h4 := h4.below hb
    replace h5 := h5.below hb
    replace h6 := h6.below hb
    replace ht := ht.below hb
    clear hb hB39
    refine hK _ _ hC ?_
    clear hK K
    try simp only [Act.put, List.setIfInBounds_toArray, List.set_cons_zero, List.set_cons_succ]
    repeat (first | (refine wpPlanA_skip _ rfl (by rfl) ?_; simp only [Act.put, List.setIfInBounds_toArray, List.set_cons_zero, List.set_cons_succ]) | (refine wpPlanA_soft _ ?_ rfl (by rfl) ?_ ?_; rotate_left; (intro wq hq hcq; go_simp; first | exact rfl | exact ⟨rfl, rfl⟩); simp only [Act.put, List.setIfInBounds_toArray, List.set_cons_zero, List.set_cons_succ]))
    refine wpPlanA_hard _ rfl (by rfl) (fun w41 hS K hK => ?_)
    have hB41 := hB40.call hS rfl
    replace hC := hC.call hS rfl
    replace hT0 := blkb hT0 hS
    replace hT1 := blkb hT1 hS
    replace H := H.below hS
    replace h1 := h1.below hS
    replace h2 := h2.below hS
    replace h3 := h3.below hS
    replace h4 := h4.below hS
    replace h5 := h5.below hS
    replace h6 := h6.below hS
    replace ht := ht.below hS
    clear hS hB40
    go_simp
    refine (c31 A2 A5 CA2 C5 XL _ (by omega) h2 h5).mono ?_
    rintro e w42 ⟨rfl, hb⟩
    have hB42 := hB41.call hb rfl
    replace hC := hC.call hb rfl
    replace hT0 := blkb hT0 hb
    replace hT1 := blkb hT1 hb
    replace H := H.below hb
    replace h1 := h1.below hb
    replace h2 := h2.below hb
    replace h3 := h3.below hb
    replace h4 := h4.below hb
    replace h5 := h5.below hb
    replace h6 := h6.below hb
    replace ht := ht.below hb
    clear hb hB41
    refine hK _ _ hC ?_
    clear hK K
    try simp only [Act.put, List.setIfInBounds_toArray, List.set_cons_zero, List.set_cons_succ]
    repeat (first | (refine wpPlanA_skip _ rfl (by rfl) ?_; simp only [Act.put, List.setIfInBounds_toArray, List.set_cons_zero, List.set_cons_succ]) | (refine wpPlanA_soft _ ?_ rfl (by rfl) ?_ ?_; rotate_left; (intro wq hq hcq; go_simp; first | exact rfl | exact ⟨rfl, rfl⟩); simp only [Act.put, List.setIfInBounds_toArray, List.set_cons_zero, List.set_cons_succ]))
    refine wpPlanA_hard _ rfl (by rfl) (fun w43 hS K hK => ?_)
    have hB43 := hB42.call hS rfl
    replace hC := hC.call hS rfl
    replace hT0 := blkb hT0 hS
    replace hT1 := blkb hT1 hS
    replace H := H.below hS
    replace h1 := h1.below hS
    replace h2 := h2.below hS
    replace h3 := h3.below hS
    replace h4 := h4.below hS
    replace h5 := h5.below hS
    replace h6 := h6.below hS
    replace ht := ht.below hS
    clear hS hB42
    go_simp
    refine (c32 A3 A6 CA3 C6 XS _ (by omega) h3 h6).mono ?_
    rintro e w44 ⟨rfl, hb⟩
    have hB44 := hB43.call hb rfl
    replace hC := hC.call hb rfl
    replace hT0 := blkb hT0 hb
    replace hT1 := blkb hT1 hb
    replace H := H.below hb
    replace h1 := h1.below hb
    replace h2 := h2.below hb
    replace h3 := h3.below hb
    replace h4 := h4.below hb
    replace h5 := h5.below hb
    replace h6 := h6.below hb
    replace ht := ht.below hb
    clear hb hB43
    refine hK _ _ hC ?_
    clear hK K
    try simp only [Act.put, List.setIfInBounds_toArray, List.set_cons_zero, List.set_cons_succ]
    repeat (first | (refine wpPlanA_skip _ rfl (by rfl) ?_; simp only [Act.put, List.setIfInBounds_toArray, List.set_cons_zero, List.set_cons_succ]) | (refine wpPlanA_soft _ ?_ rfl (by rfl) ?_ ?_; rotate_left; (intro wq hq hcq; go_simp; first | exact rfl | exact ⟨rfl, rfl⟩); simp only [Act.put, List.setIfInBounds_toArray, List.set_cons_zero, List.set_cons_succ]))
    refine wpPlanA_hard _ rfl (by rfl) (fun w45 hS K hK => ?_)
    have hB45 := hB44.call hS rfl
    replace hC := hC.call hS rfl
    replace hT0 := blkb hT0 hS
    replace hT1 := blkb hT1 hS
    replace H := H.below hS
    replace h1 := h1.below hS
    replace h2 := h2.below hS
    replace h3 := h3.below hS
    replace h4 := h4.below hS
    replace h5 := h5.below hS
    replace h6 := h6.below hS
    replace ht := ht.below hS
    clear hS hB44
    go_simp
    refine (c15 _).mono ?_
    rintro e w46 ⟨rfl, hb⟩
    have hB46 := hB45.call hb rfl
    replace hC := hC.call hb rfl
    replace hT0 := blkb hT0 hb
    replace hT1 := blkb hT1 hb
    replace H := H.below hb
    replace h1 := h1.below hb
    replace h2 := h2.below hb
    replace h3 := h3.below hb
    replace h4 := h4.below hb
    replace h5 := h5.below hb
    replace h6 := h6.below hb
    replace ht := ht.below hb
    clear hb hB45
    refine hK _ _ hC ?_
    clear hK K
    try simp only [Act.put, List.setIfInBounds_toArray, List.set_cons_zero, List.set_cons_succ]
    repeat (first | (refine wpPlanA_skip _ rfl (by rfl) ?_; simp only [Act.put, List.setIfInBounds_toArray, List.set_cons_zero, List.set_cons_succ]) | (refine wpPlanA_soft _ ?_ rfl (by rfl) ?_ ?_; rotate_left; (intro wq hq hcq; go_simp; first | exact rfl | exact ⟨rfl, rfl⟩); simp only [Act.put, List.setIfInBounds_toArray, List.set_cons_zero, List.set_cons_succ]))
    clear qhT0_0 qhT0_1 qhT0_2 qhT0_3 qhT0_4 qhT1_0 qhT1_1 qhT1_2 qhT1_3 qhT1_4
    refine wpPlanA_nil (fun w47 hS => ?_)
    clear hC zhT0 zhT1
    have hB47 := hB46.call hS rfl
    replace hT0 := blkb hT0 hS
    replace hT1 := blkb hT1 hS
    replace H := H.below hS
    replace h1 := h1.below hS
    replace h2 := h2.below hS
    replace h3 := h3.below hS
    replace h4 := h4.below hS
    replace h5 := h5.below hS
    replace h6 := h6.below hS
    replace ht := ht.below hS
    clear hS hB46
    have qhT0_0 : w47.cell? ⟨w.heap.size, 0, none⟩ = some (.int .i64 v.sx) := cell_at hT0 rfl
    have qhT0_1 : w47.cell? ⟨w.heap.size, 1, none⟩ = some (.int .i64 v.sy) := cell_at hT0 rfl
    have qhT0_2 : w47.cell? ⟨w.heap.size, 2, none⟩ = some (.int .i64 v.dx) := cell_at hT0 rfl
    have qhT0_3 : w47.cell? ⟨w.heap.size, 3, none⟩ = some (.int .i64 v.dy) := cell_at hT0 rfl
    have qhT0_4 : w47.cell? ⟨w.heap.size, 4, none⟩ = some (.int .i64 v.n) := cell_at hT0 rfl
    have qhT1_0 : w47.cell? ⟨w.heap.size + 1, 0, none⟩ = some (.int .i64 u.ring) := cell_at hT1 rfl
    have qhT1_1 : w47.cell? ⟨w.heap.size + 1, 1, none⟩ = some (.int .i64 u.speed) := cell_at hT1 rfl
    have qhT1_2 : w47.cell? ⟨w.heap.size + 1, 2, none⟩ = some (.int .i64 u.loss) := cell_at hT1 rfl
    have qhT1_3 : w47.cell? ⟨w.heap.size + 1, 3, none⟩ = some (.int .i64 u.clear) := cell_at hT1 rfl
    have qhT1_4 : w47.cell? ⟨w.heap.size + 1, 4, none⟩ = some (.int .i64 u.soft) := cell_at hT1 rfl
    go_wp2
    go_ret
    exact ⟨rfl, hB47⟩
  · have hne : Mo.all v u l ≠ 0 := fun h => h0 (HE.out.trans h)
    obtain ⟨e1, e2, e3⟩ := Mo.nils hne
    rw [← HI.out] at e1
    rw [← HL.out] at e2
    rw [← HS.out] at e3
    clear hne HI HL HS
    subst e1
    subst e2
    subst e3
    go_wp2
    refine wp_region_plan [(0, true), (2, true), (1, false), (3, false), (4, true), (5, true), (6, true), (8, true), (7, false), (9, false), (10, true), (11, true), (12, true), (13, true), (16, true), (14, false), (15, false), (17, false), (18, true), (19, true), (20, true), (21, true), (22, true), (23, false), (24, true), (25, true), (26, true), (27, true), (28, true), (29, true), (30, true), (31, true), (32, true), (33, false), (34, true), (35, true), (36, true), (37, true), (38, true), (39, true), (40, true), (41, true), (42, true), (43, false), (44, true), (45, true), (46, true), (47, true), (48, true), (49, true), (50, true), (51, false), (52, true), (53, true)] w17.heap.size (by kernel_rfl) (by kernel_rfl) (Nat.le_refl _) (fun _ _ d _ _ h => by cases d <;> exact h) ?_
    have hC : Below w17.heap.size w17 w17 := Below.refl _ _
    have zhT0 : w.heap.size < w17.heap.size := (Array.getElem?_eq_some_iff.1 hT0).1
    have zhT1 : w.heap.size + 1 < w17.heap.size := (Array.getElem?_eq_some_iff.1 hT1).1
    repeat (first | (refine wpPlanA_skip _ rfl (by rfl) ?_; simp only [Act.put, List.setIfInBounds_toArray, List.set_cons_zero, List.set_cons_succ]) | (refine wpPlanA_soft _ ?_ rfl (by rfl) ?_ ?_; rotate_left; (intro wq hq hcq; go_simp; first | exact rfl | exact ⟨rfl, rfl⟩); simp only [Act.put, List.setIfInBounds_toArray, List.set_cons_zero, List.set_cons_succ]))
    refine wpPlanA_hard _ rfl (by rfl) (fun w18 hS K hK => ?_)
    have hB18 := hB17.call hS rfl
    replace hC := hC.call hS rfl
    replace hT0 := blkb hT0 hS
    replace hT1 := blkb hT1 hS
    replace H := H.below hS
    replace h1 := h1.below hS
    replace h2 := h2.below hS
    replace h3 := h3.below hS
    clear hS hB17
    go_simp
    refine (c24 _ _ _ _ _ _).mono ?_
    rintro e w19 ⟨rfl, hb⟩
    have hB19 := hB18.call hb rfl
    replace hC := hC.call hb rfl
    replace hT0 := blkb hT0 hb
    replace hT1 := blkb hT1 hb
    replace H := H.below hb
    replace h1 := h1.below hb
    replace h2 := h2.below hb
    replace h3 := h3.below hb
    clear hb hB18
    refine hK _ _ hC ?_
    clear hK K
    try simp only [Act.put, List.setIfInBounds_toArray, List.set_cons_zero, List.set_cons_succ]
    refine wpPlanA_hard _ rfl (by rfl) (fun w20 hS K hK => ?_)
    have hB20 := hB19.call hS rfl
    replace hC := hC.call hS rfl
    replace hT0 := blkb hT0 hS
    replace hT1 := blkb hT1 hS
    replace H := H.below hS
    replace h1 := h1.below hS
    replace h2 := h2.below hS
    replace h3 := h3.below hS
    clear hS hB19
    go_simp
    refine (c25 _ _ _ _ _ _).mono ?_
    rintro e w21 ⟨rfl, hb⟩
    have hB21 := hB20.call hb rfl
    replace hC := hC.call hb rfl
    replace hT0 := blkb hT0 hb
    replace hT1 := blkb hT1 hb
    replace H := H.below hb
    replace h1 := h1.below hb
    replace h2 := h2.below hb
    replace h3 := h3.below hb
    clear hb hB20
    refine hK _ _ hC ?_
    clear hK K
    try simp only [Act.put, List.setIfInBounds_toArray, List.set_cons_zero, List.set_cons_succ]
    repeat (first | (refine wpPlanA_skip _ rfl (by rfl) ?_; simp only [Act.put, List.setIfInBounds_toArray, List.set_cons_zero, List.set_cons_succ]) | (refine wpPlanA_soft _ ?_ rfl (by rfl) ?_ ?_; rotate_left; (intro wq hq hcq; go_simp; first | exact rfl | exact ⟨rfl, rfl⟩); simp only [Act.put, List.setIfInBounds_toArray, List.set_cons_zero, List.set_cons_succ]))
    refine wpPlanA_hard _ rfl (by rfl) (fun w22 hS K hK => ?_)
    have hB22 := hB21.call hS rfl
    replace hC := hC.call hS rfl
    replace hT0 := blkb hT0 hS
    replace hT1 := blkb hT1 hS
    replace H := H.below hS
    replace h1 := h1.below hS
    replace h2 := h2.below hS
    replace h3 := h3.below hS
    clear hS hB21
    go_simp
    refine (c26 _ _ _ _ _ _).mono ?_
    rintro e w23 ⟨rfl, hb⟩
    have hB23 := hB22.call hb rfl
    replace hC := hC.call hb rfl
    replace hT0 := blkb hT0 hb
    replace hT1 := blkb hT1 hb
    replace H := H.below hb
    replace h1 := h1.below hb
    replace h2 := h2.below hb
    replace h3 := h3.below hb
    clear hb hB22
    refine hK _ _ hC ?_
    clear hK K
    try simp only [Act.put, List.setIfInBounds_toArray, List.set_cons_zero, List.set_cons_succ]
    refine wpPlanA_hard _ rfl (by rfl) (fun w24 hS K hK => ?_)
    have hB24 := hB23.call hS rfl
    replace hC := hC.call hS rfl
    replace hT0 := blkb hT0 hS
    replace hT1 := blkb hT1 hS
    replace H := H.below hS
    replace h1 := h1.below hS
    replace h2 := h2.below hS
    replace h3 := h3.below hS
    clear hS hB23
    go_simp
    refine (c27 _ _ _ _ _ _).mono ?_
    rintro e w25 ⟨rfl, hb⟩
    have hB25 := hB24.call hb rfl
    replace hC := hC.call hb rfl
    replace hT0 := blkb hT0 hb
    replace hT1 := blkb hT1 hb
    replace H := H.below hb
    replace h1 := h1.below hb
    replace h2 := h2.below hb
    replace h3 := h3.below hb
    clear hb hB24
    refine hK _ _ hC ?_
    clear hK K
    try simp only [Act.put, List.setIfInBounds_toArray, List.set_cons_zero, List.set_cons_succ]
    repeat (first | (refine wpPlanA_skip _ rfl (by rfl) ?_; simp only [Act.put, List.setIfInBounds_toArray, List.set_cons_zero, List.set_cons_succ]) | (refine wpPlanA_soft _ ?_ rfl (by rfl) ?_ ?_; rotate_left; (intro wq hq hcq; go_simp; first | exact rfl | exact ⟨rfl, rfl⟩); simp only [Act.put, List.setIfInBounds_toArray, List.set_cons_zero, List.set_cons_succ]))
    simp only [HN.out]
    refine wpPlanA_hard _ rfl (by rfl) (fun w26 hS K hK => ?_)
    have hB26 := hB25.call hS rfl
    replace hC := hC.call hS rfl
    replace hT0 := blkb hT0 hS
    replace hT1 := blkb hT1 hS
    replace H := H.below hS
    replace h1 := h1.below hS
    replace h2 := h2.below hS
    replace h3 := h3.below hS
    clear hS hB25
    go_simp
    refine (c17 A cap l _ hl6 H).mono ?_
    rintro e w27 ⟨_, rfl, ⟨AT, CT, rfl, ht⟩, hb⟩
    have hB27 := hB26.call hb rfl
    replace hC := hC.call hb rfl
    replace hT0 := blkb hT0 hb
    replace hT1 := blkb hT1 hb
    replace H := H.below hb
    replace h1 := h1.below hb
    replace h2 := h2.below hb
    replace h3 := h3.below hb
    clear hb hB26
    refine hK _ _ hC ?_
    clear hK K
    try simp only [Act.put, List.setIfInBounds_toArray, List.set_cons_zero, List.set_cons_succ]
    refine wpPlanA_hard _ rfl (by rfl) (fun w28 hS K hK => ?_)
    have hB28 := hB27.call hS rfl
    replace hC := hC.call hS rfl
    replace hT0 := blkb hT0 hS
    replace hT1 := blkb hT1 hS
    replace H := H.below hS
    replace h1 := h1.below hS
    replace h2 := h2.below hS
    replace h3 := h3.below hS
    replace ht := ht.below hS
    clear hS hB27
    go_simp
    refine (c28 AT CT l _ hl6 ht).mono ?_
    rintro e w29 ⟨rfl, hb⟩
    have hB29 := hB28.call hb rfl
    replace hC := hC.call hb rfl
    replace hT0 := blkb hT0 hb
    replace hT1 := blkb hT1 hb
    replace H := H.below hb
    replace h1 := h1.below hb
    replace h2 := h2.below hb
    replace h3 := h3.below hb
    replace ht := ht.below hb
    clear hb hB28
    refine hK _ _ hC ?_
    clear hK K
    try simp only [Act.put, List.setIfInBounds_toArray, List.set_cons_zero, List.set_cons_succ]
    refine wpPlanA_hard _ rfl (by rfl) (fun w30 hS K hK => ?_)
    have hB30 := hB29.call hS rfl
    replace hC := hC.call hS rfl
    replace hT0 := blkb hT0 hS
    replace hT1 := blkb hT1 hS
    replace H := H.below hS
    replace h1 := h1.below hS
    replace h2 := h2.below hS
    replace h3 := h3.below hS
    replace ht := ht.below hS
    clear hS hB29
    go_simp
    refine (c29 A cap l _ hl6 H).mono ?_
    rintro e w31 ⟨rfl, hb⟩
    have hB31 := hB30.call hb rfl
    replace hC := hC.call hb rfl
    replace hT0 := blkb hT0 hb
    replace hT1 := blkb hT1 hb
    replace H := H.below hb
    replace h1 := h1.below hb
    replace h2 := h2.below hb
    replace h3 := h3.below hb
    replace ht := ht.below hb
    clear hb hB30
    refine hK _ _ hC ?_
    clear hK K
    try simp only [Act.put, List.setIfInBounds_toArray, List.set_cons_zero, List.set_cons_succ]
    repeat (first | (refine wpPlanA_skip _ rfl (by rfl) ?_; simp only [Act.put, List.setIfInBounds_toArray, List.set_cons_zero, List.set_cons_succ]) | (refine wpPlanA_soft _ ?_ rfl (by rfl) ?_ ?_; rotate_left; (intro wq hq hcq; go_simp; first | exact rfl | exact ⟨rfl, rfl⟩); simp only [Act.put, List.setIfInBounds_toArray, List.set_cons_zero, List.set_cons_succ]))
    refine wpPlanA_hard _ rfl (by rfl) (fun w32 hS K hK => ?_)
    have hB32 := hB31.call hS rfl
    replace hC := hC.call hS rfl
    replace hT0 := blkb hT0 hS
    replace hT1 := blkb hT1 hS
    replace H := H.below hS
    replace h1 := h1.below hS
    replace h2 := h2.below hS
    replace h3 := h3.below hS
    replace ht := ht.below hS
    clear hS hB31
    go_simp
    refine (c30 A1 none CA1 0 ([] : List Bool) _ (by decide) h1 ⟨rfl, fun h => absurd h (by simp)⟩).mono ?_
    rintro e w33 ⟨rfl, hb⟩
    have hB33 := hB32.call hb rfl
    replace hC := hC.call hb rfl
    replace hT0 := blkb hT0 hb
    replace hT1 := blkb hT1 hb
    replace H := H.below hb
    replace h1 := h1.below hb
    replace h2 := h2.below hb
    replace h3 := h3.below hb
    replace ht := ht.below hb
    clear hb hB32
    refine hK _ _ hC ?_
    clear hK K
    try simp only [Act.put, List.setIfInBounds_toArray, List.set_cons_zero, List.set_cons_succ]
    repeat (first | (refine wpPlanA_skip _ rfl (by rfl) ?_; simp only [Act.put, List.setIfInBounds_toArray, List.set_cons_zero, List.set_cons_succ]) | (refine wpPlanA_soft _ ?_ rfl (by rfl) ?_ ?_; rotate_left; (intro wq hq hcq; go_simp; first | exact rfl | exact ⟨rfl, rfl⟩); simp only [Act.put, List.setIfInBounds_toArray, List.set_cons_zero, List.set_cons_succ]))
    refine wpPlanA_hard _ rfl (by rfl) (fun w34 hS K hK => ?_)
    have hB34 := hB33.call hS rfl
    replace hC := hC.call hS rfl
    replace hT0 := blkb hT0 hS
    replace hT1 := blkb hT1 hS
    replace H := H.below hS
    replace h1 := h1.below hS
    replace h2 := h2.below hS
    replace h3 := h3.below hS
    replace ht := ht.below hS
    clear hS hB33
    go_simp
    refine (c31 A2 none CA2 0 ([] : List Int) _ (by decide) h2 ⟨rfl, fun h => absurd h (by simp)⟩).mono ?_
    rintro e w35 ⟨rfl, hb⟩
    have hB35 := hB34.call hb rfl
    replace hC := hC.call hb rfl
    replace hT0 := blkb hT0 hb
    replace hT1 := blkb hT1 hb
    replace H := H.below hb
    replace h1 := h1.below hb
    replace h2 := h2.below hb
    replace h3 := h3.below hb
    replace ht := ht.below hb
    clear hb hB34
    refine hK _ _ hC ?_
    clear hK K
    try simp only [Act.put, List.setIfInBounds_toArray, List.set_cons_zero, List.set_cons_succ]
    repeat (first | (refine wpPlanA_skip _ rfl (by rfl) ?_; simp only [Act.put, List.setIfInBounds_toArray, List.set_cons_zero, List.set_cons_succ]) | (refine wpPlanA_soft _ ?_ rfl (by rfl) ?_ ?_; rotate_left; (intro wq hq hcq; go_simp; first | exact rfl | exact ⟨rfl, rfl⟩); simp only [Act.put, List.setIfInBounds_toArray, List.set_cons_zero, List.set_cons_succ]))
    refine wpPlanA_hard _ rfl (by rfl) (fun w36 hS K hK => ?_)
    have hB36 := hB35.call hS rfl
    replace hC := hC.call hS rfl
    replace hT0 := blkb hT0 hS
    replace hT1 := blkb hT1 hS
    replace H := H.below hS
    replace h1 := h1.below hS
    replace h2 := h2.below hS
    replace h3 := h3.below hS
    replace ht := ht.below hS
    clear hS hB35
    go_simp
    refine (c32 A3 none CA3 0 ([] : List Spn) _ (by decide) h3 ⟨rfl, fun h => absurd h (by simp)⟩).mono ?_
    rintro e w37 ⟨rfl, hb⟩
    have hB37 := hB36.call hb rfl
    replace hC := hC.call hb rfl
    replace hT0 := blkb hT0 hb
    replace hT1 := blkb hT1 hb
    replace H := H.below hb
    replace h1 := h1.below hb
    replace h2 := h2.below hb
    replace h3 := h3.below hb
    replace ht := ht.below hb
    clear hb hB36
    refine hK _ _ hC ?_
    clear hK K
    try simp only [Act.put, List.setIfInBounds_toArray, List.set_cons_zero, List.set_cons_succ]
    repeat (first | (refine wpPlanA_skip _ rfl (by rfl) ?_; simp only [Act.put, List.setIfInBounds_toArray, List.set_cons_zero, List.set_cons_succ]) | (refine wpPlanA_soft _ ?_ rfl (by rfl) ?_ ?_; rotate_left; (intro wq hq hcq; go_simp; first | exact rfl | exact ⟨rfl, rfl⟩); simp only [Act.put, List.setIfInBounds_toArray, List.set_cons_zero, List.set_cons_succ]))
    refine wpPlanA_hard _ rfl (by rfl) (fun w38 hS K hK => ?_)
    have hB38 := hB37.call hS rfl
    replace hC := hC.call hS rfl
    replace hT0 := blkb hT0 hS
    replace hT1 := blkb hT1 hS
    replace H := H.below hS
    replace h1 := h1.below hS
    replace h2 := h2.below hS
    replace h3 := h3.below hS
    replace ht := ht.below hS
    clear hS hB37
    go_simp
    refine (c15 _).mono ?_
    rintro e w39 ⟨rfl, hb⟩
    have hB39 := hB38.call hb rfl
    replace hC := hC.call hb rfl
    replace hT0 := blkb hT0 hb
    replace hT1 := blkb hT1 hb
    replace H := H.below hb
    replace h1 := h1.below hb
    replace h2 := h2.below hb
    replace h3 := h3.below hb
    replace ht := ht.below hb
    clear hb hB38
    refine hK _ _ hC ?_
    clear hK K
    try simp only [Act.put, List.setIfInBounds_toArray, List.set_cons_zero, List.set_cons_succ]
    repeat (first | (refine wpPlanA_skip _ rfl (by rfl) ?_; simp only [Act.put, List.setIfInBounds_toArray, List.set_cons_zero, List.set_cons_succ]) | (refine wpPlanA_soft _ ?_ rfl (by rfl) ?_ ?_; rotate_left; (intro wq hq hcq; go_simp; first | exact rfl | exact ⟨rfl, rfl⟩); simp only [Act.put, List.setIfInBounds_toArray, List.set_cons_zero, List.set_cons_succ]))
    clear qhT0_0 qhT0_1 qhT0_2 qhT0_3 qhT0_4 qhT1_0 qhT1_1 qhT1_2 qhT1_3 qhT1_4
    refine wpPlanA_nil (fun w40 hS => ?_)
    clear hC zhT0 zhT1
    have hB40 := hB39.call hS rfl
    replace hT0 := blkb hT0 hS
    replace hT1 := blkb hT1 hS
    replace H := H.below hS
    replace h1 := h1.below hS
    replace h2 := h2.below hS
    replace h3 := h3.below hS
    replace ht := ht.below hS
    clear hS hB39
    have qhT0_0 : w40.cell? ⟨w.heap.size, 0, none⟩ = some (.int .i64 v.sx) := cell_at hT0 rfl
    have qhT0_1 : w40.cell? ⟨w.heap.size, 1, none⟩ = some (.int .i64 v.sy) := cell_at hT0 rfl
    have qhT0_2 : w40.cell? ⟨w.heap.size, 2, none⟩ = some (.int .i64 v.dx) := cell_at hT0 rfl
    have qhT0_3 : w40.cell? ⟨w.heap.size, 3, none⟩ = some (.int .i64 v.dy) := cell_at hT0 rfl
    have qhT0_4 : w40.cell? ⟨w.heap.size, 4, none⟩ = some (.int .i64 v.n) := cell_at hT0 rfl
    have qhT1_0 : w40.cell? ⟨w.heap.size + 1, 0, none⟩ = some (.int .i64 u.ring) := cell_at hT1 rfl
    have qhT1_1 : w40.cell? ⟨w.heap.size + 1, 1, none⟩ = some (.int .i64 u.speed) := cell_at hT1 rfl
    have qhT1_2 : w40.cell? ⟨w.heap.size + 1, 2, none⟩ = some (.int .i64 u.loss) := cell_at hT1 rfl
    have qhT1_3 : w40.cell? ⟨w.heap.size + 1, 3, none⟩ = some (.int .i64 u.clear) := cell_at hT1 rfl
    have qhT1_4 : w40.cell? ⟨w.heap.size + 1, 4, none⟩ = some (.int .i64 u.soft) := cell_at hT1 rfl
    go_wp2
    go_ret
    exact ⟨rfl, hB40⟩

end Go.Proofs.YtndhjkammoeikaaGreatDoor
