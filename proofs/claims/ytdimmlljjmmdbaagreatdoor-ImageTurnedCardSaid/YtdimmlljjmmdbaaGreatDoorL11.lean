/- A part of the proofs about chapter 7 (image): contracts of functions and plain laws (V73). -/
import Derived.Test.YtdimmlljjmmdbaaGreatDoorA15
import Derived.Test.YtdimmlljjmmdbaaGreatDoorA11
set_option linter.all false
namespace Go.Proofs.YtdimmlljjmmdbaaGreatDoor
open Go.RowKit Go.Shelf
set_option maxHeartbeats 8000000
set_option maxRecDepth 100000
theorem c20e (c r : Int) (A : Option Addr) (n cap : Nat) (l : List Int) (w : World) (hl : n ≤ 1000000) (H : RdI w A n l) :
   Calls Tryz.prog 20 #[.agg #[.int .i64 c, .int .i64 r, .slice A n cap]] w fun en w' => ∃ B cb, en = .returned (.agg #[.int .i64 c, .int .i64 r, .slice B n cb]) ∧ RdI w' B n l ∧ Below w.heap.size w w' := by
  refine (c20 c r A n cap l w hl H).mono ?_
  rintro e w' ⟨B, cb, h1, h2, _, _, h3⟩
  exact ⟨B, cb, h1, h2, h3⟩
theorem c71e (c r : Int) (A : Option Addr) (n cap : Nat) (l : List Int) (w : World) (hl : n ≤ 1000000) (H : RdI w A n l) :
   Calls Tryz.prog 71 #[.agg #[.int .i64 c, .int .i64 r, .slice A n cap]] w fun en w' => ∃ B cb, en = .returned (.agg #[.int .i64 c, .int .i64 r, .slice B n cb]) ∧ RdI w' B n l ∧ Below w.heap.size w w' := by
  refine (c71 c r A n cap l w hl H).mono ?_
  rintro e w' ⟨B, cb, h1, h2, _, _, h3⟩
  exact ⟨B, cb, h1, h2, h3⟩
theorem bl1 (w : World) (o : Obj) : Below w.heap.size w (w.alloc o) := (Below.refl _ _).alloc (Nat.le_refl _) _
theorem rd_nil' (w : World) : RdI w none 0 [] := ⟨rfl, fun h => absurd h (Nat.lt_irrefl 0)⟩
/-- a whole value stored in a block, as one step of a plan -/
theorem RowI.keepB {w w' : World} {B g cap n : Nat} {l : List Int} {b : Nat} (h : RowI w B g cap n l) (hb : Below b w w') (hg : g < b) : RowI w' B g cap n l := by
  obtain ⟨cs, h1, h2⟩ := h
  exact ⟨cs, (hb.block g hg).trans h1, h2⟩
theorem RowI.gr {w w' : World} {B g cap n : Nat} {l : List Int} {b : Nat} (h : RowI w B g cap n l) (hb : w.grownBy w' (some b)) (hg : g ≠ b) : RowI w' B g cap n l := by
  obtain ⟨cs, h1, h2⟩ := h
  exact ⟨cs, (hb.block g (Array.getElem?_eq_some_iff.1 h1).1 (by simp; exact fun e => hg e)).trans h1, h2⟩

theorem l11_ok (c r : Nat) (A : Option Addr) (n cap : Nat) (l : List Int) (rows : Bool) (w : World) (g : Im.Gr c r l) (hc : c ≤ 16) (hr : r ≤ 16) (H : RdI w A n l) (hst : Steps w) :
   Calls Tryz.prog 11 #[.agg #[.int .i64 c, .int .i64 r, .slice A n cap], .bool rows] w fun en w' => en = .returned (.bool true) ∧ Below w.heap.size w w' := by
  have HH0 := Lib.hid H
  have HST0 := Lib.hid hst
  obtain ⟨w0, hW⟩ : ∃ W, W = w.alloc (Obj.cells #[.int .i64 c, .int .i64 r, .slice A n cap] 24) := ⟨_, rfl⟩
  have hT0 : w0.heap[w.heap.size]? = some (.cells #[.int .i64 c, .int .i64 r, .slice A n cap] 24 (0, 0)) := by rw [hW]; exact heap_new (by simp)
  have hB0 : Below w.heap.size w w0 := by rw [hW]; exact ((Below.refl _ _).alloc (by first | omega | (simp <;> omega)) _)
  replace H := H.below hB0
  replace hst := hst.below hB0
  go_enter Tryz.func11, Tryz.ntmps11
  go_wp2_with fail
  rw [← hW]
  clear hW
  have qhT0_0 : w0.cell? ⟨w.heap.size, 0, none⟩ = some (.int .i64 c) := cell_at hT0 rfl
  have qhT0_1 : w0.cell? ⟨w.heap.size, 1, none⟩ = some (.int .i64 r) := cell_at hT0 rfl
  have qhT0_2 : w0.cell? ⟨w.heap.size, 2, none⟩ = some (.slice A n cap) := cell_at hT0 rfl
  go_wp2_with fail
  refine (c16 c r A n cap _).mono ?_
  rintro e w1 ⟨⟨b1, rfl, hP⟩, hb⟩
  clear qhT0_0 qhT0_1 qhT0_2
  have hS := hb
  have hB1 := hB0.call hS rfl
  replace hT0 := blkb hT0 hS
  replace H := H.below hS
  replace hst := hst.below hS
  clear hS hB0
  have qhT0_0 : w1.cell? ⟨w.heap.size, 0, none⟩ = some (.int .i64 c) := cell_at hT0 rfl
  have qhT0_1 : w1.cell? ⟨w.heap.size, 1, none⟩ = some (.int .i64 r) := cell_at hT0 rfl
  have qhT0_2 : w1.cell? ⟨w.heap.size, 2, none⟩ = some (.slice A n cap) := cell_at hT0 rfl
  clear hb
  have HP := Lib.hid hP
  clear hP
  cases b1
  ·
      go_wp2_with fail
      refine (c18 _ hst).mono ?_
      rintro e wz ⟨rfl, hz⟩
      go_wp2
      go_ret
      exact ⟨rfl, hB1.call hz rfl⟩
  have hn30 : n ≤ 30 := (by first | exact HP.out rfl | exact HP.out trivial)
  have hl : n ≤ 1000000 := by omega
  clear HP
  go_wp2_with fail
  refine (c20e c r A n cap l _ hl H).mono ?_
  rintro e w2 ⟨B1, cb1, rfl, hr1, hb⟩
  clear qhT0_0 qhT0_1 qhT0_2
  have hS := hb
  have hB2 := hB1.call hS rfl
  replace hT0 := blkb hT0 hS
  replace H := H.below hS
  replace hst := hst.below hS
  clear hS hB1
  have qhT0_0 : w2.cell? ⟨w.heap.size, 0, none⟩ = some (.int .i64 c) := cell_at hT0 rfl
  have qhT0_1 : w2.cell? ⟨w.heap.size, 1, none⟩ = some (.int .i64 r) := cell_at hT0 rfl
  have qhT0_2 : w2.cell? ⟨w.heap.size, 2, none⟩ = some (.slice A n cap) := cell_at hT0 rfl
  clear hb
  go_wp2_with fail
  refine (c66_ok c r B1 n cb1 l rows _ g hc hr hr1).mono ?_
  rintro e w3 ⟨og1, rfl, hrow1, hb⟩
  clear qhT0_0 qhT0_1 qhT0_2
  have hS := hb
  have hB3 := hB2.call hS rfl
  replace hT0 := blkb hT0 hS
  replace H := H.below hS
  replace hst := hst.below hS
  replace hr1 := hr1.below hS
  clear hS hB2
  have qhT0_0 : w3.cell? ⟨w.heap.size, 0, none⟩ = some (.int .i64 c) := cell_at hT0 rfl
  have qhT0_1 : w3.cell? ⟨w.heap.size, 1, none⟩ = some (.int .i64 r) := cell_at hT0 rfl
  have qhT0_2 : w3.cell? ⟨w.heap.size, 2, none⟩ = some (.slice A n cap) := cell_at hT0 rfl
  clear hb
  clear hr1
  have zg1 := cell_lt qhT0_0
  go_wp2_with fail
  refine (c20e c r A n cap l _ hl (H.below (bl1 _ _))).mono ?_
  rintro e w4 ⟨B2, cb2, rfl, hr2, hb⟩
  have hM := blkb (heap_new (w := w3) (o := (Obj.cells #[.int .i64 c, .int .i64 r, .slice (some ⟨og1, 0, none⟩) n n] 35)) rfl) hb
  clear qhT0_0 qhT0_1 qhT0_2
  have hS := ((Below.refl _ _).alloc (by first | exact Nat.le_refl _ | (simp <;> omega)) _).call hb rfl
  have hB4 := hB3.call hS rfl
  replace hT0 := blkb hT0 hS
  replace H := H.below hS
  replace hst := hst.below hS
  replace hrow1 := hrow1.below hS
  clear hS hB3
  have qhT0_0 : w4.cell? ⟨w.heap.size, 0, none⟩ = some (.int .i64 c) := cell_at hT0 rfl
  have qhT0_1 : w4.cell? ⟨w.heap.size, 1, none⟩ = some (.int .i64 r) := cell_at hT0 rfl
  have qhT0_2 : w4.cell? ⟨w.heap.size, 2, none⟩ = some (.slice A n cap) := cell_at hT0 rfl
  clear hb
  obtain ⟨bhM, hbhM⟩ : ∃ b, b = w3.heap.size := ⟨_, rfl⟩
  rw [← hbhM] at hM  ⊢
  clear hbhM
  go_wp2_with fail
  refine (c67_ok c r B2 n cb2 l _ g hc hr hr2).mono ?_
  rintro e w5 ⟨og2, rfl, hrow2, hb⟩
  clear qhT0_0 qhT0_1 qhT0_2
  have hS := hb
  have hB5 := hB4.call hS rfl
  replace hT0 := blkb hT0 hS
  replace H := H.below hS
  replace hst := hst.below hS
  replace hrow1 := hrow1.below hS
  replace hM := blkb hM hS
  replace hr2 := hr2.below hS
  clear hS hB4
  have qhT0_0 : w5.cell? ⟨w.heap.size, 0, none⟩ = some (.int .i64 c) := cell_at hT0 rfl
  have qhT0_1 : w5.cell? ⟨w.heap.size, 1, none⟩ = some (.int .i64 r) := cell_at hT0 rfl
  have qhT0_2 : w5.cell? ⟨w.heap.size, 2, none⟩ = some (.slice A n cap) := cell_at hT0 rfl
  clear hb
  clear hr2
  clear zg1
  have zg2 := cell_lt qhT0_0
  go_wp2_with fail
  refine (c65 c r A n cap l _ hl (H.below (bl1 _ _))).mono ?_
  rintro e w6 ⟨rfl, hb⟩
  have hN := blkb (heap_new (w := w5) (o := (Obj.cells #[.int .i64 r, .int .i64 c, .slice (some ⟨og2, 0, none⟩) n n] 35)) rfl) hb
  clear qhT0_0 qhT0_1 qhT0_2
  have hS := ((Below.refl _ _).alloc (by first | exact Nat.le_refl _ | (simp <;> omega)) _).call hb rfl
  have hB6 := hB5.call hS rfl
  replace hT0 := blkb hT0 hS
  replace H := H.below hS
  replace hst := hst.below hS
  replace hrow1 := hrow1.below hS
  replace hM := blkb hM hS
  replace hrow2 := hrow2.below hS
  clear hS hB5
  have qhT0_0 : w6.cell? ⟨w.heap.size, 0, none⟩ = some (.int .i64 c) := cell_at hT0 rfl
  have qhT0_1 : w6.cell? ⟨w.heap.size, 1, none⟩ = some (.int .i64 r) := cell_at hT0 rfl
  have qhT0_2 : w6.cell? ⟨w.heap.size, 2, none⟩ = some (.slice A n cap) := cell_at hT0 rfl
  clear hb
  obtain ⟨bhN, hbhN⟩ : ∃ b, b = w5.heap.size := ⟨_, rfl⟩
  rw [← hbhN] at hN  ⊢
  clear hbhN
  rw [Mo.ground_of g hc hr]
  clear zg2
  go_wp2_with fail
  obtain ⟨w7, hWn⟩ : ∃ W, W = (w6.alloc (Obj.cells #[.int .i64 0, .int .i64 0, .slice none 0 0] 24)).alloc (Obj.cells #[.int .i64 0, .int .i64 0, .slice none 0 0] 24) := ⟨_, rfl⟩
  have hX : w7.heap[w6.heap.size]? = some (.cells #[.int .i64 0, .int .i64 0, .slice none 0 0] 24 (0, 0)) := by rw [hWn]; exact heap_old (by simp <;> omega) (heap_new rfl)
  have hY : w7.heap[w6.heap.size + 1]? = some (.cells #[.int .i64 0, .int .i64 0, .slice none 0 0] 24 (0, 0)) := by rw [hWn]; exact heap_new (by simp)
  have hbn : Below w6.heap.size w6 w7 := by rw [hWn]; exact below2 _ _ _
  try rw [← hWn]
  have hsz : w6.heap.size + 1 + 1 = w7.heap.size := by rw [hWn]; simp
  clear hWn
  have hGl : w.heap.size < w6.heap.size := (Array.getElem?_eq_some_iff.1 hT0).1
  have hMl : bhM < w6.heap.size := (Array.getElem?_eq_some_iff.1 hM).1
  have hNl : bhN < w6.heap.size := (Array.getElem?_eq_some_iff.1 hN).1
  have hR1l : og1 < w6.heap.size := (Array.getElem?_eq_some_iff.1 hrow1.choose_spec.1).1
  have hR2l : og2 < w6.heap.size := (Array.getElem?_eq_some_iff.1 hrow2.choose_spec.1).1
  clear qhT0_0 qhT0_1 qhT0_2
  have hS := hbn
  have hB7 := hB6.call hS rfl
  replace hT0 := blkb hT0 hS
  replace H := H.below hS
  replace hst := hst.below hS
  replace hrow1 := hrow1.below hS
  replace hM := blkb hM hS
  replace hrow2 := hrow2.below hS
  replace hN := blkb hN hS
  clear hS hB6
  have qhT0_0 : w7.cell? ⟨w.heap.size, 0, none⟩ = some (.int .i64 c) := cell_at hT0 rfl
  have qhT0_1 : w7.cell? ⟨w.heap.size, 1, none⟩ = some (.int .i64 r) := cell_at hT0 rfl
  have qhT0_2 : w7.cell? ⟨w.heap.size, 2, none⟩ = some (.slice A n cap) := cell_at hT0 rfl
  clear hbn
  obtain ⟨bX, hbX⟩ : ∃ b, b = w6.heap.size := ⟨_, rfl⟩
  rw [← hbX] at hX hY hsz hGl hMl hNl hR1l hR2l ⊢
  clear hbX
  have hle : bX ≤ w7.heap.size := by omega
  have hle2 : bX + 1 + 1 ≤ w7.heap.size := by omega
  go_wp2_with fail
  refine wp_region_plan [(0, true), (1, true), (3, true), (2, false), (4, false), (5, false), (6, false)] bX (by kernel_rfl) (by kernel_rfl) hle (fun _ _ d _ _ h => by cases d <;> exact h) ?_
  have hC : Below bX w7 w7 := Below.refl _ _
  repeat (first | (refine wpPlanA_skip _ rfl (by rfl) ?_; simp only [Act.put, List.setIfInBounds_toArray, List.set_cons_zero, List.set_cons_succ]) | (refine wpPlanA_soft _ ?_ rfl (by rfl) ?_ ?_; rotate_left; (intro wq hq hcq; go_simp; first | exact rfl | exact ⟨rfl, rfl⟩); simp only [Act.put, List.setIfInBounds_toArray, List.set_cons_zero, List.set_cons_succ]))
  refine wpPlanA_hard _ rfl (by rfl) (fun w31 hS K hK => ?_)
  go_simp
  refine (c68 c r A n cap l rows _ g hc hr (H.below hS)).mono ?_
  rintro e w32 ⟨Q1, qc1, rfl, ho1, hb⟩
  have hS1 := hS.call hb rfl
  have hq1 : bX + 1 + 1 ≤ w31.heap.size := Nat.le_trans hle2 hS.size
  replace hC := hS1.mono hle
  refine hK _ _ hC ?_
  clear hK K hS hb
  try simp only [Act.put, List.setIfInBounds_toArray, List.set_cons_zero, List.set_cons_succ]
  refine wpPlanA_hard _ rfl (by rfl) (fun w33 hS K hK => ?_)
  replace hS1 := hS1.call hS rfl
  replace ho1 := ho1.below hS
  clear hS
  go_simp
  refine (c69 c r A n cap l _ g hc hr (H.below hS1)).mono ?_
  rintro e w34 ⟨Q2, qc2, rfl, ho2, hb⟩
  replace ho1 := ho1.below hb
  have hq2 : bX + 1 + 1 ≤ w33.heap.size := Nat.le_trans hle2 hS1.size
  replace hS1 := hS1.call hb rfl
  replace hC := hS1.mono hle
  refine hK _ _ hC ?_
  clear hK K hb
  try simp only [Act.put, List.setIfInBounds_toArray, List.set_cons_zero, List.set_cons_succ]
  refine wpPlanA_hard _ rfl (by rfl) (fun w35 hS K hK => ?_)
  replace hS1 := hS1.call hS rfl
  replace ho1 := ho1.below hS
  replace ho2 := ho2.below hS
  replace hC := hS1.mono hle
  have hX5 := blkb hX hS1
  have hY5 := blkb hY hS1
  clear hS
  refine wp_store_blk 24 _ _ rfl bX _ rfl rfl hX5 ?s1 ?s2 ?s3 ?_
  case s1 => rfl
  case s2 => kernel_rfl
  case s3 => simp [Value.oneCell']
  intro w36 hX6 hg6 hs6
  have hC6 := hC.grown hg6 (Nat.le_trans hle hS1.size) (fun j hj => by cases hj; exact Nat.le_refl _)
  have ho16 := Own.kept ho1 hg6 (by omega)
  have ho26 := Own.kept ho2 hg6 (by omega)
  have hY6 := (hg6.block (bX + 1) (Array.getElem?_eq_some_iff.1 hY5).1 (by simp <;> omega)).trans hY5
  refine hK _ _ hC6 ?_
  clear hK K hs6 hg6 ho1 ho2 hX5 hY5
  try simp only [Act.put, List.setIfInBounds_toArray, List.set_cons_zero, List.set_cons_succ]
  refine wpPlanA_hard _ rfl (by rfl) (fun w37 hS K hK => ?_)
  have hC7 := hC6.trans (hS.mono (Nat.le_trans hle hC6.size))
  have ho17 := ho16.below hS
  have ho27 := ho26.below hS
  have hX7 := blkb hX6 hS
  have hY7 := blkb hY6 hS
  clear hS ho16 ho26 hX6 hY6
  refine wp_store_blk 24 _ _ rfl (bX + 1) _ rfl rfl hY7 ?s4 ?s5 ?s6 ?_
  case s4 => rfl
  case s5 => kernel_rfl
  case s6 => simp [Value.oneCell']
  intro w38 hY8 hg8 hs8
  have hC8 := hC7.grown hg8 (Nat.le_trans hle hC7.size) (fun j hj => by cases hj; omega)
  have ho18 := Own.kept ho17 hg8 (by omega)
  have ho28 := Own.kept ho27 hg8 (by omega)
  have hX8 := (hg8.block bX (Array.getElem?_eq_some_iff.1 hX7).1 (by simp <;> omega)).trans hX7
  refine hK _ _ hC8 ?_
  clear hK K hs8 hg8 ho17 ho27 hX7 hY7 hC6 hC7 hC
  try simp only [Act.put, List.setIfInBounds_toArray, List.set_cons_zero, List.set_cons_succ]
  refine wpPlanA_nil (fun w39 hS => ?_)
  have hC9 := hC8.trans (hS.mono (Nat.le_trans hle hC8.size))
  have ho19 := ho18.below hS
  have ho29 := ho28.below hS
  have hX9 := blkb hX8 hS
  have hY9 := blkb hY8 hS
  have hB39 := hB7.trans (hC9.mono (by omega))
  clear hS ho18 ho28 hX8 hY8 hC8 hS1 hq1 hq2
  clear qhT0_0 qhT0_1 qhT0_2
  clear hX hY
  have hX := hX9
  have hY := hY9
  obtain ⟨_, _, e1, hrX, _⟩ := own_form ho19
  cases e1
  obtain ⟨_, _, e2, hrY, _⟩ := own_form ho29
  cases e2
  have H9 := HH0.out.below hB39
  have hst9 := HST0.out.below hB39
  have hT9 := (hC9.block _ hGl).trans hT0
  have hM9 := (hC9.block _ hMl).trans hM
  have hN9 := (hC9.block _ hNl).trans hN
  have hr19 := hrow1.keepB hC9 hR1l
  have hr29 := hrow2.keepB hC9 hR2l
  clear H hst hT0 hM hN hrow1 hrow2 hC9 hX9 hY9 ho19 ho29 hB7
  have H := H9
  have hst := hst9
  have hT0 := hT9
  have hM := hM9
  have hN := hN9
  have hrow1 := hr19.rd
  have hrow2 := hr29.rd
  clear H9 hst9 hT9 hM9 hN9 hr19 hr29
  have qhT0_0 : w39.cell? ⟨w.heap.size, 0, none⟩ = some (.int .i64 c) := cell_at hT0 rfl
  have qhT0_1 : w39.cell? ⟨w.heap.size, 1, none⟩ = some (.int .i64 r) := cell_at hT0 rfl
  have qhT0_2 : w39.cell? ⟨w.heap.size, 2, none⟩ = some (.slice A n cap) := cell_at hT0 rfl
  have qhM_0 : w39.cell? ⟨bhM, 0, none⟩ = some (.int .i64 c) := cell_at hM rfl
  have qhM_1 : w39.cell? ⟨bhM, 1, none⟩ = some (.int .i64 r) := cell_at hM rfl
  have qhM_2 : w39.cell? ⟨bhM, 2, none⟩ = some (.slice (some ⟨og1, 0, none⟩) n n) := cell_at hM rfl
  have qhN_0 : w39.cell? ⟨bhN, 0, none⟩ = some (.int .i64 r) := cell_at hN rfl
  have qhN_1 : w39.cell? ⟨bhN, 1, none⟩ = some (.int .i64 c) := cell_at hN rfl
  have qhN_2 : w39.cell? ⟨bhN, 2, none⟩ = some (.slice (some ⟨og2, 0, none⟩) n n) := cell_at hN rfl
  have qhX_0 : w39.cell? ⟨bX, 0, none⟩ = some (.int .i64 c) := cell_at hX rfl
  have qhX_1 : w39.cell? ⟨bX, 1, none⟩ = some (.int .i64 r) := cell_at hX rfl
  have qhX_2 : w39.cell? ⟨bX, 2, none⟩ = some (.slice Q1 n qc1) := cell_at hX rfl
  have qhY_0 : w39.cell? ⟨bX + 1, 0, none⟩ = some (.int .i64 r) := cell_at hY rfl
  have qhY_1 : w39.cell? ⟨bX + 1, 1, none⟩ = some (.int .i64 c) := cell_at hY rfl
  have qhY_2 : w39.cell? ⟨bX + 1, 2, none⟩ = some (.slice Q2 n qc2) := cell_at hY rfl
  clear hsz hGl hMl hNl hR1l hR2l hle hle2
  go_wp2_with fail
  refine wp_region_plan [(0, true), (2, true), (1, false), (3, false), (4, true), (5, true), (6, true), (7, true), (8, true), (9, true), (10, true), (12, true), (11, false), (13, false), (14, true), (15, true), (16, true), (17, true), (18, true), (19, true), (20, true), (21, false), (22, true), (23, true)] w39.heap.size (by kernel_rfl) (by kernel_rfl) (Nat.le_refl _) (fun _ _ d _ _ h => by cases d <;> exact h) ?_
  have hC : Below w39.heap.size w39 w39 := Below.refl _ _
  have zhT0 : w.heap.size < w39.heap.size := (Array.getElem?_eq_some_iff.1 hT0).1
  have zhM : bhM < w39.heap.size := (Array.getElem?_eq_some_iff.1 hM).1
  have zhN : bhN < w39.heap.size := (Array.getElem?_eq_some_iff.1 hN).1
  have zhX : bX < w39.heap.size := (Array.getElem?_eq_some_iff.1 hX).1
  have zhY : bX + 1 < w39.heap.size := (Array.getElem?_eq_some_iff.1 hY).1
  repeat (first | (refine wpPlanA_skip _ rfl (by rfl) ?_; simp only [Act.put, List.setIfInBounds_toArray, List.set_cons_zero, List.set_cons_succ]) | (refine wpPlanA_soft _ ?_ rfl (by rfl) ?_ ?_; rotate_left; (intro wq hq hcq; go_simp; first | exact rfl | exact ⟨rfl, rfl⟩); simp only [Act.put, List.setIfInBounds_toArray, List.set_cons_zero, List.set_cons_succ]))
  refine wpPlanA_hard _ rfl (by rfl) (fun w40 hS K hK => ?_)
  have hB40 := hB39.call hS rfl
  replace hC := hC.call hS rfl
  replace hT0 := blkb hT0 hS
  replace H := H.below hS
  replace hst := hst.below hS
  replace hrow1 := hrow1.below hS
  replace hM := blkb hM hS
  replace hrow2 := hrow2.below hS
  replace hN := blkb hN hS
  replace hX := blkb hX hS
  replace hY := blkb hY hS
  replace hrX := hrX.below hS
  replace hrY := hrY.below hS
  clear hS hB39
  go_simp
  refine (c71e c r (some ⟨og1, 0, none⟩) n n (Im.mirL c r l rows) _ hl hrow1).mono ?_
  rintro e w41 ⟨O1, oc1, rfl, hO1, hb⟩
  have hB41 := hB40.call hb rfl
  replace hC := hC.call hb rfl
  replace hT0 := blkb hT0 hb
  replace H := H.below hb
  replace hst := hst.below hb
  replace hrow1 := hrow1.below hb
  replace hM := blkb hM hb
  replace hrow2 := hrow2.below hb
  replace hN := blkb hN hb
  replace hX := blkb hX hb
  replace hY := blkb hY hb
  replace hrX := hrX.below hb
  replace hrY := hrY.below hb
  clear hb hB40
  refine hK _ _ hC ?_
  clear hK K
  try simp only [Act.put, List.setIfInBounds_toArray, List.set_cons_zero, List.set_cons_succ]
  repeat (first | (refine wpPlanA_skip _ rfl (by rfl) ?_; simp only [Act.put, List.setIfInBounds_toArray, List.set_cons_zero, List.set_cons_succ]) | (refine wpPlanA_soft _ ?_ rfl (by rfl) ?_ ?_; rotate_left; (intro wq hq hcq; go_simp; first | exact rfl | exact ⟨rfl, rfl⟩); simp only [Act.put, List.setIfInBounds_toArray, List.set_cons_zero, List.set_cons_succ]))
  refine wpPlanA_hard _ rfl (by rfl) (fun w42 hS K hK => ?_)
  have hB42 := hB41.call hS rfl
  replace hC := hC.call hS rfl
  replace hT0 := blkb hT0 hS
  replace H := H.below hS
  replace hst := hst.below hS
  replace hrow1 := hrow1.below hS
  replace hM := blkb hM hS
  replace hrow2 := hrow2.below hS
  replace hN := blkb hN hS
  replace hX := blkb hX hS
  replace hY := blkb hY hS
  replace hrX := hrX.below hS
  replace hrY := hrY.below hS
  replace hO1 := hO1.below hS
  clear hS hB41
  go_simp
  refine (c70_eq c r O1 Q1 n oc1 qc1 (Im.mirL c r l rows) _ hl hO1 hrX).mono ?_
  rintro e w43 ⟨rfl, hb⟩
  have hB43 := hB42.call hb rfl
  replace hC := hC.call hb rfl
  replace hT0 := blkb hT0 hb
  replace H := H.below hb
  replace hst := hst.below hb
  replace hrow1 := hrow1.below hb
  replace hM := blkb hM hb
  replace hrow2 := hrow2.below hb
  replace hN := blkb hN hb
  replace hX := blkb hX hb
  replace hY := blkb hY hb
  replace hrX := hrX.below hb
  replace hrY := hrY.below hb
  replace hO1 := hO1.below hb
  clear hb hB42
  refine hK _ _ hC ?_
  clear hK K
  try simp only [Act.put, List.setIfInBounds_toArray, List.set_cons_zero, List.set_cons_succ]
  repeat (first | (refine wpPlanA_skip _ rfl (by rfl) ?_; simp only [Act.put, List.setIfInBounds_toArray, List.set_cons_zero, List.set_cons_succ]) | (refine wpPlanA_soft _ ?_ rfl (by rfl) ?_ ?_; rotate_left; (intro wq hq hcq; go_simp; first | exact rfl | exact ⟨rfl, rfl⟩); simp only [Act.put, List.setIfInBounds_toArray, List.set_cons_zero, List.set_cons_succ]))
  refine wpPlanA_hard _ rfl (by rfl) (fun w44 hS K hK => ?_)
  have hB44 := hB43.call hS rfl
  replace hC := hC.call hS rfl
  replace hT0 := blkb hT0 hS
  replace H := H.below hS
  replace hst := hst.below hS
  replace hrow1 := hrow1.below hS
  replace hM := blkb hM hS
  replace hrow2 := hrow2.below hS
  replace hN := blkb hN hS
  replace hX := blkb hX hS
  replace hY := blkb hY hS
  replace hrX := hrX.below hS
  replace hrY := hrY.below hS
  replace hO1 := hO1.below hS
  clear hS hB43
  go_simp
  refine (c71e r c (some ⟨og2, 0, none⟩) n n (Im.trL c r l) _ hl hrow2).mono ?_
  rintro e w45 ⟨O2, oc2, rfl, hO2, hb⟩
  have hB45 := hB44.call hb rfl
  replace hC := hC.call hb rfl
  replace hT0 := blkb hT0 hb
  replace H := H.below hb
  replace hst := hst.below hb
  replace hrow1 := hrow1.below hb
  replace hM := blkb hM hb
  replace hrow2 := hrow2.below hb
  replace hN := blkb hN hb
  replace hX := blkb hX hb
  replace hY := blkb hY hb
  replace hrX := hrX.below hb
  replace hrY := hrY.below hb
  replace hO1 := hO1.below hb
  clear hb hB44
  refine hK _ _ hC ?_
  clear hK K
  try simp only [Act.put, List.setIfInBounds_toArray, List.set_cons_zero, List.set_cons_succ]
  repeat (first | (refine wpPlanA_skip _ rfl (by rfl) ?_; simp only [Act.put, List.setIfInBounds_toArray, List.set_cons_zero, List.set_cons_succ]) | (refine wpPlanA_soft _ ?_ rfl (by rfl) ?_ ?_; rotate_left; (intro wq hq hcq; go_simp; first | exact rfl | exact ⟨rfl, rfl⟩); simp only [Act.put, List.setIfInBounds_toArray, List.set_cons_zero, List.set_cons_succ]))
  refine wpPlanA_hard _ rfl (by rfl) (fun w46 hS K hK => ?_)
  have hB46 := hB45.call hS rfl
  replace hC := hC.call hS rfl
  replace hT0 := blkb hT0 hS
  replace H := H.below hS
  replace hst := hst.below hS
  replace hrow1 := hrow1.below hS
  replace hM := blkb hM hS
  replace hrow2 := hrow2.below hS
  replace hN := blkb hN hS
  replace hX := blkb hX hS
  replace hY := blkb hY hS
  replace hrX := hrX.below hS
  replace hrY := hrY.below hS
  replace hO1 := hO1.below hS
  replace hO2 := hO2.below hS
  clear hS hB45
  go_simp
  refine (c70_eq r c O2 Q2 n oc2 qc2 (Im.trL c r l) _ hl hO2 hrY).mono ?_
  rintro e w47 ⟨rfl, hb⟩
  have hB47 := hB46.call hb rfl
  replace hC := hC.call hb rfl
  replace hT0 := blkb hT0 hb
  replace H := H.below hb
  replace hst := hst.below hb
  replace hrow1 := hrow1.below hb
  replace hM := blkb hM hb
  replace hrow2 := hrow2.below hb
  replace hN := blkb hN hb
  replace hX := blkb hX hb
  replace hY := blkb hY hb
  replace hrX := hrX.below hb
  replace hrY := hrY.below hb
  replace hO1 := hO1.below hb
  replace hO2 := hO2.below hb
  clear hb hB46
  refine hK _ _ hC ?_
  clear hK K
  try simp only [Act.put, List.setIfInBounds_toArray, List.set_cons_zero, List.set_cons_succ]
  repeat (first | (refine wpPlanA_skip _ rfl (by rfl) ?_; simp only [Act.put, List.setIfInBounds_toArray, List.set_cons_zero, List.set_cons_succ]) | (refine wpPlanA_soft _ ?_ rfl (by rfl) ?_ ?_; rotate_left; (intro wq hq hcq; go_simp; first | exact rfl | exact ⟨rfl, rfl⟩); simp only [Act.put, List.setIfInBounds_toArray, List.set_cons_zero, List.set_cons_succ]))
  refine wpPlanA_hard _ rfl (by rfl) (fun w48 hS K hK => ?_)
  have hB48 := hB47.call hS rfl
  replace hC := hC.call hS rfl
  replace hT0 := blkb hT0 hS
  replace H := H.below hS
  replace hst := hst.below hS
  replace hrow1 := hrow1.below hS
  replace hM := blkb hM hS
  replace hrow2 := hrow2.below hS
  replace hN := blkb hN hS
  replace hX := blkb hX hS
  replace hY := blkb hY hS
  replace hrX := hrX.below hS
  replace hrY := hrY.below hS
  replace hO1 := hO1.below hS
  replace hO2 := hO2.below hS
  clear hS hB47
  go_simp
  refine (c18 _ hst).mono ?_
  rintro e w49 ⟨rfl, hb⟩
  have hB49 := hB48.call hb rfl
  replace hC := hC.call hb rfl
  replace hT0 := blkb hT0 hb
  replace H := H.below hb
  replace hst := hst.below hb
  replace hrow1 := hrow1.below hb
  replace hM := blkb hM hb
  replace hrow2 := hrow2.below hb
  replace hN := blkb hN hb
  replace hX := blkb hX hb
  replace hY := blkb hY hb
  replace hrX := hrX.below hb
  replace hrY := hrY.below hb
  replace hO1 := hO1.below hb
  replace hO2 := hO2.below hb
  clear hb hB48
  refine hK _ _ hC ?_
  clear hK K
  try simp only [Act.put, List.setIfInBounds_toArray, List.set_cons_zero, List.set_cons_succ]
  repeat (first | (refine wpPlanA_skip _ rfl (by rfl) ?_; simp only [Act.put, List.setIfInBounds_toArray, List.set_cons_zero, List.set_cons_succ]) | (refine wpPlanA_soft _ ?_ rfl (by rfl) ?_ ?_; rotate_left; (intro wq hq hcq; go_simp; first | exact rfl | exact ⟨rfl, rfl⟩); simp only [Act.put, List.setIfInBounds_toArray, List.set_cons_zero, List.set_cons_succ]))
  clear qhT0_0 qhT0_1 qhT0_2 qhM_0 qhM_1 qhM_2 qhN_0 qhN_1 qhN_2 qhX_0 qhX_1 qhX_2 qhY_0 qhY_1 qhY_2
  refine wpPlanA_nil (fun w50 hS => ?_)
  clear hC zhT0 zhM zhN zhX zhY
  have hB50 := hB49.call hS rfl
  replace hT0 := blkb hT0 hS
  replace H := H.below hS
  replace hst := hst.below hS
  replace hrow1 := hrow1.below hS
  replace hM := blkb hM hS
  replace hrow2 := hrow2.below hS
  replace hN := blkb hN hS
  replace hX := blkb hX hS
  replace hY := blkb hY hS
  replace hrX := hrX.below hS
  replace hrY := hrY.below hS
  replace hO1 := hO1.below hS
  replace hO2 := hO2.below hS
  clear hS hB49
  have qhT0_0 : w50.cell? ⟨w.heap.size, 0, none⟩ = some (.int .i64 c) := cell_at hT0 rfl
  have qhT0_1 : w50.cell? ⟨w.heap.size, 1, none⟩ = some (.int .i64 r) := cell_at hT0 rfl
  have qhT0_2 : w50.cell? ⟨w.heap.size, 2, none⟩ = some (.slice A n cap) := cell_at hT0 rfl
  have qhM_0 : w50.cell? ⟨bhM, 0, none⟩ = some (.int .i64 c) := cell_at hM rfl
  have qhM_1 : w50.cell? ⟨bhM, 1, none⟩ = some (.int .i64 r) := cell_at hM rfl
  have qhM_2 : w50.cell? ⟨bhM, 2, none⟩ = some (.slice (some ⟨og1, 0, none⟩) n n) := cell_at hM rfl
  have qhN_0 : w50.cell? ⟨bhN, 0, none⟩ = some (.int .i64 r) := cell_at hN rfl
  have qhN_1 : w50.cell? ⟨bhN, 1, none⟩ = some (.int .i64 c) := cell_at hN rfl
  have qhN_2 : w50.cell? ⟨bhN, 2, none⟩ = some (.slice (some ⟨og2, 0, none⟩) n n) := cell_at hN rfl
  have qhX_0 : w50.cell? ⟨bX, 0, none⟩ = some (.int .i64 c) := cell_at hX rfl
  have qhX_1 : w50.cell? ⟨bX, 1, none⟩ = some (.int .i64 r) := cell_at hX rfl
  have qhX_2 : w50.cell? ⟨bX, 2, none⟩ = some (.slice Q1 n qc1) := cell_at hX rfl
  have qhY_0 : w50.cell? ⟨bX + 1, 0, none⟩ = some (.int .i64 r) := cell_at hY rfl
  have qhY_1 : w50.cell? ⟨bX + 1, 1, none⟩ = some (.int .i64 c) := cell_at hY rfl
  have qhY_2 : w50.cell? ⟨bX + 1, 2, none⟩ = some (.slice Q2 n qc2) := cell_at hY rfl
  go_wp2
  go_ret
  exact ⟨rfl, hB50⟩

theorem l11_bad (c r : Int) (A : Option Addr) (n cap : Nat) (l : List Int) (rows : Bool) (w : World) (hE : Mo.ground c r l ≠ 0) (H : RdI w A n l) (hst : Steps w) :
   Calls Tryz.prog 11 #[.agg #[.int .i64 c, .int .i64 r, .slice A n cap], .bool rows] w fun en w' => en = .returned (.bool true) ∧ Below w.heap.size w w' := by
  obtain ⟨E, hE1⟩ : ∃ E, E = Mo.ground c r l := ⟨_, rfl⟩
  have hef : (E == 0) = false := by rw [hE1]; simpa using hE
  have HE := Lib.hid hE1
  have HE0 := Lib.hid hE
  clear hE1 hE
  obtain ⟨w0, hW⟩ : ∃ W, W = w.alloc (Obj.cells #[.int .i64 c, .int .i64 r, .slice A n cap] 24) := ⟨_, rfl⟩
  have hT0 : w0.heap[w.heap.size]? = some (.cells #[.int .i64 c, .int .i64 r, .slice A n cap] 24 (0, 0)) := by rw [hW]; exact heap_new (by simp)
  have hB0 : Below w.heap.size w w0 := by rw [hW]; exact ((Below.refl _ _).alloc (by first | omega | (simp <;> omega)) _)
  replace H := H.below hB0
  replace hst := hst.below hB0
  go_enter Tryz.func11, Tryz.ntmps11
  go_wp2_with fail
  rw [← hW]
  clear hW
  have qhT0_0 : w0.cell? ⟨w.heap.size, 0, none⟩ = some (.int .i64 c) := cell_at hT0 rfl
  have qhT0_1 : w0.cell? ⟨w.heap.size, 1, none⟩ = some (.int .i64 r) := cell_at hT0 rfl
  have qhT0_2 : w0.cell? ⟨w.heap.size, 2, none⟩ = some (.slice A n cap) := cell_at hT0 rfl
  go_wp2_with fail
  refine (c16 c r A n cap _).mono ?_
  rintro e w1 ⟨⟨b1, rfl, hP⟩, hb⟩
  clear qhT0_0 qhT0_1 qhT0_2
  have hS := hb
  have hB1 := hB0.call hS rfl
  replace hT0 := blkb hT0 hS
  replace H := H.below hS
  replace hst := hst.below hS
  clear hS hB0
  have qhT0_0 : w1.cell? ⟨w.heap.size, 0, none⟩ = some (.int .i64 c) := cell_at hT0 rfl
  have qhT0_1 : w1.cell? ⟨w.heap.size, 1, none⟩ = some (.int .i64 r) := cell_at hT0 rfl
  have qhT0_2 : w1.cell? ⟨w.heap.size, 2, none⟩ = some (.slice A n cap) := cell_at hT0 rfl
  clear hb
  have HP := Lib.hid hP
  clear hP
  cases b1
  ·
      go_wp2_with fail
      refine (c18 _ hst).mono ?_
      rintro e wz ⟨rfl, hz⟩
      go_wp2
      go_ret
      exact ⟨rfl, hB1.call hz rfl⟩
  have hn30 : n ≤ 30 := (by first | exact HP.out rfl | exact HP.out trivial)
  have hl : n ≤ 1000000 := by omega
  clear HP
  go_wp2_with fail
  refine (c20e c r A n cap l _ hl H).mono ?_
  rintro e w2 ⟨B1, cb1, rfl, hr1, hb⟩
  clear qhT0_0 qhT0_1 qhT0_2
  have hS := hb
  have hB2 := hB1.call hS rfl
  replace hT0 := blkb hT0 hS
  replace H := H.below hS
  replace hst := hst.below hS
  clear hS hB1
  have qhT0_0 : w2.cell? ⟨w.heap.size, 0, none⟩ = some (.int .i64 c) := cell_at hT0 rfl
  have qhT0_1 : w2.cell? ⟨w.heap.size, 1, none⟩ = some (.int .i64 r) := cell_at hT0 rfl
  have qhT0_2 : w2.cell? ⟨w.heap.size, 2, none⟩ = some (.slice A n cap) := cell_at hT0 rfl
  clear hb
  go_wp2_with fail
  refine (c66_bad c r B1 n cb1 l rows _ hl hr1 HE0.out).mono ?_
  rintro e w3 ⟨rfl, hb⟩
  clear qhT0_0 qhT0_1 qhT0_2
  have hS := hb
  have hB3 := hB2.call hS rfl
  replace hT0 := blkb hT0 hS
  replace H := H.below hS
  replace hst := hst.below hS
  replace hr1 := hr1.below hS
  clear hS hB2
  have qhT0_0 : w3.cell? ⟨w.heap.size, 0, none⟩ = some (.int .i64 c) := cell_at hT0 rfl
  have qhT0_1 : w3.cell? ⟨w.heap.size, 1, none⟩ = some (.int .i64 r) := cell_at hT0 rfl
  have qhT0_2 : w3.cell? ⟨w.heap.size, 2, none⟩ = some (.slice A n cap) := cell_at hT0 rfl
  clear hb
  rw [← HE.out]
  clear hr1
  have zg1 := cell_lt qhT0_0
  go_wp2_with fail
  refine (c20e c r A n cap l _ hl (H.below (bl1 _ _))).mono ?_
  rintro e w4 ⟨B2, cb2, rfl, hr2, hb⟩
  have hM := blkb (heap_new (w := w3) (o := (Obj.cells #[.int .i64 0, .int .i64 0, .slice none 0 0] 35)) rfl) hb
  clear qhT0_0 qhT0_1 qhT0_2
  have hS := ((Below.refl _ _).alloc (by first | exact Nat.le_refl _ | (simp <;> omega)) _).call hb rfl
  have hB4 := hB3.call hS rfl
  replace hT0 := blkb hT0 hS
  replace H := H.below hS
  replace hst := hst.below hS
  clear hS hB3
  have qhT0_0 : w4.cell? ⟨w.heap.size, 0, none⟩ = some (.int .i64 c) := cell_at hT0 rfl
  have qhT0_1 : w4.cell? ⟨w.heap.size, 1, none⟩ = some (.int .i64 r) := cell_at hT0 rfl
  have qhT0_2 : w4.cell? ⟨w.heap.size, 2, none⟩ = some (.slice A n cap) := cell_at hT0 rfl
  clear hb
  obtain ⟨bhM, hbhM⟩ : ∃ b, b = w3.heap.size := ⟨_, rfl⟩
  rw [← hbhM] at hM  ⊢
  clear hbhM
  go_wp2_with fail
  refine (c67_bad c r B2 n cb2 l _ hl hr2 HE0.out).mono ?_
  rintro e w5 ⟨rfl, hb⟩
  clear qhT0_0 qhT0_1 qhT0_2
  have hS := hb
  have hB5 := hB4.call hS rfl
  replace hT0 := blkb hT0 hS
  replace H := H.below hS
  replace hst := hst.below hS
  replace hM := blkb hM hS
  replace hr2 := hr2.below hS
  clear hS hB4
  have qhT0_0 : w5.cell? ⟨w.heap.size, 0, none⟩ = some (.int .i64 c) := cell_at hT0 rfl
  have qhT0_1 : w5.cell? ⟨w.heap.size, 1, none⟩ = some (.int .i64 r) := cell_at hT0 rfl
  have qhT0_2 : w5.cell? ⟨w.heap.size, 2, none⟩ = some (.slice A n cap) := cell_at hT0 rfl
  clear hb
  rw [← HE.out]
  clear hr2
  clear zg1
  have zg2 := cell_lt qhT0_0
  go_wp2_with fail
  refine (c65 c r A n cap l _ hl (H.below (bl1 _ _))).mono ?_
  rintro e w6 ⟨rfl, hb⟩
  have hN := blkb (heap_new (w := w5) (o := (Obj.cells #[.int .i64 0, .int .i64 0, .slice none 0 0] 35)) rfl) hb
  clear qhT0_0 qhT0_1 qhT0_2
  have hS := ((Below.refl _ _).alloc (by first | exact Nat.le_refl _ | (simp <;> omega)) _).call hb rfl
  have hB6 := hB5.call hS rfl
  replace hT0 := blkb hT0 hS
  replace H := H.below hS
  replace hst := hst.below hS
  replace hM := blkb hM hS
  clear hS hB5
  have qhT0_0 : w6.cell? ⟨w.heap.size, 0, none⟩ = some (.int .i64 c) := cell_at hT0 rfl
  have qhT0_1 : w6.cell? ⟨w.heap.size, 1, none⟩ = some (.int .i64 r) := cell_at hT0 rfl
  have qhT0_2 : w6.cell? ⟨w.heap.size, 2, none⟩ = some (.slice A n cap) := cell_at hT0 rfl
  clear hb
  obtain ⟨bhN, hbhN⟩ : ∃ b, b = w5.heap.size := ⟨_, rfl⟩
  rw [← hbhN] at hN  ⊢
  clear hbhN
  rw [← HE.out]
  clear zg2
  go_wp2_with fail
  obtain ⟨w7, hWn⟩ : ∃ W, W = (w6.alloc (Obj.cells #[.int .i64 0, .int .i64 0, .slice none 0 0] 24)).alloc (Obj.cells #[.int .i64 0, .int .i64 0, .slice none 0 0] 24) := ⟨_, rfl⟩
  have hX : w7.heap[w6.heap.size]? = some (.cells #[.int .i64 0, .int .i64 0, .slice none 0 0] 24 (0, 0)) := by rw [hWn]; exact heap_old (by simp <;> omega) (heap_new rfl)
  have hY : w7.heap[w6.heap.size + 1]? = some (.cells #[.int .i64 0, .int .i64 0, .slice none 0 0] 24 (0, 0)) := by rw [hWn]; exact heap_new (by simp)
  have hbn : Below w6.heap.size w6 w7 := by rw [hWn]; exact below2 _ _ _
  try rw [← hWn]
  have hsz : w6.heap.size + 1 + 1 = w7.heap.size := by rw [hWn]; simp
  clear hWn
  have hGl : w.heap.size < w6.heap.size := (Array.getElem?_eq_some_iff.1 hT0).1
  have hMl : bhM < w6.heap.size := (Array.getElem?_eq_some_iff.1 hM).1
  have hNl : bhN < w6.heap.size := (Array.getElem?_eq_some_iff.1 hN).1
  clear qhT0_0 qhT0_1 qhT0_2
  have hS := hbn
  have hB7 := hB6.call hS rfl
  replace hT0 := blkb hT0 hS
  replace H := H.below hS
  replace hst := hst.below hS
  replace hM := blkb hM hS
  replace hN := blkb hN hS
  clear hS hB6
  have qhT0_0 : w7.cell? ⟨w.heap.size, 0, none⟩ = some (.int .i64 c) := cell_at hT0 rfl
  have qhT0_1 : w7.cell? ⟨w.heap.size, 1, none⟩ = some (.int .i64 r) := cell_at hT0 rfl
  have qhT0_2 : w7.cell? ⟨w.heap.size, 2, none⟩ = some (.slice A n cap) := cell_at hT0 rfl
  clear hbn
  obtain ⟨bX, hbX⟩ : ∃ b, b = w6.heap.size := ⟨_, rfl⟩
  rw [← hbX] at hX hY hsz hGl hMl hNl ⊢
  clear hbX
  clear qhT0_0 qhT0_1 qhT0_2
  have qhT0_0 : w7.cell? ⟨w.heap.size, 0, none⟩ = some (.int .i64 c) := cell_at hT0 rfl
  have qhT0_1 : w7.cell? ⟨w.heap.size, 1, none⟩ = some (.int .i64 r) := cell_at hT0 rfl
  have qhT0_2 : w7.cell? ⟨w.heap.size, 2, none⟩ = some (.slice A n cap) := cell_at hT0 rfl
  have qhM_0 : w7.cell? ⟨bhM, 0, none⟩ = some (.int .i64 0) := cell_at hM rfl
  have qhM_1 : w7.cell? ⟨bhM, 1, none⟩ = some (.int .i64 0) := cell_at hM rfl
  have qhM_2 : w7.cell? ⟨bhM, 2, none⟩ = some (.slice none 0 0) := cell_at hM rfl
  have qhN_0 : w7.cell? ⟨bhN, 0, none⟩ = some (.int .i64 0) := cell_at hN rfl
  have qhN_1 : w7.cell? ⟨bhN, 1, none⟩ = some (.int .i64 0) := cell_at hN rfl
  have qhN_2 : w7.cell? ⟨bhN, 2, none⟩ = some (.slice none 0 0) := cell_at hN rfl
  have qhX_0 : w7.cell? ⟨bX, 0, none⟩ = some (.int .i64 0) := cell_at hX rfl
  have qhX_1 : w7.cell? ⟨bX, 1, none⟩ = some (.int .i64 0) := cell_at hX rfl
  have qhX_2 : w7.cell? ⟨bX, 2, none⟩ = some (.slice none 0 0) := cell_at hX rfl
  have qhY_0 : w7.cell? ⟨bX + 1, 0, none⟩ = some (.int .i64 0) := cell_at hY rfl
  have qhY_1 : w7.cell? ⟨bX + 1, 1, none⟩ = some (.int .i64 0) := cell_at hY rfl
  have qhY_2 : w7.cell? ⟨bX + 1, 2, none⟩ = some (.slice none 0 0) := cell_at hY rfl
  clear hsz hGl hMl hNl
  go_wp2_with fail
  refine wp_region_plan [(0, true), (2, true), (1, false), (3, false), (4, true), (5, true), (6, true), (7, true), (8, true), (9, true), (10, true), (12, true), (11, false), (13, false), (14, true), (15, true), (16, true), (17, true), (18, true), (19, true), (20, true), (21, false), (22, true), (23, true)] w7.heap.size (by kernel_rfl) (by kernel_rfl) (Nat.le_refl _) (fun _ _ d _ _ h => by cases d <;> exact h) ?_
  have hC : Below w7.heap.size w7 w7 := Below.refl _ _
  have zhT0 : w.heap.size < w7.heap.size := (Array.getElem?_eq_some_iff.1 hT0).1
  have zhM : bhM < w7.heap.size := (Array.getElem?_eq_some_iff.1 hM).1
  have zhN : bhN < w7.heap.size := (Array.getElem?_eq_some_iff.1 hN).1
  have zhX : bX < w7.heap.size := (Array.getElem?_eq_some_iff.1 hX).1
  have zhY : bX + 1 < w7.heap.size := (Array.getElem?_eq_some_iff.1 hY).1
  repeat (first | (refine wpPlanA_skip _ rfl (by rfl) ?_; simp only [Act.put, List.setIfInBounds_toArray, List.set_cons_zero, List.set_cons_succ]) | (refine wpPlanA_soft _ ?_ rfl (by rfl) ?_ ?_; rotate_left; (intro wq hq hcq; go_simp; first | exact rfl | exact ⟨rfl, rfl⟩); simp only [Act.put, List.setIfInBounds_toArray, List.set_cons_zero, List.set_cons_succ]))
  refine wpPlanA_hard _ rfl (by rfl) (fun w8 hS K hK => ?_)
  have hB8 := hB7.call hS rfl
  replace hC := hC.call hS rfl
  replace hT0 := blkb hT0 hS
  replace H := H.below hS
  replace hst := hst.below hS
  replace hM := blkb hM hS
  replace hN := blkb hN hS
  replace hX := blkb hX hS
  replace hY := blkb hY hS
  clear hS hB7
  go_simp
  refine (c71e 0 0 none 0 0 [] _ (Nat.zero_le _) (rd_nil' _)).mono ?_
  rintro e w9 ⟨O1, oc1, rfl, hO1, hb⟩
  have hB9 := hB8.call hb rfl
  replace hC := hC.call hb rfl
  replace hT0 := blkb hT0 hb
  replace H := H.below hb
  replace hst := hst.below hb
  replace hM := blkb hM hb
  replace hN := blkb hN hb
  replace hX := blkb hX hb
  replace hY := blkb hY hb
  clear hb hB8
  refine hK _ _ hC ?_
  clear hK K
  try simp only [Act.put, List.setIfInBounds_toArray, List.set_cons_zero, List.set_cons_succ]
  repeat (first | (refine wpPlanA_skip _ rfl (by rfl) ?_; simp only [Act.put, List.setIfInBounds_toArray, List.set_cons_zero, List.set_cons_succ]) | (refine wpPlanA_soft _ ?_ rfl (by rfl) ?_ ?_; rotate_left; (intro wq hq hcq; go_simp; first | exact rfl | exact ⟨rfl, rfl⟩); simp only [Act.put, List.setIfInBounds_toArray, List.set_cons_zero, List.set_cons_succ]))
  refine wpPlanA_hard _ rfl (by rfl) (fun w10 hS K hK => ?_)
  have hB10 := hB9.call hS rfl
  replace hC := hC.call hS rfl
  replace hT0 := blkb hT0 hS
  replace H := H.below hS
  replace hst := hst.below hS
  replace hM := blkb hM hS
  replace hN := blkb hN hS
  replace hX := blkb hX hS
  replace hY := blkb hY hS
  replace hO1 := hO1.below hS
  clear hS hB9
  go_simp
  refine (c70_eq 0 0 O1 none 0 oc1 0 [] _ (Nat.zero_le _) hO1 (rd_nil' _)).mono ?_
  rintro e w11 ⟨rfl, hb⟩
  have hB11 := hB10.call hb rfl
  replace hC := hC.call hb rfl
  replace hT0 := blkb hT0 hb
  replace H := H.below hb
  replace hst := hst.below hb
  replace hM := blkb hM hb
  replace hN := blkb hN hb
  replace hX := blkb hX hb
  replace hY := blkb hY hb
  replace hO1 := hO1.below hb
  clear hb hB10
  refine hK _ _ hC ?_
  clear hK K
  try simp only [Act.put, List.setIfInBounds_toArray, List.set_cons_zero, List.set_cons_succ]
  repeat (first | (refine wpPlanA_skip _ rfl (by rfl) ?_; simp only [Act.put, List.setIfInBounds_toArray, List.set_cons_zero, List.set_cons_succ]) | (refine wpPlanA_soft _ ?_ rfl (by rfl) ?_ ?_; rotate_left; (intro wq hq hcq; go_simp; first | exact rfl | exact ⟨rfl, rfl⟩); simp only [Act.put, List.setIfInBounds_toArray, List.set_cons_zero, List.set_cons_succ]))
  refine wpPlanA_hard _ rfl (by rfl) (fun w12 hS K hK => ?_)
  have hB12 := hB11.call hS rfl
  replace hC := hC.call hS rfl
  replace hT0 := blkb hT0 hS
  replace H := H.below hS
  replace hst := hst.below hS
  replace hM := blkb hM hS
  replace hN := blkb hN hS
  replace hX := blkb hX hS
  replace hY := blkb hY hS
  replace hO1 := hO1.below hS
  clear hS hB11
  go_simp
  refine (c71e 0 0 none 0 0 [] _ (Nat.zero_le _) (rd_nil' _)).mono ?_
  rintro e w13 ⟨O2, oc2, rfl, hO2, hb⟩
  have hB13 := hB12.call hb rfl
  replace hC := hC.call hb rfl
  replace hT0 := blkb hT0 hb
  replace H := H.below hb
  replace hst := hst.below hb
  replace hM := blkb hM hb
  replace hN := blkb hN hb
  replace hX := blkb hX hb
  replace hY := blkb hY hb
  replace hO1 := hO1.below hb
  clear hb hB12
  refine hK _ _ hC ?_
  clear hK K
  try simp only [Act.put, List.setIfInBounds_toArray, List.set_cons_zero, List.set_cons_succ]
  repeat (first | (refine wpPlanA_skip _ rfl (by rfl) ?_; simp only [Act.put, List.setIfInBounds_toArray, List.set_cons_zero, List.set_cons_succ]) | (refine wpPlanA_soft _ ?_ rfl (by rfl) ?_ ?_; rotate_left; (intro wq hq hcq; go_simp; first | exact rfl | exact ⟨rfl, rfl⟩); simp only [Act.put, List.setIfInBounds_toArray, List.set_cons_zero, List.set_cons_succ]))
  refine wpPlanA_hard _ rfl (by rfl) (fun w14 hS K hK => ?_)
  have hB14 := hB13.call hS rfl
  replace hC := hC.call hS rfl
  replace hT0 := blkb hT0 hS
  replace H := H.below hS
  replace hst := hst.below hS
  replace hM := blkb hM hS
  replace hN := blkb hN hS
  replace hX := blkb hX hS
  replace hY := blkb hY hS
  replace hO1 := hO1.below hS
  replace hO2 := hO2.below hS
  clear hS hB13
  go_simp
  refine (c70_eq 0 0 O2 none 0 oc2 0 [] _ (Nat.zero_le _) hO2 (rd_nil' _)).mono ?_
  rintro e w15 ⟨rfl, hb⟩
  have hB15 := hB14.call hb rfl
  replace hC := hC.call hb rfl
  replace hT0 := blkb hT0 hb
  replace H := H.below hb
  replace hst := hst.below hb
  replace hM := blkb hM hb
  replace hN := blkb hN hb
  replace hX := blkb hX hb
  replace hY := blkb hY hb
  replace hO1 := hO1.below hb
  replace hO2 := hO2.below hb
  clear hb hB14
  refine hK _ _ hC ?_
  clear hK K
  try simp only [Act.put, List.setIfInBounds_toArray, List.set_cons_zero, List.set_cons_succ]
  repeat (first | (refine wpPlanA_skip _ rfl (by rfl) ?_; simp only [Act.put, List.setIfInBounds_toArray, List.set_cons_zero, List.set_cons_succ]) | (refine wpPlanA_soft _ ?_ rfl (by rfl) ?_ ?_; rotate_left; (intro wq hq hcq; go_simp; first | exact rfl | exact ⟨rfl, rfl⟩); simp only [Act.put, List.setIfInBounds_toArray, List.set_cons_zero, List.set_cons_succ]))
  refine wpPlanA_hard _ rfl (by rfl) (fun w16 hS K hK => ?_)
  have hB16 := hB15.call hS rfl
  replace hC := hC.call hS rfl
  replace hT0 := blkb hT0 hS
  replace H := H.below hS
  replace hst := hst.below hS
  replace hM := blkb hM hS
  replace hN := blkb hN hS
  replace hX := blkb hX hS
  replace hY := blkb hY hS
  replace hO1 := hO1.below hS
  replace hO2 := hO2.below hS
  clear hS hB15
  go_simp
  refine (c18 _ hst).mono ?_
  rintro e w17 ⟨rfl, hb⟩
  have hB17 := hB16.call hb rfl
  replace hC := hC.call hb rfl
  replace hT0 := blkb hT0 hb
  replace H := H.below hb
  replace hst := hst.below hb
  replace hM := blkb hM hb
  replace hN := blkb hN hb
  replace hX := blkb hX hb
  replace hY := blkb hY hb
  replace hO1 := hO1.below hb
  replace hO2 := hO2.below hb
  clear hb hB16
  refine hK _ _ hC ?_
  clear hK K
  try simp only [Act.put, List.setIfInBounds_toArray, List.set_cons_zero, List.set_cons_succ]
  repeat (first | (refine wpPlanA_skip _ rfl (by rfl) ?_; simp only [Act.put, List.setIfInBounds_toArray, List.set_cons_zero, List.set_cons_succ]) | (refine wpPlanA_soft _ ?_ rfl (by rfl) ?_ ?_; rotate_left; (intro wq hq hcq; go_simp; first | exact rfl | exact ⟨rfl, rfl⟩); simp only [Act.put, List.setIfInBounds_toArray, List.set_cons_zero, List.set_cons_succ]))
  clear qhT0_0 qhT0_1 qhT0_2 qhM_0 qhM_1 qhM_2 qhN_0 qhN_1 qhN_2 qhX_0 qhX_1 qhX_2 qhY_0 qhY_1 qhY_2
  refine wpPlanA_nil (fun w18 hS => ?_)
  clear hC zhT0 zhM zhN zhX zhY
  have hB18 := hB17.call hS rfl
  replace hT0 := blkb hT0 hS
  replace H := H.below hS
  replace hst := hst.below hS
  replace hM := blkb hM hS
  replace hN := blkb hN hS
  replace hX := blkb hX hS
  replace hY := blkb hY hS
  replace hO1 := hO1.below hS
  replace hO2 := hO2.below hS
  clear hS hB17
  have qhT0_0 : w18.cell? ⟨w.heap.size, 0, none⟩ = some (.int .i64 c) := cell_at hT0 rfl
  have qhT0_1 : w18.cell? ⟨w.heap.size, 1, none⟩ = some (.int .i64 r) := cell_at hT0 rfl
  have qhT0_2 : w18.cell? ⟨w.heap.size, 2, none⟩ = some (.slice A n cap) := cell_at hT0 rfl
  have qhM_0 : w18.cell? ⟨bhM, 0, none⟩ = some (.int .i64 0) := cell_at hM rfl
  have qhM_1 : w18.cell? ⟨bhM, 1, none⟩ = some (.int .i64 0) := cell_at hM rfl
  have qhM_2 : w18.cell? ⟨bhM, 2, none⟩ = some (.slice none 0 0) := cell_at hM rfl
  have qhN_0 : w18.cell? ⟨bhN, 0, none⟩ = some (.int .i64 0) := cell_at hN rfl
  have qhN_1 : w18.cell? ⟨bhN, 1, none⟩ = some (.int .i64 0) := cell_at hN rfl
  have qhN_2 : w18.cell? ⟨bhN, 2, none⟩ = some (.slice none 0 0) := cell_at hN rfl
  have qhX_0 : w18.cell? ⟨bX, 0, none⟩ = some (.int .i64 0) := cell_at hX rfl
  have qhX_1 : w18.cell? ⟨bX, 1, none⟩ = some (.int .i64 0) := cell_at hX rfl
  have qhX_2 : w18.cell? ⟨bX, 2, none⟩ = some (.slice none 0 0) := cell_at hX rfl
  have qhY_0 : w18.cell? ⟨bX + 1, 0, none⟩ = some (.int .i64 0) := cell_at hY rfl
  have qhY_1 : w18.cell? ⟨bX + 1, 1, none⟩ = some (.int .i64 0) := cell_at hY rfl
  have qhY_2 : w18.cell? ⟨bX + 1, 2, none⟩ = some (.slice none 0 0) := cell_at hY rfl
  go_wp2
  go_ret
  exact ⟨rfl, hB18⟩

theorem l11 (c r : Int) (A : Option Addr) (n cap : Nat) (l : List Int) (rows : Bool) (w : World) (H : RdI w A n l) (hst : Steps w) :
   Calls Tryz.prog 11 #[.agg #[.int .i64 c, .int .i64 r, .slice A n cap], .bool rows] w fun en w' => en = .returned (.bool true) ∧ Below w.heap.size w w' := by
  by_cases hE : Mo.ground c r l = 0
  · obtain ⟨c, r, rfl, rfl, hc, hr, g⟩ := Mo.ground_ok hE
    exact l11_ok c r A n cap l rows w g hc hr H hst
  · exact l11_bad c r A n cap l rows w hE H hst

end Go.Proofs.YtdimmlljjmmdbaaGreatDoor
