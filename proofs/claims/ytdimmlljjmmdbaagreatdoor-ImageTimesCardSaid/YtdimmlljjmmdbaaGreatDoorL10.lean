/- A part of the proofs about chapter 7 (image): contracts of functions and plain laws (V61). -/
import Derived.Test.YtdimmlljjmmdbaaGreatDoorA10
import Derived.Test.YtdimmlljjmmdbaaGreatDoorA11
import Derived.Test.YtdimmlljjmmdbaaGreatDoorA12
set_option linter.all false
namespace Go.Proofs.YtdimmlljjmmdbaaGreatDoor
open Go.RowKit Go.Shelf
set_option maxHeartbeats 8000000
set_option maxRecDepth 100000
theorem rd_nil (w : World) : RdI w none 0 [] := ⟨rfl, fun h => absurd h (Nat.lt_irrefl 0)⟩
theorem c30_eq {A B : Option Addr} {n cap cap2 : Nat} {l : List Int} {w : World} (hn : n ≤ 1000000) (H : RdI w A n l) (G : RdI w B n l) :
    Calls Tryz.prog 30 #[.slice A n cap, .slice B n cap2] w fun en w' => en = .returned (.bool true) ∧ Below w.heap.size w w' := by
  refine (c30 A B n n cap cap2 l l w hn hn H G).mono fun e w' ⟨h1, h2⟩ => ⟨?_, h2⟩
  rw [h1]
  simp
theorem RdI.of_cells {w : World} {g : Nat} {l : List Int} {n : Nat} (hn : l.length = n) (h : w.heap[g]? = some (.cells (encI l).toArray 3 (0, 0))) : RdI w (some ⟨g, 0, none⟩) n l := RdS.of_block (cs := encI l) h (by simp [encI, hn])

theorem l10_a (c r : Nat) (A : Option Addr) (n cap : Nat) (l : List Int) (a : Nat) (b : Nat) (w : World) (g : Im.Gr c r l) (hc : c ≤ 16) (hr : r ≤ 16) (hla : a < n) (hlb : b < n) (H : RdI w A n l) (hst : Steps w) :
   Calls Tryz.prog 10 #[.agg #[.int .i64 c, .int .i64 r, .slice A n cap], .int .i64 a, .int .i64 b] w fun en w' => en = .returned (.bool true) ∧ Below w.heap.size w w' := by
  have HE1 : Hid (∀ hl : n ≤ 1000000, Mo.cells c r l n [(a : Int), (b : Int)] = 0) := Lib.hid (fun _ => by rw [Mo.cells2]; exact first3 (Mo.ground_of g hc hr) (Mo.cell_ok.2 (by omega)) (Mo.cell_ok.2 (by omega)))
  obtain ⟨E1, he1⟩ : ∃ E, E = Mo.cells c r l n [(a : Int), (b : Int)] := ⟨_, rfl⟩
  have hz1 : E1 = 0 := by rw [he1, Mo.cells2]; exact first3 (Mo.ground_of g hc hr) (Mo.cell_ok.2 (by omega)) (Mo.cell_ok.2 (by omega))
  clear HE1
  obtain ⟨V, hV⟩ : ∃ V, V = Im.cost c l a b := ⟨_, rfl⟩
  obtain ⟨X, hX⟩ : ∃ X, X = Mo.when (!decide (0 < V)) 21 := ⟨_, rfl⟩
  have K57 : Hid (∀ (B : Option Addr) (cb : Nat) (W : World), RdI W B n l → Steps W → Calls Tryz.prog 57 #[.agg #[.int .i64 c, .int .i64 r, .slice B n cb], .int .i64 a, .int .i64 b] W fun en w' => en = .returned (.tuple #[.int .i64 V, .int .i64 X]) ∧ Below W.heap.size W w') := Lib.hid (fun B cb W h1 h2 => by rw [hX, hV]; exact c57_ok c r B n cb l a b W g hc hr h1 h2 hla hlb)
  have K61 : Hid (∀ (B : Option Addr) (cb : Nat) (W : World), n ≤ 1000000 → RdI W B n l → Calls Tryz.prog 61 #[.agg #[.int .i64 c, .int .i64 r, .slice B n cb], .int .i64 a, .int .i64 b] W fun en w' => en = .returned (.int .i64 V) ∧ Below W.heap.size W w') := Lib.hid (fun B cb W h1 h2 => by rw [hV]; exact c61 c r B n cb l a b W g h1 hc hla hlb h2)
  have HX : Hid (0 ≤ V ∧ X = Mo.when (!decide (0 < V)) 21) := Lib.hid ⟨by rw [hV]; exact Im.cost_nonneg g (by rw [H.len]; exact hla) (by rw [H.len]; exact hlb), hX⟩
  have K60 : Hid (∀ (S : Option Addr) (W : World), n ≤ 1000000 → RdI W A n l → RdI W S 2 [(a : Int), (b : Int)] → Calls Tryz.prog 60 #[.agg #[.int .i64 c, .int .i64 r, .slice A n cap], .slice S 2 2] W fun en w' => en = .returned (.int .i64 0) ∧ Below W.heap.size W w') := Lib.hid (fun S W h1 h2 h3 => by rw [← hz1, he1]; exact c60 c r A n cap l S 2 2 _ W h1 (by omega) h2 h3)
  clear hV hX he1 hz1
  have K60b : Hid (∀ (S : Option Addr) (W : World), n ≤ 1000000 → RdI W A n l → RdI W S 1 [(a : Int)] → Calls Tryz.prog 60 #[.agg #[.int .i64 c, .int .i64 r, .slice A n cap], .slice S 1 1] W fun en w' => en = .returned (.int .i64 0) ∧ Below W.heap.size W w') := Lib.hid (fun S W h1 h2 h3 => by
    have e : Mo.cells c r l n [(a : Int)] = 0 := by rw [Mo.cells1]; exact first2 (Mo.ground_of g hc hr) (Mo.cell_ok.2 (by omega))
    rw [← e]; exact c60 c r A n cap l S 1 1 _ W h1 (by omega) h2 h3)
  obtain ⟨GE, hGE⟩ : ∃ E, E = Mo.ground c r l := ⟨_, rfl⟩
  have HGE := Lib.hid hGE
  clear hGE
  obtain ⟨w0, hW⟩ : ∃ W, W = w.alloc (Obj.cells #[.int .i64 c, .int .i64 r, .slice A n cap] 24) := ⟨_, rfl⟩
  have hT0 : w0.heap[w.heap.size]? = some (.cells #[.int .i64 c, .int .i64 r, .slice A n cap] 24 (0, 0)) := by rw [hW]; exact heap_new (by simp)
  have hB0 : Below w.heap.size w w0 := by rw [hW]; exact ((Below.refl _ _).alloc (by first | omega | (simp <;> omega)) _)
  replace H := H.below hB0
  replace hst := hst.below hB0
  go_enter Tryz.func10, Tryz.ntmps10
  go_wp2_with fail
  rw [← hW]
  clear hW
  have qhT0_0 : w0.cell? ⟨w.heap.size, 0, none⟩ = some (.int .i64 c) := cell_at hT0 rfl
  have qhT0_1 : w0.cell? ⟨w.heap.size, 1, none⟩ = some (.int .i64 r) := cell_at hT0 rfl
  have qhT0_2 : w0.cell? ⟨w.heap.size, 2, none⟩ = some (.slice A n cap) := cell_at hT0 rfl
  go_wp2_with fail
  refine (c16 c r A n cap _).mono ?_
  rintro e w1 ⟨⟨b1, rfl, hP⟩, hb⟩
  clear qhT0_0 qhT0_1 qhT0_2
  have hS := hb
  have hB1 := hB0.call hS rfl
  replace hT0 := blkb hT0 hS
  replace H := H.below hS
  replace hst := hst.below hS
  clear hS hB0
  have qhT0_0 : w1.cell? ⟨w.heap.size, 0, none⟩ = some (.int .i64 c) := cell_at hT0 rfl
  have qhT0_1 : w1.cell? ⟨w.heap.size, 1, none⟩ = some (.int .i64 r) := cell_at hT0 rfl
  have qhT0_2 : w1.cell? ⟨w.heap.size, 2, none⟩ = some (.slice A n cap) := cell_at hT0 rfl
  clear hb
  have HP := Lib.hid hP
  clear hP
  cases b1
  ·
      go_wp2_with fail
      refine (c18 _ hst).mono ?_
      rintro e wz ⟨rfl, hz⟩
      go_wp2
      go_ret
      exact ⟨rfl, hB1.call hz rfl⟩
  have hn30 : n ≤ 30 := by first | exact HP.out rfl | exact HP.out trivial
  have hn : n ≤ 1000000 := by omega
  clear HP
  go_wp2_with fail
  refine (c20 c r A n cap l _ hn H).mono ?_
  rintro e w2 ⟨B1, cb1, rfl, hr1, hcb1, hcm1, hb⟩
  clear qhT0_0 qhT0_1 qhT0_2
  have hS := hb
  have hB2 := hB1.call hS rfl
  replace hT0 := blkb hT0 hS
  replace H := H.below hS
  replace hst := hst.below hS
  clear hS hB1
  have qhT0_0 : w2.cell? ⟨w.heap.size, 0, none⟩ = some (.int .i64 c) := cell_at hT0 rfl
  have qhT0_1 : w2.cell? ⟨w.heap.size, 1, none⟩ = some (.int .i64 r) := cell_at hT0 rfl
  have qhT0_2 : w2.cell? ⟨w.heap.size, 2, none⟩ = some (.slice A n cap) := cell_at hT0 rfl
  clear hb
  clear hcb1 hcm1
  go_wp2_with fail
  refine (K57.out B1 cb1 _ hr1 hst).mono ?_
  rintro e w3 ⟨rfl, hb⟩
  clear qhT0_0 qhT0_1 qhT0_2
  have hS := hb
  have hB3 := hB2.call hS rfl
  replace hT0 := blkb hT0 hS
  replace H := H.below hS
  replace hst := hst.below hS
  replace hr1 := hr1.below hS
  clear hS hB2
  have qhT0_0 : w3.cell? ⟨w.heap.size, 0, none⟩ = some (.int .i64 c) := cell_at hT0 rfl
  have qhT0_1 : w3.cell? ⟨w.heap.size, 1, none⟩ = some (.int .i64 r) := cell_at hT0 rfl
  have qhT0_2 : w3.cell? ⟨w.heap.size, 2, none⟩ = some (.slice A n cap) := cell_at hT0 rfl
  clear hb
  clear hr1
  go_wp2_with fail
  refine (c20 c r A n cap l _ hn H).mono ?_
  rintro e w4 ⟨B2, cb2, rfl, hr2, hcb2, hcm2, hb⟩
  clear qhT0_0 qhT0_1 qhT0_2
  have hS := hb
  have hB4 := hB3.call hS rfl
  replace hT0 := blkb hT0 hS
  replace H := H.below hS
  replace hst := hst.below hS
  clear hS hB3
  have qhT0_0 : w4.cell? ⟨w.heap.size, 0, none⟩ = some (.int .i64 c) := cell_at hT0 rfl
  have qhT0_1 : w4.cell? ⟨w.heap.size, 1, none⟩ = some (.int .i64 r) := cell_at hT0 rfl
  have qhT0_2 : w4.cell? ⟨w.heap.size, 2, none⟩ = some (.slice A n cap) := cell_at hT0 rfl
  clear hb
  clear hcb2 hcm2
  go_wp2_with fail
  refine (c58_ok c r B2 n cb2 l a _ g hc hr hr2 hst hla).mono ?_
  rintro e w5 ⟨og1, t1, rfl, hge1, ho1, hT1, hb⟩
  clear qhT0_0 qhT0_1 qhT0_2
  have hS := hb
  have hB5 := hB4.call hS rfl
  replace hT0 := blkb hT0 hS
  replace H := H.below hS
  replace hst := hst.below hS
  replace hr2 := hr2.below hS
  clear hS hB4
  have qhT0_0 : w5.cell? ⟨w.heap.size, 0, none⟩ = some (.int .i64 c) := cell_at hT0 rfl
  have qhT0_1 : w5.cell? ⟨w.heap.size, 1, none⟩ = some (.int .i64 r) := cell_at hT0 rfl
  have qhT0_2 : w5.cell? ⟨w.heap.size, 2, none⟩ = some (.slice A n cap) := cell_at hT0 rfl
  clear hb
  clear hge1
  have HT1 := Lib.hid hT1
  clear hT1
  clear hr2
  go_wp2_with fail
  refine (c20 c r A n cap l _ hn H).mono ?_
  rintro e w6 ⟨B3, cb3, rfl, hr3, hcb3, hcm3, hb⟩
  clear qhT0_0 qhT0_1 qhT0_2
  have hS := hb
  have hB6 := hB5.call hS rfl
  replace hT0 := blkb hT0 hS
  replace H := H.below hS
  replace hst := hst.below hS
  replace ho1 := blkb ho1 hS
  clear hS hB5
  have qhT0_0 : w6.cell? ⟨w.heap.size, 0, none⟩ = some (.int .i64 c) := cell_at hT0 rfl
  have qhT0_1 : w6.cell? ⟨w.heap.size, 1, none⟩ = some (.int .i64 r) := cell_at hT0 rfl
  have qhT0_2 : w6.cell? ⟨w.heap.size, 2, none⟩ = some (.slice A n cap) := cell_at hT0 rfl
  clear hb
  clear hcb3 hcm3
  go_wp2_with fail
  refine (c59_ok c r B3 n cb3 l a b _ g hc hr hr3 hst hla hlb).mono ?_
  rintro e w7 ⟨g1, cw1, left1, rfl, hT2, hrw1, hb⟩
  clear qhT0_0 qhT0_1 qhT0_2
  have hS := hb
  have hB7 := hB6.call hS rfl
  replace hT0 := blkb hT0 hS
  replace H := H.below hS
  replace hst := hst.below hS
  replace ho1 := blkb ho1 hS
  replace hr3 := hr3.below hS
  clear hS hB6
  have qhT0_0 : w7.cell? ⟨w.heap.size, 0, none⟩ = some (.int .i64 c) := cell_at hT0 rfl
  have qhT0_1 : w7.cell? ⟨w.heap.size, 1, none⟩ = some (.int .i64 r) := cell_at hT0 rfl
  have qhT0_2 : w7.cell? ⟨w.heap.size, 2, none⟩ = some (.slice A n cap) := cell_at hT0 rfl
  clear hb
  have HT2 := Lib.hid hT2
  clear hT2
  clear hr3
  go_wp2_with fail
  refine wp_region_planJ (Φ := fun v w => ∃ b, v = .slice (some ⟨b, 0, none⟩) 1 1 ∧ w.heap[b]? = some (Obj.cells #[.int .i64 a] 3)) (J := fun ac => ac.tmps[55]?.getD undef = .int .i64 a) [(0, 1), (1, 1), (2, 1), (5, 1), (6, 1), (3, 0), (4, 0), (7, 2), (8, 0), (9, 1), (10, 1)] 7 w7.heap.size _ rfl (by kernel_rfl) (by kernel_rfl) (Nat.le_refl _) (fun _ _ d _ _ h => by cases d <;> exact h) (fun _ _ d _ _ h => by cases d <;> exact h) (fun v w w' hv hb => by obtain ⟨b, e, h⟩ := hv; exact ⟨b, e, blkb h hb⟩) ?hF ?_
  case hF =>
    intro ac wq hJ hq
    refine ⟨rfl, ?_⟩
    have hJ' := hJ
    go_simp
    try rw [hJ']
    exact ⟨_, rfl, ⟨_, rfl, heap_new rfl⟩, (Below.refl _ _).alloc (Nat.le_refl _) _⟩
  have hC : Below w7.heap.size w7 w7 := Below.refl _ _
  have zhT0 : w.heap.size < w7.heap.size := (Array.getElem?_eq_some_iff.1 hT0).1
  repeat (first | (refine wpPlanJA_skip _ rfl (by rfl) ?_; simp only [Act.put, List.setIfInBounds_toArray, List.set_cons_zero, List.set_cons_succ]) | (refine wpPlanJA_soft _ ?_ rfl (by rfl) ?_ ?_; rotate_left; (intro wq hq hcq; go_simp; first | exact rfl | exact ⟨rfl, rfl⟩); simp only [Act.put, List.setIfInBounds_toArray, List.set_cons_zero, List.set_cons_succ]))
  refine wpPlanJA_hard _ rfl rfl (by rfl) (fun w8 hS K hK => ?_)
  have hB8 := hB7.call hS rfl
  replace hC := hC.call hS rfl
  replace hT0 := blkb hT0 hS
  replace H := H.below hS
  replace hst := hst.below hS
  replace ho1 := blkb ho1 hS
  replace hrw1 := hrw1.below hS
  clear hS hB7
  go_simp
  have hb : Below w8.heap.size w8 (w8.alloc (Obj.cells #[.int .i64 a, .int .i64 b] 3)) := (Below.refl _ _).alloc (Nat.le_refl _) _
  have k1 : (w8.alloc (Obj.cells #[.int .i64 a, .int .i64 b] 3)).heap[w8.heap.size]? = some (Obj.cells #[.int .i64 a, .int .i64 b] 3) := heap_new rfl
  refine hK _ _ (hC.alloc hC.size _) hb ?_
  clear hK K
  replace hC := hC.call hb rfl
  have hB9 := hB8.call hb rfl
  replace hT0 := blkb hT0 hb
  replace H := H.below hb
  replace hst := hst.below hb
  replace ho1 := blkb ho1 hb
  replace hrw1 := hrw1.below hb
  clear hb hB8
  generalize hWn : w8.alloc (Obj.cells #[.int .i64 a, .int .i64 b] 3) = w9 at k1 hC hB9 hT0 H hst ho1 hrw1 ⊢
  clear hWn
  generalize hWn : w8.heap.size = bk1 at k1 ⊢
  clear hWn
  try simp only [Act.put, List.setIfInBounds_toArray, List.set_cons_zero, List.set_cons_succ]
  repeat (first | (refine wpPlanJA_skip _ rfl (by rfl) ?_; simp only [Act.put, List.setIfInBounds_toArray, List.set_cons_zero, List.set_cons_succ]) | (refine wpPlanJA_soft _ ?_ rfl (by rfl) ?_ ?_; rotate_left; (intro wq hq hcq; go_simp; first | exact rfl | exact ⟨rfl, rfl⟩); simp only [Act.put, List.setIfInBounds_toArray, List.set_cons_zero, List.set_cons_succ]))
  refine wpPlanJA_hard _ rfl rfl (by rfl) (fun w10 hS K hK => ?_)
  have hB10 := hB9.call hS rfl
  replace hC := hC.call hS rfl
  replace hT0 := blkb hT0 hS
  replace H := H.below hS
  replace hst := hst.below hS
  replace ho1 := blkb ho1 hS
  replace hrw1 := hrw1.below hS
  replace k1 := blkb k1 hS
  clear hS hB9
  go_simp
  refine (K60.out _ _ hn H (RdS.of_block (cs := encI [(a : Int), (b : Int)]) k1 rfl)).mono ?_
  rintro e w11 ⟨rfl, hb⟩
  have hB11 := hB10.call hb rfl
  replace hC := hC.call hb rfl
  replace hT0 := blkb hT0 hb
  replace H := H.below hb
  replace hst := hst.below hb
  replace ho1 := blkb ho1 hb
  replace hrw1 := hrw1.below hb
  replace k1 := blkb k1 hb
  refine hK _ _ hC hb ?_
  clear hK K hb hB10
  try simp only [Act.put, List.setIfInBounds_toArray, List.set_cons_zero, List.set_cons_succ]
  repeat (first | (refine wpPlanJA_skip _ rfl (by rfl) ?_; simp only [Act.put, List.setIfInBounds_toArray, List.set_cons_zero, List.set_cons_succ]) | (refine wpPlanJA_soft _ ?_ rfl (by rfl) ?_ ?_; rotate_left; (intro wq hq hcq; go_simp; first | exact rfl | exact ⟨rfl, rfl⟩); simp only [Act.put, List.setIfInBounds_toArray, List.set_cons_zero, List.set_cons_succ]))
  refine wpPlanJA_float _ rfl rfl (fun v w12 hS hv => ?_)
  obtain ⟨bk2, rfl, k2⟩ := hv
  have hB12 := hB11.call hS rfl
  replace hC := hC.call hS rfl
  replace hT0 := blkb hT0 hS
  replace H := H.below hS
  replace hst := hst.below hS
  replace ho1 := blkb ho1 hS
  replace hrw1 := hrw1.below hS
  replace k1 := blkb k1 hS
  clear hS hB11
  try simp only [Act.put, List.setIfInBounds_toArray, List.set_cons_zero, List.set_cons_succ]
  repeat (first | (refine wpPlanJA_skip _ rfl (by rfl) ?_; simp only [Act.put, List.setIfInBounds_toArray, List.set_cons_zero, List.set_cons_succ]) | (refine wpPlanJA_soft _ ?_ rfl (by rfl) ?_ ?_; rotate_left; (intro wq hq hcq; go_simp; first | exact rfl | exact ⟨rfl, rfl⟩); simp only [Act.put, List.setIfInBounds_toArray, List.set_cons_zero, List.set_cons_succ]))
  refine wpPlanJA_hard _ rfl rfl (by rfl) (fun w13 hS K hK => ?_)
  have hB13 := hB12.call hS rfl
  replace hC := hC.call hS rfl
  replace hT0 := blkb hT0 hS
  replace H := H.below hS
  replace hst := hst.below hS
  replace ho1 := blkb ho1 hS
  replace hrw1 := hrw1.below hS
  replace k1 := blkb k1 hS
  replace k2 := blkb k2 hS
  clear hS hB12
  go_simp
  refine (K60b.out _ _ hn H (RdS.of_block (cs := encI [(a : Int)]) k2 rfl)).mono ?_
  rintro e w14 ⟨rfl, hb⟩
  have hB14 := hB13.call hb rfl
  replace hC := hC.call hb rfl
  replace hT0 := blkb hT0 hb
  replace H := H.below hb
  replace hst := hst.below hb
  replace ho1 := blkb ho1 hb
  replace hrw1 := hrw1.below hb
  replace k1 := blkb k1 hb
  replace k2 := blkb k2 hb
  refine hK _ _ hC hb ?_
  clear hK K hb hB13
  try simp only [Act.put, List.setIfInBounds_toArray, List.set_cons_zero, List.set_cons_succ]
  repeat (first | (refine wpPlanJA_skip _ rfl (by rfl) ?_; simp only [Act.put, List.setIfInBounds_toArray, List.set_cons_zero, List.set_cons_succ]) | (refine wpPlanJA_soft _ ?_ rfl (by rfl) ?_ ?_; rotate_left; (intro wq hq hcq; go_simp; first | exact rfl | exact ⟨rfl, rfl⟩); simp only [Act.put, List.setIfInBounds_toArray, List.set_cons_zero, List.set_cons_succ]))
  clear k1
  clear k2
  clear qhT0_0 qhT0_1 qhT0_2
  refine wpPlanJA_nil (fun w15 hS => ?_)
  clear hC zhT0
  have hB15 := hB14.call hS rfl
  replace hT0 := blkb hT0 hS
  replace H := H.below hS
  replace hst := hst.below hS
  replace ho1 := blkb ho1 hS
  replace hrw1 := hrw1.below hS
  clear hS hB14
  have qhT0_0 : w15.cell? ⟨w.heap.size, 0, none⟩ = some (.int .i64 c) := cell_at hT0 rfl
  have qhT0_1 : w15.cell? ⟨w.heap.size, 1, none⟩ = some (.int .i64 r) := cell_at hT0 rfl
  have qhT0_2 : w15.cell? ⟨w.heap.size, 2, none⟩ = some (.slice A n cap) := cell_at hT0 rfl
  go_wp2_with fail
  refine (K61.out A cap _ hn H).mono ?_
  rintro e w16 ⟨rfl, hb⟩
  clear qhT0_0 qhT0_1 qhT0_2
  have hS := hb
  have hB16 := hB15.call hS rfl
  replace hT0 := blkb hT0 hS
  replace H := H.below hS
  replace hst := hst.below hS
  replace ho1 := blkb ho1 hS
  replace hrw1 := hrw1.below hS
  clear hS hB15
  have qhT0_0 : w16.cell? ⟨w.heap.size, 0, none⟩ = some (.int .i64 c) := cell_at hT0 rfl
  have qhT0_1 : w16.cell? ⟨w.heap.size, 1, none⟩ = some (.int .i64 r) := cell_at hT0 rfl
  have qhT0_2 : w16.cell? ⟨w.heap.size, 2, none⟩ = some (.slice A n cap) := cell_at hT0 rfl
  clear hb
  go_wp2_with fail
  refine (c62 c r A n cap l a b _ g hc hr hla hlb H).mono ?_
  rintro e w17 ⟨A4, cap4, left2, rfl, hT3, hrw2, hb⟩
  clear qhT0_0 qhT0_1 qhT0_2
  have hS := hb
  have hB17 := hB16.call hS rfl
  replace hT0 := blkb hT0 hS
  replace H := H.below hS
  replace hst := hst.below hS
  replace ho1 := blkb ho1 hS
  replace hrw1 := hrw1.below hS
  clear hS hB16
  have qhT0_0 : w17.cell? ⟨w.heap.size, 0, none⟩ = some (.int .i64 c) := cell_at hT0 rfl
  have qhT0_1 : w17.cell? ⟨w.heap.size, 1, none⟩ = some (.int .i64 r) := cell_at hT0 rfl
  have qhT0_2 : w17.cell? ⟨w.heap.size, 2, none⟩ = some (.slice A n cap) := cell_at hT0 rfl
  clear hb
  obtain rfl : left1 = left2 := HT2.out.unique hT3
  clear hT3
  have hwl : (Im.way c l left1 b a).length ≤ 1000000 := Nat.le_trans (Im.way_len HT2.out (a := a) (by rw [H.len]; exact hla)) (by rw [H.len]; exact hn)
  generalize (Im.way c l left1 b a).length = wl at hwl hrw1 hrw2 ⊢
  generalize (Im.way c l left1 b a).map (fun x : Nat => (x : Int)) = wy at hrw1 hrw2
  generalize Im.at0 left1 a = tl
  by_cases hV0 : V = 0
  ·
      have hX0 : X = 21 := by rw [HX.out.2, hV0]; rfl
      subst hV0
      subst hX0
      go_wp2_with fail
      refine (c63 c r A n cap l a _ g hc hr hla H).mono ?_
      rintro e w18 ⟨og3, cp3, t3, rfl, hrow3, hT4, hb⟩
      clear qhT0_0 qhT0_1 qhT0_2
      have hS := hb
      have hB18 := hB17.call hS rfl
      replace hT0 := blkb hT0 hS
      replace H := H.below hS
      replace hst := hst.below hS
      replace ho1 := blkb ho1 hS
      replace hrw1 := hrw1.below hS
      replace hrw2 := hrw2.below hS
      clear hS hB17
      have qhT0_0 : w18.cell? ⟨w.heap.size, 0, none⟩ = some (.int .i64 c) := cell_at hT0 rfl
      have qhT0_1 : w18.cell? ⟨w.heap.size, 1, none⟩ = some (.int .i64 r) := cell_at hT0 rfl
      have qhT0_2 : w18.cell? ⟨w.heap.size, 2, none⟩ = some (.slice A n cap) := cell_at hT0 rfl
      clear hb
      obtain rfl : t1 = t3 := HT1.out.unique hT4
      clear hT4
      have hrd1 := RdI.of_cells (HT1.out.len.trans H.len) ho1
      have hrd3 := hrow3.rd
      clear ho1
      clear hrow3
      go_wp2_with fail
      refine wp_region_plan [(0, true), (3, true), (1, false), (2, false), (4, false), (5, true), (6, true), (7, true), (8, true), (9, true), (10, true), (11, true), (12, true), (13, true), (14, true), (15, true), (16, true), (17, true), (18, true), (19, false), (20, true), (21, true), (22, true), (23, true), (24, true), (25, true), (26, true), (27, true), (28, true), (29, false), (30, true), (31, true), (32, true), (33, true), (34, true), (35, true), (36, true), (37, true), (38, true), (39, true), (40, true), (41, true), (42, false), (43, true), (44, true)] w18.heap.size (by kernel_rfl) (by kernel_rfl) (Nat.le_refl _) (fun _ _ d _ _ h => by cases d <;> exact h) ?_
      have hC : Below w18.heap.size w18 w18 := Below.refl _ _
      have zhT0 : w.heap.size < w18.heap.size := (Array.getElem?_eq_some_iff.1 hT0).1
      repeat (first | (refine wpPlanA_skip _ rfl (by rfl) ?_; simp only [Act.put, List.setIfInBounds_toArray, List.set_cons_zero, List.set_cons_succ]) | (refine wpPlanA_soft _ ?_ rfl (by rfl) ?_ ?_; rotate_left; (intro wq hq hcq; go_simp; first | exact rfl | exact ⟨rfl, rfl⟩); simp only [Act.put, List.setIfInBounds_toArray, List.set_cons_zero, List.set_cons_succ]))
      refine wpPlanA_hard _ rfl (by rfl) (fun w19 hS K hK => ?_)
      have hB19 := hB18.call hS rfl
      replace hC := hC.call hS rfl
      replace hT0 := blkb hT0 hS
      replace H := H.below hS
      replace hst := hst.below hS
      replace hrw1 := hrw1.below hS
      replace hrw2 := hrw2.below hS
      replace hrd1 := hrd1.below hS
      replace hrd3 := hrd3.below hS
      clear hS hB18
      go_simp
      refine (c20 c r A n cap l _ hn H).mono ?_
      rintro e w20 ⟨B5, cb5, rfl, hr5, hcb5, hcm5, hb⟩
      have hB20 := hB19.call hb rfl
      replace hC := hC.call hb rfl
      replace hT0 := blkb hT0 hb
      replace H := H.below hb
      replace hst := hst.below hb
      replace hrw1 := hrw1.below hb
      replace hrw2 := hrw2.below hb
      replace hrd1 := hrd1.below hb
      replace hrd3 := hrd3.below hb
      clear hb hB19
      refine hK _ _ hC ?_
      clear hK K
      try simp only [Act.put, List.setIfInBounds_toArray, List.set_cons_zero, List.set_cons_succ]
      clear hcb5 hcm5
      repeat (first | (refine wpPlanA_skip _ rfl (by rfl) ?_; simp only [Act.put, List.setIfInBounds_toArray, List.set_cons_zero, List.set_cons_succ]) | (refine wpPlanA_soft _ ?_ rfl (by rfl) ?_ ?_; rotate_left; (intro wq hq hcq; go_simp; first | exact rfl | exact ⟨rfl, rfl⟩); simp only [Act.put, List.setIfInBounds_toArray, List.set_cons_zero, List.set_cons_succ]))
      refine wpPlanA_hard _ rfl (by rfl) (fun w21 hS K hK => ?_)
      have hB21 := hB20.call hS rfl
      replace hC := hC.call hS rfl
      replace hT0 := blkb hT0 hS
      replace H := H.below hS
      replace hst := hst.below hS
      replace hrw1 := hrw1.below hS
      replace hrw2 := hrw2.below hS
      replace hrd1 := hrd1.below hS
      replace hrd3 := hrd3.below hS
      replace hr5 := hr5.below hS
      clear hS hB20
      go_simp
      refine (c64 c r B5 n cb5 l _ hn hr5).mono ?_
      rintro e w22 ⟨rfl, hb⟩
      have hB22 := hB21.call hb rfl
      replace hC := hC.call hb rfl
      replace hT0 := blkb hT0 hb
      replace H := H.below hb
      replace hst := hst.below hb
      replace hrw1 := hrw1.below hb
      replace hrw2 := hrw2.below hb
      replace hrd1 := hrd1.below hb
      replace hrd3 := hrd3.below hb
      replace hr5 := hr5.below hb
      clear hb hB21
      refine hK _ _ hC ?_
      clear hK K
      try simp only [Act.put, List.setIfInBounds_toArray, List.set_cons_zero, List.set_cons_succ]
      rw [← HGE.out]
      repeat (first | (refine wpPlanA_skip _ rfl (by rfl) ?_; simp only [Act.put, List.setIfInBounds_toArray, List.set_cons_zero, List.set_cons_succ]) | (refine wpPlanA_soft _ ?_ rfl (by rfl) ?_ ?_; rotate_left; (intro wq hq hcq; go_simp; first | exact rfl | exact ⟨rfl, rfl⟩); simp only [Act.put, List.setIfInBounds_toArray, List.set_cons_zero, List.set_cons_succ]))
      refine wpPlanA_hard _ rfl (by rfl) (fun w23 hS K hK => ?_)
      have hB23 := hB22.call hS rfl
      replace hC := hC.call hS rfl
      replace hT0 := blkb hT0 hS
      replace H := H.below hS
      replace hst := hst.below hS
      replace hrw1 := hrw1.below hS
      replace hrw2 := hrw2.below hS
      replace hrd1 := hrd1.below hS
      replace hrd3 := hrd3.below hS
      replace hr5 := hr5.below hS
      clear hS hB22
      go_simp
      refine (c65 c r A n cap l _ hn H).mono ?_
      rintro e w24 ⟨rfl, hb⟩
      have hB24 := hB23.call hb rfl
      replace hC := hC.call hb rfl
      replace hT0 := blkb hT0 hb
      replace H := H.below hb
      replace hst := hst.below hb
      replace hrw1 := hrw1.below hb
      replace hrw2 := hrw2.below hb
      replace hrd1 := hrd1.below hb
      replace hrd3 := hrd3.below hb
      replace hr5 := hr5.below hb
      clear hb hB23
      refine hK _ _ hC ?_
      clear hK K
      try simp only [Act.put, List.setIfInBounds_toArray, List.set_cons_zero, List.set_cons_succ]
      rw [← HGE.out]
      repeat (first | (refine wpPlanA_skip _ rfl (by rfl) ?_; simp only [Act.put, List.setIfInBounds_toArray, List.set_cons_zero, List.set_cons_succ]) | (refine wpPlanA_soft _ ?_ rfl (by rfl) ?_ ?_; rotate_left; (intro wq hq hcq; go_simp; first | exact rfl | exact ⟨rfl, rfl⟩); simp only [Act.put, List.setIfInBounds_toArray, List.set_cons_zero, List.set_cons_succ]))
      refine wpPlanA_hard _ rfl (by rfl) (fun w25 hS K hK => ?_)
      have hB25 := hB24.call hS rfl
      replace hC := hC.call hS rfl
      replace hT0 := blkb hT0 hS
      replace H := H.below hS
      replace hst := hst.below hS
      replace hrw1 := hrw1.below hS
      replace hrw2 := hrw2.below hS
      replace hrd1 := hrd1.below hS
      replace hrd3 := hrd3.below hS
      replace hr5 := hr5.below hS
      clear hS hB24
      go_simp
      refine (c30_eq hn hrd1 hrd3).mono ?_
      rintro e w26 ⟨rfl, hb⟩
      have hB26 := hB25.call hb rfl
      replace hC := hC.call hb rfl
      replace hT0 := blkb hT0 hb
      replace H := H.below hb
      replace hst := hst.below hb
      replace hrw1 := hrw1.below hb
      replace hrw2 := hrw2.below hb
      replace hrd1 := hrd1.below hb
      replace hrd3 := hrd3.below hb
      replace hr5 := hr5.below hb
      clear hb hB25
      refine hK _ _ hC ?_
      clear hK K
      try simp only [Act.put, List.setIfInBounds_toArray, List.set_cons_zero, List.set_cons_succ]
      repeat (first | (refine wpPlanA_skip _ rfl (by rfl) ?_; simp only [Act.put, List.setIfInBounds_toArray, List.set_cons_zero, List.set_cons_succ]) | (refine wpPlanA_soft _ ?_ rfl (by rfl) ?_ ?_; rotate_left; (intro wq hq hcq; go_simp; first | exact rfl | exact ⟨rfl, rfl⟩); simp only [Act.put, List.setIfInBounds_toArray, List.set_cons_zero, List.set_cons_succ]))
      refine wpPlanA_hard _ rfl (by rfl) (fun w27 hS K hK => ?_)
      have hB27 := hB26.call hS rfl
      replace hC := hC.call hS rfl
      replace hT0 := blkb hT0 hS
      replace H := H.below hS
      replace hst := hst.below hS
      replace hrw1 := hrw1.below hS
      replace hrw2 := hrw2.below hS
      replace hrd1 := hrd1.below hS
      replace hrd3 := hrd3.below hS
      replace hr5 := hr5.below hS
      clear hS hB26
      go_simp
      refine (c30_eq hwl hrw1 hrw2).mono ?_
      rintro e w28 ⟨rfl, hb⟩
      have hB28 := hB27.call hb rfl
      replace hC := hC.call hb rfl
      replace hT0 := blkb hT0 hb
      replace H := H.below hb
      replace hst := hst.below hb
      replace hrw1 := hrw1.below hb
      replace hrw2 := hrw2.below hb
      replace hrd1 := hrd1.below hb
      replace hrd3 := hrd3.below hb
      replace hr5 := hr5.below hb
      clear hb hB27
      refine hK _ _ hC ?_
      clear hK K
      try simp only [Act.put, List.setIfInBounds_toArray, List.set_cons_zero, List.set_cons_succ]
      repeat (first | (refine wpPlanA_skip _ rfl (by rfl) ?_; simp only [Act.put, List.setIfInBounds_toArray, List.set_cons_zero, List.set_cons_succ]) | (refine wpPlanA_soft _ ?_ rfl (by rfl) ?_ ?_; rotate_left; (intro wq hq hcq; go_simp; first | exact rfl | exact ⟨rfl, rfl⟩); simp only [Act.put, List.setIfInBounds_toArray, List.set_cons_zero, List.set_cons_succ]))
      refine wpPlanA_hard _ rfl (by rfl) (fun w29 hS K hK => ?_)
      have hB29 := hB28.call hS rfl
      replace hC := hC.call hS rfl
      replace hT0 := blkb hT0 hS
      replace H := H.below hS
      replace hst := hst.below hS
      replace hrw1 := hrw1.below hS
      replace hrw2 := hrw2.below hS
      replace hrd1 := hrd1.below hS
      replace hrd3 := hrd3.below hS
      replace hr5 := hr5.below hS
      clear hS hB28
      go_simp
      refine (c18 _ hst).mono ?_
      rintro e w30 ⟨rfl, hb⟩
      have hB30 := hB29.call hb rfl
      replace hC := hC.call hb rfl
      replace hT0 := blkb hT0 hb
      replace H := H.below hb
      replace hst := hst.below hb
      replace hrw1 := hrw1.below hb
      replace hrw2 := hrw2.below hb
      replace hrd1 := hrd1.below hb
      replace hrd3 := hrd3.below hb
      replace hr5 := hr5.below hb
      clear hb hB29
      refine hK _ _ hC ?_
      clear hK K
      try simp only [Act.put, List.setIfInBounds_toArray, List.set_cons_zero, List.set_cons_succ]
      repeat (first | (refine wpPlanA_skip _ rfl (by rfl) ?_; simp only [Act.put, List.setIfInBounds_toArray, List.set_cons_zero, List.set_cons_succ]) | (refine wpPlanA_soft _ ?_ rfl (by rfl) ?_ ?_; rotate_left; (intro wq hq hcq; go_simp; first | exact rfl | exact ⟨rfl, rfl⟩); simp only [Act.put, List.setIfInBounds_toArray, List.set_cons_zero, List.set_cons_succ]))
      clear qhT0_0 qhT0_1 qhT0_2
      refine wpPlanA_nil (fun w31 hS => ?_)
      clear hC zhT0
      have hB31 := hB30.call hS rfl
      replace hT0 := blkb hT0 hS
      replace H := H.below hS
      replace hst := hst.below hS
      replace hrw1 := hrw1.below hS
      replace hrw2 := hrw2.below hS
      replace hrd1 := hrd1.below hS
      replace hrd3 := hrd3.below hS
      replace hr5 := hr5.below hS
      clear hS hB30
      have qhT0_0 : w31.cell? ⟨w.heap.size, 0, none⟩ = some (.int .i64 c) := cell_at hT0 rfl
      have qhT0_1 : w31.cell? ⟨w.heap.size, 1, none⟩ = some (.int .i64 r) := cell_at hT0 rfl
      have qhT0_2 : w31.cell? ⟨w.heap.size, 2, none⟩ = some (.slice A n cap) := cell_at hT0 rfl
      go_wp2
      go_ret
      exact ⟨rfl, hB31⟩
  have hv1 : (V == 0) = false := by simpa using hV0
  have hX0 : X = 0 := by rw [HX.out.2]; have h : decide (0 < V) = true := by simp; have := HX.out.1; omega
                         rw [h]; rfl
  subst hX0
  clear hV0
  go_wp2_with fail
  refine (c63 c r A n cap l a _ g hc hr hla H).mono ?_
  rintro e w18 ⟨og3, cp3, t3, rfl, hrow3, hT4, hb⟩
  clear qhT0_0 qhT0_1 qhT0_2
  have hS := hb
  have hB18 := hB17.call hS rfl
  replace hT0 := blkb hT0 hS
  replace H := H.below hS
  replace hst := hst.below hS
  replace ho1 := blkb ho1 hS
  replace hrw1 := hrw1.below hS
  replace hrw2 := hrw2.below hS
  clear hS hB17
  have qhT0_0 : w18.cell? ⟨w.heap.size, 0, none⟩ = some (.int .i64 c) := cell_at hT0 rfl
  have qhT0_1 : w18.cell? ⟨w.heap.size, 1, none⟩ = some (.int .i64 r) := cell_at hT0 rfl
  have qhT0_2 : w18.cell? ⟨w.heap.size, 2, none⟩ = some (.slice A n cap) := cell_at hT0 rfl
  clear hb
  obtain rfl : t1 = t3 := HT1.out.unique hT4
  clear hT4
  have hrd1 := RdI.of_cells (HT1.out.len.trans H.len) ho1
  have hrd3 := hrow3.rd
  clear ho1
  clear hrow3
  go_wp2_with fail
  refine wp_region_plan [(0, true), (3, true), (1, false), (2, false), (4, false), (5, true), (6, true), (7, true), (8, true), (9, true), (10, true), (11, true), (12, true), (13, true), (14, true), (15, true), (16, true), (17, true), (18, true), (19, false), (20, true), (21, true), (22, true), (23, true), (24, true), (25, true), (26, true), (27, true), (28, true), (29, false), (30, true), (31, true), (32, true), (33, true), (34, true), (35, true), (36, true), (37, true), (38, true), (39, true), (40, true), (41, true), (42, false), (43, true), (44, true)] w18.heap.size (by kernel_rfl) (by kernel_rfl) (Nat.le_refl _) (fun _ _ d _ _ h => by cases d <;> exact h) ?_
  have hC : Below w18.heap.size w18 w18 := Below.refl _ _
  have zhT0 : w.heap.size < w18.heap.size := (Array.getElem?_eq_some_iff.1 hT0).1
  repeat (first | (refine wpPlanA_skip _ rfl (by rfl) ?_; simp only [Act.put, List.setIfInBounds_toArray, List.set_cons_zero, List.set_cons_succ]) | (refine wpPlanA_soft _ ?_ rfl (by rfl) ?_ ?_; rotate_left; (intro wq hq hcq; go_simp; first | exact rfl | exact ⟨rfl, rfl⟩); simp only [Act.put, List.setIfInBounds_toArray, List.set_cons_zero, List.set_cons_succ]))
  refine wpPlanA_hard _ rfl (by rfl) (fun w19 hS K hK => ?_)
  have hB19 := hB18.call hS rfl
  replace hC := hC.call hS rfl
  replace hT0 := blkb hT0 hS
  replace H := H.below hS
  replace hst := hst.below hS
  replace hrw1 := hrw1.below hS
  replace hrw2 := hrw2.below hS
  replace hrd1 := hrd1.below hS
  replace hrd3 := hrd3.below hS
  clear hS hB18
  go_simp
  refine (c20 c r A n cap l _ hn H).mono ?_
  rintro e w20 ⟨B5, cb5, rfl, hr5, hcb5, hcm5, hb⟩
  have hB20 := hB19.call hb rfl
  replace hC := hC.call hb rfl
  replace hT0 := blkb hT0 hb
  replace H := H.below hb
  replace hst := hst.below hb
  replace hrw1 := hrw1.below hb
  replace hrw2 := hrw2.below hb
  replace hrd1 := hrd1.below hb
  replace hrd3 := hrd3.below hb
  clear hb hB19
  refine hK _ _ hC ?_
  clear hK K
  try simp only [Act.put, List.setIfInBounds_toArray, List.set_cons_zero, List.set_cons_succ]
  clear hcb5 hcm5
  repeat (first | (refine wpPlanA_skip _ rfl (by rfl) ?_; simp only [Act.put, List.setIfInBounds_toArray, List.set_cons_zero, List.set_cons_succ]) | (refine wpPlanA_soft _ ?_ rfl (by rfl) ?_ ?_; rotate_left; (intro wq hq hcq; go_simp; first | exact rfl | exact ⟨rfl, rfl⟩); simp only [Act.put, List.setIfInBounds_toArray, List.set_cons_zero, List.set_cons_succ]))
  refine wpPlanA_hard _ rfl (by rfl) (fun w21 hS K hK => ?_)
  have hB21 := hB20.call hS rfl
  replace hC := hC.call hS rfl
  replace hT0 := blkb hT0 hS
  replace H := H.below hS
  replace hst := hst.below hS
  replace hrw1 := hrw1.below hS
  replace hrw2 := hrw2.below hS
  replace hrd1 := hrd1.below hS
  replace hrd3 := hrd3.below hS
  replace hr5 := hr5.below hS
  clear hS hB20
  go_simp
  refine (c64 c r B5 n cb5 l _ hn hr5).mono ?_
  rintro e w22 ⟨rfl, hb⟩
  have hB22 := hB21.call hb rfl
  replace hC := hC.call hb rfl
  replace hT0 := blkb hT0 hb
  replace H := H.below hb
  replace hst := hst.below hb
  replace hrw1 := hrw1.below hb
  replace hrw2 := hrw2.below hb
  replace hrd1 := hrd1.below hb
  replace hrd3 := hrd3.below hb
  replace hr5 := hr5.below hb
  clear hb hB21
  refine hK _ _ hC ?_
  clear hK K
  try simp only [Act.put, List.setIfInBounds_toArray, List.set_cons_zero, List.set_cons_succ]
  rw [← HGE.out]
  repeat (first | (refine wpPlanA_skip _ rfl (by rfl) ?_; simp only [Act.put, List.setIfInBounds_toArray, List.set_cons_zero, List.set_cons_succ]) | (refine wpPlanA_soft _ ?_ rfl (by rfl) ?_ ?_; rotate_left; (intro wq hq hcq; go_simp; first | exact rfl | exact ⟨rfl, rfl⟩); simp only [Act.put, List.setIfInBounds_toArray, List.set_cons_zero, List.set_cons_succ]))
  refine wpPlanA_hard _ rfl (by rfl) (fun w23 hS K hK => ?_)
  have hB23 := hB22.call hS rfl
  replace hC := hC.call hS rfl
  replace hT0 := blkb hT0 hS
  replace H := H.below hS
  replace hst := hst.below hS
  replace hrw1 := hrw1.below hS
  replace hrw2 := hrw2.below hS
  replace hrd1 := hrd1.below hS
  replace hrd3 := hrd3.below hS
  replace hr5 := hr5.below hS
  clear hS hB22
  go_simp
  refine (c65 c r A n cap l _ hn H).mono ?_
  rintro e w24 ⟨rfl, hb⟩
  have hB24 := hB23.call hb rfl
  replace hC := hC.call hb rfl
  replace hT0 := blkb hT0 hb
  replace H := H.below hb
  replace hst := hst.below hb
  replace hrw1 := hrw1.below hb
  replace hrw2 := hrw2.below hb
  replace hrd1 := hrd1.below hb
  replace hrd3 := hrd3.below hb
  replace hr5 := hr5.below hb
  clear hb hB23
  refine hK _ _ hC ?_
  clear hK K
  try simp only [Act.put, List.setIfInBounds_toArray, List.set_cons_zero, List.set_cons_succ]
  rw [← HGE.out]
  repeat (first | (refine wpPlanA_skip _ rfl (by rfl) ?_; simp only [Act.put, List.setIfInBounds_toArray, List.set_cons_zero, List.set_cons_succ]) | (refine wpPlanA_soft _ ?_ rfl (by rfl) ?_ ?_; rotate_left; (intro wq hq hcq; go_simp; first | exact rfl | exact ⟨rfl, rfl⟩); simp only [Act.put, List.setIfInBounds_toArray, List.set_cons_zero, List.set_cons_succ]))
  refine wpPlanA_hard _ rfl (by rfl) (fun w25 hS K hK => ?_)
  have hB25 := hB24.call hS rfl
  replace hC := hC.call hS rfl
  replace hT0 := blkb hT0 hS
  replace H := H.below hS
  replace hst := hst.below hS
  replace hrw1 := hrw1.below hS
  replace hrw2 := hrw2.below hS
  replace hrd1 := hrd1.below hS
  replace hrd3 := hrd3.below hS
  replace hr5 := hr5.below hS
  clear hS hB24
  go_simp
  refine (c30_eq hn hrd1 hrd3).mono ?_
  rintro e w26 ⟨rfl, hb⟩
  have hB26 := hB25.call hb rfl
  replace hC := hC.call hb rfl
  replace hT0 := blkb hT0 hb
  replace H := H.below hb
  replace hst := hst.below hb
  replace hrw1 := hrw1.below hb
  replace hrw2 := hrw2.below hb
  replace hrd1 := hrd1.below hb
  replace hrd3 := hrd3.below hb
  replace hr5 := hr5.below hb
  clear hb hB25
  refine hK _ _ hC ?_
  clear hK K
  try simp only [Act.put, List.setIfInBounds_toArray, List.set_cons_zero, List.set_cons_succ]
  repeat (first | (refine wpPlanA_skip _ rfl (by rfl) ?_; simp only [Act.put, List.setIfInBounds_toArray, List.set_cons_zero, List.set_cons_succ]) | (refine wpPlanA_soft _ ?_ rfl (by rfl) ?_ ?_; rotate_left; (intro wq hq hcq; go_simp; first | exact rfl | exact ⟨rfl, rfl⟩); simp only [Act.put, List.setIfInBounds_toArray, List.set_cons_zero, List.set_cons_succ]))
  refine wpPlanA_hard _ rfl (by rfl) (fun w27 hS K hK => ?_)
  have hB27 := hB26.call hS rfl
  replace hC := hC.call hS rfl
  replace hT0 := blkb hT0 hS
  replace H := H.below hS
  replace hst := hst.below hS
  replace hrw1 := hrw1.below hS
  replace hrw2 := hrw2.below hS
  replace hrd1 := hrd1.below hS
  replace hrd3 := hrd3.below hS
  replace hr5 := hr5.below hS
  clear hS hB26
  go_simp
  refine (c30_eq hwl hrw1 hrw2).mono ?_
  rintro e w28 ⟨rfl, hb⟩
  have hB28 := hB27.call hb rfl
  replace hC := hC.call hb rfl
  replace hT0 := blkb hT0 hb
  replace H := H.below hb
  replace hst := hst.below hb
  replace hrw1 := hrw1.below hb
  replace hrw2 := hrw2.below hb
  replace hrd1 := hrd1.below hb
  replace hrd3 := hrd3.below hb
  replace hr5 := hr5.below hb
  clear hb hB27
  refine hK _ _ hC ?_
  clear hK K
  try simp only [Act.put, List.setIfInBounds_toArray, List.set_cons_zero, List.set_cons_succ]
  repeat (first | (refine wpPlanA_skip _ rfl (by rfl) ?_; simp only [Act.put, List.setIfInBounds_toArray, List.set_cons_zero, List.set_cons_succ]) | (refine wpPlanA_soft _ ?_ rfl (by rfl) ?_ ?_; rotate_left; (intro wq hq hcq; go_simp; first | exact rfl | exact ⟨rfl, rfl⟩); simp only [Act.put, List.setIfInBounds_toArray, List.set_cons_zero, List.set_cons_succ]))
  refine wpPlanA_hard _ rfl (by rfl) (fun w29 hS K hK => ?_)
  have hB29 := hB28.call hS rfl
  replace hC := hC.call hS rfl
  replace hT0 := blkb hT0 hS
  replace H := H.below hS
  replace hst := hst.below hS
  replace hrw1 := hrw1.below hS
  replace hrw2 := hrw2.below hS
  replace hrd1 := hrd1.below hS
  replace hrd3 := hrd3.below hS
  replace hr5 := hr5.below hS
  clear hS hB28
  go_simp
  refine (c18 _ hst).mono ?_
  rintro e w30 ⟨rfl, hb⟩
  have hB30 := hB29.call hb rfl
  replace hC := hC.call hb rfl
  replace hT0 := blkb hT0 hb
  replace H := H.below hb
  replace hst := hst.below hb
  replace hrw1 := hrw1.below hb
  replace hrw2 := hrw2.below hb
  replace hrd1 := hrd1.below hb
  replace hrd3 := hrd3.below hb
  replace hr5 := hr5.below hb
  clear hb hB29
  refine hK _ _ hC ?_
  clear hK K
  try simp only [Act.put, List.setIfInBounds_toArray, List.set_cons_zero, List.set_cons_succ]
  repeat (first | (refine wpPlanA_skip _ rfl (by rfl) ?_; simp only [Act.put, List.setIfInBounds_toArray, List.set_cons_zero, List.set_cons_succ]) | (refine wpPlanA_soft _ ?_ rfl (by rfl) ?_ ?_; rotate_left; (intro wq hq hcq; go_simp; first | exact rfl | exact ⟨rfl, rfl⟩); simp only [Act.put, List.setIfInBounds_toArray, List.set_cons_zero, List.set_cons_succ]))
  clear qhT0_0 qhT0_1 qhT0_2
  refine wpPlanA_nil (fun w31 hS => ?_)
  clear hC zhT0
  have hB31 := hB30.call hS rfl
  replace hT0 := blkb hT0 hS
  replace H := H.below hS
  replace hst := hst.below hS
  replace hrw1 := hrw1.below hS
  replace hrw2 := hrw2.below hS
  replace hrd1 := hrd1.below hS
  replace hrd3 := hrd3.below hS
  replace hr5 := hr5.below hS
  clear hS hB30
  have qhT0_0 : w31.cell? ⟨w.heap.size, 0, none⟩ = some (.int .i64 c) := cell_at hT0 rfl
  have qhT0_1 : w31.cell? ⟨w.heap.size, 1, none⟩ = some (.int .i64 r) := cell_at hT0 rfl
  have qhT0_2 : w31.cell? ⟨w.heap.size, 2, none⟩ = some (.slice A n cap) := cell_at hT0 rfl
  go_wp2
  go_ret
  exact ⟨rfl, hB31⟩

theorem l10_b (c r : Nat) (A : Option Addr) (n cap : Nat) (l : List Int) (a : Nat) (b : Int) (w : World) (g : Im.Gr c r l) (hc : c ≤ 16) (hr : r ≤ 16) (hla : a < n) (hE1 : Mo.first [Mo.ground c r l, Mo.cell n a, Mo.cell n b] ≠ 0) (H : RdI w A n l) (hst : Steps w) :
   Calls Tryz.prog 10 #[.agg #[.int .i64 c, .int .i64 r, .slice A n cap], .int .i64 a, .int .i64 b] w fun en w' => en = .returned (.bool true) ∧ Below w.heap.size w w' := by
  obtain ⟨E1, he1⟩ : ∃ E, E = Mo.first [Mo.ground c r l, Mo.cell n a, Mo.cell n b] := ⟨_, rfl⟩
  have K57 : Hid (∀ (B : Option Addr) (cb : Nat) (W : World), n ≤ 1000000 → RdI W B n l → Calls Tryz.prog 57 #[.agg #[.int .i64 c, .int .i64 r, .slice B n cb], .int .i64 a, .int .i64 b] W fun en w' => en = .returned (.tuple #[.int .i64 0, .int .i64 E1]) ∧ Below W.heap.size W w') := Lib.hid (fun B cb W h1 h2 => by rw [he1]; exact c57_bad c r B n cb l a b W h1 h2 hE1)
  have K59 : Hid (∀ (B : Option Addr) (cb : Nat) (W : World), n ≤ 1000000 → RdI W B n l → Calls Tryz.prog 59 #[.agg #[.int .i64 c, .int .i64 r, .slice B n cb], .int .i64 a, .int .i64 b] W fun en w' => en = .returned (.tuple #[.slice none 0 0, .int .i64 0, .int .i64 E1]) ∧ Below W.heap.size W w') := Lib.hid (fun B cb W h1 h2 => by rw [he1]; exact c59_bad c r B n cb l a b W h1 h2 hE1)
  have K60 : Hid (∀ (S : Option Addr) (W : World), n ≤ 1000000 → RdI W A n l → RdI W S 2 [(a : Int), (b : Int)] → Calls Tryz.prog 60 #[.agg #[.int .i64 c, .int .i64 r, .slice A n cap], .slice S 2 2] W fun en w' => en = .returned (.int .i64 E1) ∧ Below W.heap.size W w') := Lib.hid (fun S W h1 h2 h3 => by rw [he1, ← Mo.cells2]; exact c60 c r A n cap l S 2 2 _ W h1 (by omega) h2 h3)
  have hn1 : (E1 == 0) = false := by rw [he1]; simpa using hE1
  clear he1 hE1
  have K60b : Hid (∀ (S : Option Addr) (W : World), n ≤ 1000000 → RdI W A n l → RdI W S 1 [(a : Int)] → Calls Tryz.prog 60 #[.agg #[.int .i64 c, .int .i64 r, .slice A n cap], .slice S 1 1] W fun en w' => en = .returned (.int .i64 0) ∧ Below W.heap.size W w') := Lib.hid (fun S W h1 h2 h3 => by
    have e : Mo.cells c r l n [(a : Int)] = 0 := by rw [Mo.cells1]; exact first2 (Mo.ground_of g hc hr) (Mo.cell_ok.2 (by omega))
    rw [← e]; exact c60 c r A n cap l S 1 1 _ W h1 (by omega) h2 h3)
  obtain ⟨GE, hGE⟩ : ∃ E, E = Mo.ground c r l := ⟨_, rfl⟩
  have HGE := Lib.hid hGE
  clear hGE
  obtain ⟨w0, hW⟩ : ∃ W, W = w.alloc (Obj.cells #[.int .i64 c, .int .i64 r, .slice A n cap] 24) := ⟨_, rfl⟩
  have hT0 : w0.heap[w.heap.size]? = some (.cells #[.int .i64 c, .int .i64 r, .slice A n cap] 24 (0, 0)) := by rw [hW]; exact heap_new (by simp)
  have hB0 : Below w.heap.size w w0 := by rw [hW]; exact ((Below.refl _ _).alloc (by first | omega | (simp <;> omega)) _)
  replace H := H.below hB0
  replace hst := hst.below hB0
  go_enter Tryz.func10, Tryz.ntmps10
  go_wp2_with fail
  rw [← hW]
  clear hW
  have qhT0_0 : w0.cell? ⟨w.heap.size, 0, none⟩ = some (.int .i64 c) := cell_at hT0 rfl
  have qhT0_1 : w0.cell? ⟨w.heap.size, 1, none⟩ = some (.int .i64 r) := cell_at hT0 rfl
  have qhT0_2 : w0.cell? ⟨w.heap.size, 2, none⟩ = some (.slice A n cap) := cell_at hT0 rfl
  go_wp2_with fail
  refine (c16 c r A n cap _).mono ?_
  rintro e w1 ⟨⟨b1, rfl, hP⟩, hb⟩
  clear qhT0_0 qhT0_1 qhT0_2
  have hS := hb
  have hB1 := hB0.call hS rfl
  replace hT0 := blkb hT0 hS
  replace H := H.below hS
  replace hst := hst.below hS
  clear hS hB0
  have qhT0_0 : w1.cell? ⟨w.heap.size, 0, none⟩ = some (.int .i64 c) := cell_at hT0 rfl
  have qhT0_1 : w1.cell? ⟨w.heap.size, 1, none⟩ = some (.int .i64 r) := cell_at hT0 rfl
  have qhT0_2 : w1.cell? ⟨w.heap.size, 2, none⟩ = some (.slice A n cap) := cell_at hT0 rfl
  clear hb
  have HP := Lib.hid hP
  clear hP
  cases b1
  ·
      go_wp2_with fail
      refine (c18 _ hst).mono ?_
      rintro e wz ⟨rfl, hz⟩
      go_wp2
      go_ret
      exact ⟨rfl, hB1.call hz rfl⟩
  have hn30 : n ≤ 30 := by first | exact HP.out rfl | exact HP.out trivial
  have hn : n ≤ 1000000 := by omega
  clear HP
  go_wp2_with fail
  refine (c20 c r A n cap l _ hn H).mono ?_
  rintro e w2 ⟨B1, cb1, rfl, hr1, hcb1, hcm1, hb⟩
  clear qhT0_0 qhT0_1 qhT0_2
  have hS := hb
  have hB2 := hB1.call hS rfl
  replace hT0 := blkb hT0 hS
  replace H := H.below hS
  replace hst := hst.below hS
  clear hS hB1
  have qhT0_0 : w2.cell? ⟨w.heap.size, 0, none⟩ = some (.int .i64 c) := cell_at hT0 rfl
  have qhT0_1 : w2.cell? ⟨w.heap.size, 1, none⟩ = some (.int .i64 r) := cell_at hT0 rfl
  have qhT0_2 : w2.cell? ⟨w.heap.size, 2, none⟩ = some (.slice A n cap) := cell_at hT0 rfl
  clear hb
  clear hcb1 hcm1
  go_wp2_with fail
  refine (K57.out B1 cb1 _ hn hr1).mono ?_
  rintro e w3 ⟨rfl, hb⟩
  clear qhT0_0 qhT0_1 qhT0_2
  have hS := hb
  have hB3 := hB2.call hS rfl
  replace hT0 := blkb hT0 hS
  replace H := H.below hS
  replace hst := hst.below hS
  replace hr1 := hr1.below hS
  clear hS hB2
  have qhT0_0 : w3.cell? ⟨w.heap.size, 0, none⟩ = some (.int .i64 c) := cell_at hT0 rfl
  have qhT0_1 : w3.cell? ⟨w.heap.size, 1, none⟩ = some (.int .i64 r) := cell_at hT0 rfl
  have qhT0_2 : w3.cell? ⟨w.heap.size, 2, none⟩ = some (.slice A n cap) := cell_at hT0 rfl
  clear hb
  clear hr1
  go_wp2_with fail
  refine (c20 c r A n cap l _ hn H).mono ?_
  rintro e w4 ⟨B2, cb2, rfl, hr2, hcb2, hcm2, hb⟩
  clear qhT0_0 qhT0_1 qhT0_2
  have hS := hb
  have hB4 := hB3.call hS rfl
  replace hT0 := blkb hT0 hS
  replace H := H.below hS
  replace hst := hst.below hS
  clear hS hB3
  have qhT0_0 : w4.cell? ⟨w.heap.size, 0, none⟩ = some (.int .i64 c) := cell_at hT0 rfl
  have qhT0_1 : w4.cell? ⟨w.heap.size, 1, none⟩ = some (.int .i64 r) := cell_at hT0 rfl
  have qhT0_2 : w4.cell? ⟨w.heap.size, 2, none⟩ = some (.slice A n cap) := cell_at hT0 rfl
  clear hb
  clear hcb2 hcm2
  go_wp2_with fail
  refine (c58_ok c r B2 n cb2 l a _ g hc hr hr2 hst hla).mono ?_
  rintro e w5 ⟨og1, t1, rfl, hge1, ho1, hT1, hb⟩
  clear qhT0_0 qhT0_1 qhT0_2
  have hS := hb
  have hB5 := hB4.call hS rfl
  replace hT0 := blkb hT0 hS
  replace H := H.below hS
  replace hst := hst.below hS
  replace hr2 := hr2.below hS
  clear hS hB4
  have qhT0_0 : w5.cell? ⟨w.heap.size, 0, none⟩ = some (.int .i64 c) := cell_at hT0 rfl
  have qhT0_1 : w5.cell? ⟨w.heap.size, 1, none⟩ = some (.int .i64 r) := cell_at hT0 rfl
  have qhT0_2 : w5.cell? ⟨w.heap.size, 2, none⟩ = some (.slice A n cap) := cell_at hT0 rfl
  clear hb
  clear hge1
  have HT1 := Lib.hid hT1
  clear hT1
  clear hr2
  go_wp2_with fail
  refine (c20 c r A n cap l _ hn H).mono ?_
  rintro e w6 ⟨B3, cb3, rfl, hr3, hcb3, hcm3, hb⟩
  clear qhT0_0 qhT0_1 qhT0_2
  have hS := hb
  have hB6 := hB5.call hS rfl
  replace hT0 := blkb hT0 hS
  replace H := H.below hS
  replace hst := hst.below hS
  replace ho1 := blkb ho1 hS
  clear hS hB5
  have qhT0_0 : w6.cell? ⟨w.heap.size, 0, none⟩ = some (.int .i64 c) := cell_at hT0 rfl
  have qhT0_1 : w6.cell? ⟨w.heap.size, 1, none⟩ = some (.int .i64 r) := cell_at hT0 rfl
  have qhT0_2 : w6.cell? ⟨w.heap.size, 2, none⟩ = some (.slice A n cap) := cell_at hT0 rfl
  clear hb
  clear hcb3 hcm3
  go_wp2_with fail
  refine (K59.out B3 cb3 _ hn hr3).mono ?_
  rintro e w7 ⟨rfl, hb⟩
  clear qhT0_0 qhT0_1 qhT0_2
  have hS := hb
  have hB7 := hB6.call hS rfl
  replace hT0 := blkb hT0 hS
  replace H := H.below hS
  replace hst := hst.below hS
  replace ho1 := blkb ho1 hS
  replace hr3 := hr3.below hS
  clear hS hB6
  have qhT0_0 : w7.cell? ⟨w.heap.size, 0, none⟩ = some (.int .i64 c) := cell_at hT0 rfl
  have qhT0_1 : w7.cell? ⟨w.heap.size, 1, none⟩ = some (.int .i64 r) := cell_at hT0 rfl
  have qhT0_2 : w7.cell? ⟨w.heap.size, 2, none⟩ = some (.slice A n cap) := cell_at hT0 rfl
  clear hb
  clear hr3
  go_wp2_with fail
  refine wp_region_planJ (Φ := fun v w => ∃ b, v = .slice (some ⟨b, 0, none⟩) 1 1 ∧ w.heap[b]? = some (Obj.cells #[.int .i64 a] 3)) (J := fun ac => ac.tmps[55]?.getD undef = .int .i64 a) [(0, 1), (1, 1), (2, 1), (5, 1), (6, 1), (3, 0), (4, 0), (7, 2), (8, 0), (9, 1), (10, 1)] 7 w7.heap.size _ rfl (by kernel_rfl) (by kernel_rfl) (Nat.le_refl _) (fun _ _ d _ _ h => by cases d <;> exact h) (fun _ _ d _ _ h => by cases d <;> exact h) (fun v w w' hv hb => by obtain ⟨b, e, h⟩ := hv; exact ⟨b, e, blkb h hb⟩) ?hF ?_
  case hF =>
    intro ac wq hJ hq
    refine ⟨rfl, ?_⟩
    have hJ' := hJ
    go_simp
    try rw [hJ']
    exact ⟨_, rfl, ⟨_, rfl, heap_new rfl⟩, (Below.refl _ _).alloc (Nat.le_refl _) _⟩
  have hC : Below w7.heap.size w7 w7 := Below.refl _ _
  have zhT0 : w.heap.size < w7.heap.size := (Array.getElem?_eq_some_iff.1 hT0).1
  repeat (first | (refine wpPlanJA_skip _ rfl (by rfl) ?_; simp only [Act.put, List.setIfInBounds_toArray, List.set_cons_zero, List.set_cons_succ]) | (refine wpPlanJA_soft _ ?_ rfl (by rfl) ?_ ?_; rotate_left; (intro wq hq hcq; go_simp; first | exact rfl | exact ⟨rfl, rfl⟩); simp only [Act.put, List.setIfInBounds_toArray, List.set_cons_zero, List.set_cons_succ]))
  refine wpPlanJA_hard _ rfl rfl (by rfl) (fun w8 hS K hK => ?_)
  have hB8 := hB7.call hS rfl
  replace hC := hC.call hS rfl
  replace hT0 := blkb hT0 hS
  replace H := H.below hS
  replace hst := hst.below hS
  replace ho1 := blkb ho1 hS
  clear hS hB7
  go_simp
  have hb : Below w8.heap.size w8 (w8.alloc (Obj.cells #[.int .i64 a, .int .i64 b] 3)) := (Below.refl _ _).alloc (Nat.le_refl _) _
  have k1 : (w8.alloc (Obj.cells #[.int .i64 a, .int .i64 b] 3)).heap[w8.heap.size]? = some (Obj.cells #[.int .i64 a, .int .i64 b] 3) := heap_new rfl
  refine hK _ _ (hC.alloc hC.size _) hb ?_
  clear hK K
  replace hC := hC.call hb rfl
  have hB9 := hB8.call hb rfl
  replace hT0 := blkb hT0 hb
  replace H := H.below hb
  replace hst := hst.below hb
  replace ho1 := blkb ho1 hb
  clear hb hB8
  generalize hWn : w8.alloc (Obj.cells #[.int .i64 a, .int .i64 b] 3) = w9 at k1 hC hB9 hT0 H hst ho1 ⊢
  clear hWn
  generalize hWn : w8.heap.size = bk1 at k1 ⊢
  clear hWn
  try simp only [Act.put, List.setIfInBounds_toArray, List.set_cons_zero, List.set_cons_succ]
  repeat (first | (refine wpPlanJA_skip _ rfl (by rfl) ?_; simp only [Act.put, List.setIfInBounds_toArray, List.set_cons_zero, List.set_cons_succ]) | (refine wpPlanJA_soft _ ?_ rfl (by rfl) ?_ ?_; rotate_left; (intro wq hq hcq; go_simp; first | exact rfl | exact ⟨rfl, rfl⟩); simp only [Act.put, List.setIfInBounds_toArray, List.set_cons_zero, List.set_cons_succ]))
  refine wpPlanJA_hard _ rfl rfl (by rfl) (fun w10 hS K hK => ?_)
  have hB10 := hB9.call hS rfl
  replace hC := hC.call hS rfl
  replace hT0 := blkb hT0 hS
  replace H := H.below hS
  replace hst := hst.below hS
  replace ho1 := blkb ho1 hS
  replace k1 := blkb k1 hS
  clear hS hB9
  go_simp
  refine (K60.out _ _ hn H (RdS.of_block (cs := encI [(a : Int), (b : Int)]) k1 rfl)).mono ?_
  rintro e w11 ⟨rfl, hb⟩
  have hB11 := hB10.call hb rfl
  replace hC := hC.call hb rfl
  replace hT0 := blkb hT0 hb
  replace H := H.below hb
  replace hst := hst.below hb
  replace ho1 := blkb ho1 hb
  replace k1 := blkb k1 hb
  refine hK _ _ hC hb ?_
  clear hK K hb hB10
  try simp only [Act.put, List.setIfInBounds_toArray, List.set_cons_zero, List.set_cons_succ]
  repeat (first | (refine wpPlanJA_skip _ rfl (by rfl) ?_; simp only [Act.put, List.setIfInBounds_toArray, List.set_cons_zero, List.set_cons_succ]) | (refine wpPlanJA_soft _ ?_ rfl (by rfl) ?_ ?_; rotate_left; (intro wq hq hcq; go_simp; first | exact rfl | exact ⟨rfl, rfl⟩); simp only [Act.put, List.setIfInBounds_toArray, List.set_cons_zero, List.set_cons_succ]))
  refine wpPlanJA_float _ rfl rfl (fun v w12 hS hv => ?_)
  obtain ⟨bk2, rfl, k2⟩ := hv
  have hB12 := hB11.call hS rfl
  replace hC := hC.call hS rfl
  replace hT0 := blkb hT0 hS
  replace H := H.below hS
  replace hst := hst.below hS
  replace ho1 := blkb ho1 hS
  replace k1 := blkb k1 hS
  clear hS hB11
  try simp only [Act.put, List.setIfInBounds_toArray, List.set_cons_zero, List.set_cons_succ]
  repeat (first | (refine wpPlanJA_skip _ rfl (by rfl) ?_; simp only [Act.put, List.setIfInBounds_toArray, List.set_cons_zero, List.set_cons_succ]) | (refine wpPlanJA_soft _ ?_ rfl (by rfl) ?_ ?_; rotate_left; (intro wq hq hcq; go_simp; first | exact rfl | exact ⟨rfl, rfl⟩); simp only [Act.put, List.setIfInBounds_toArray, List.set_cons_zero, List.set_cons_succ]))
  refine wpPlanJA_hard _ rfl rfl (by rfl) (fun w13 hS K hK => ?_)
  have hB13 := hB12.call hS rfl
  replace hC := hC.call hS rfl
  replace hT0 := blkb hT0 hS
  replace H := H.below hS
  replace hst := hst.below hS
  replace ho1 := blkb ho1 hS
  replace k1 := blkb k1 hS
  replace k2 := blkb k2 hS
  clear hS hB12
  go_simp
  refine (K60b.out _ _ hn H (RdS.of_block (cs := encI [(a : Int)]) k2 rfl)).mono ?_
  rintro e w14 ⟨rfl, hb⟩
  have hB14 := hB13.call hb rfl
  replace hC := hC.call hb rfl
  replace hT0 := blkb hT0 hb
  replace H := H.below hb
  replace hst := hst.below hb
  replace ho1 := blkb ho1 hb
  replace k1 := blkb k1 hb
  replace k2 := blkb k2 hb
  refine hK _ _ hC hb ?_
  clear hK K hb hB13
  try simp only [Act.put, List.setIfInBounds_toArray, List.set_cons_zero, List.set_cons_succ]
  repeat (first | (refine wpPlanJA_skip _ rfl (by rfl) ?_; simp only [Act.put, List.setIfInBounds_toArray, List.set_cons_zero, List.set_cons_succ]) | (refine wpPlanJA_soft _ ?_ rfl (by rfl) ?_ ?_; rotate_left; (intro wq hq hcq; go_simp; first | exact rfl | exact ⟨rfl, rfl⟩); simp only [Act.put, List.setIfInBounds_toArray, List.set_cons_zero, List.set_cons_succ]))
  clear k1
  clear k2
  clear qhT0_0 qhT0_1 qhT0_2
  refine wpPlanJA_nil (fun w15 hS => ?_)
  clear hC zhT0
  have hB15 := hB14.call hS rfl
  replace hT0 := blkb hT0 hS
  replace H := H.below hS
  replace hst := hst.below hS
  replace ho1 := blkb ho1 hS
  clear hS hB14
  have qhT0_0 : w15.cell? ⟨w.heap.size, 0, none⟩ = some (.int .i64 c) := cell_at hT0 rfl
  have qhT0_1 : w15.cell? ⟨w.heap.size, 1, none⟩ = some (.int .i64 r) := cell_at hT0 rfl
  have qhT0_2 : w15.cell? ⟨w.heap.size, 2, none⟩ = some (.slice A n cap) := cell_at hT0 rfl
  go_wp2_with fail
  refine (c63 c r A n cap l a _ g hc hr hla H).mono ?_
  rintro e w16 ⟨og3, cp3, t3, rfl, hrow3, hT4, hb⟩
  clear qhT0_0 qhT0_1 qhT0_2
  have hS := hb
  have hB16 := hB15.call hS rfl
  replace hT0 := blkb hT0 hS
  replace H := H.below hS
  replace hst := hst.below hS
  replace ho1 := blkb ho1 hS
  clear hS hB15
  have qhT0_0 : w16.cell? ⟨w.heap.size, 0, none⟩ = some (.int .i64 c) := cell_at hT0 rfl
  have qhT0_1 : w16.cell? ⟨w.heap.size, 1, none⟩ = some (.int .i64 r) := cell_at hT0 rfl
  have qhT0_2 : w16.cell? ⟨w.heap.size, 2, none⟩ = some (.slice A n cap) := cell_at hT0 rfl
  clear hb
  obtain rfl : t1 = t3 := HT1.out.unique hT4
  clear hT4
  have hrd1 := RdI.of_cells (HT1.out.len.trans H.len) ho1
  have hrd3 := hrow3.rd
  clear ho1
  clear hrow3
  go_wp2_with fail
  refine wp_region_plan [(0, true), (3, true), (1, false), (2, false), (4, false), (5, true), (6, true), (7, true), (8, true), (9, true), (10, true), (11, true), (12, true), (13, true), (14, true), (15, true), (16, true), (17, true), (18, true), (19, false), (20, true), (21, true), (22, true), (23, true), (24, true), (25, true), (26, true), (27, true), (28, true), (29, false), (30, true), (31, true), (32, true), (33, true), (34, true), (35, true), (36, true), (37, true), (38, true), (39, true), (40, true), (41, true), (42, false), (43, true), (44, true)] w16.heap.size (by kernel_rfl) (by kernel_rfl) (Nat.le_refl _) (fun _ _ d _ _ h => by cases d <;> exact h) ?_
  have hC : Below w16.heap.size w16 w16 := Below.refl _ _
  have zhT0 : w.heap.size < w16.heap.size := (Array.getElem?_eq_some_iff.1 hT0).1
  repeat (first | (refine wpPlanA_skip _ rfl (by rfl) ?_; simp only [Act.put, List.setIfInBounds_toArray, List.set_cons_zero, List.set_cons_succ]) | (refine wpPlanA_soft _ ?_ rfl (by rfl) ?_ ?_; rotate_left; (intro wq hq hcq; go_simp; first | exact rfl | exact ⟨rfl, rfl⟩); simp only [Act.put, List.setIfInBounds_toArray, List.set_cons_zero, List.set_cons_succ]))
  refine wpPlanA_hard _ rfl (by rfl) (fun w17 hS K hK => ?_)
  have hB17 := hB16.call hS rfl
  replace hC := hC.call hS rfl
  replace hT0 := blkb hT0 hS
  replace H := H.below hS
  replace hst := hst.below hS
  replace hrd1 := hrd1.below hS
  replace hrd3 := hrd3.below hS
  clear hS hB16
  go_simp
  refine (c20 c r A n cap l _ hn H).mono ?_
  rintro e w18 ⟨B5, cb5, rfl, hr5, hcb5, hcm5, hb⟩
  have hB18 := hB17.call hb rfl
  replace hC := hC.call hb rfl
  replace hT0 := blkb hT0 hb
  replace H := H.below hb
  replace hst := hst.below hb
  replace hrd1 := hrd1.below hb
  replace hrd3 := hrd3.below hb
  clear hb hB17
  refine hK _ _ hC ?_
  clear hK K
  try simp only [Act.put, List.setIfInBounds_toArray, List.set_cons_zero, List.set_cons_succ]
  clear hcb5 hcm5
  repeat (first | (refine wpPlanA_skip _ rfl (by rfl) ?_; simp only [Act.put, List.setIfInBounds_toArray, List.set_cons_zero, List.set_cons_succ]) | (refine wpPlanA_soft _ ?_ rfl (by rfl) ?_ ?_; rotate_left; (intro wq hq hcq; go_simp; first | exact rfl | exact ⟨rfl, rfl⟩); simp only [Act.put, List.setIfInBounds_toArray, List.set_cons_zero, List.set_cons_succ]))
  refine wpPlanA_hard _ rfl (by rfl) (fun w19 hS K hK => ?_)
  have hB19 := hB18.call hS rfl
  replace hC := hC.call hS rfl
  replace hT0 := blkb hT0 hS
  replace H := H.below hS
  replace hst := hst.below hS
  replace hrd1 := hrd1.below hS
  replace hrd3 := hrd3.below hS
  replace hr5 := hr5.below hS
  clear hS hB18
  go_simp
  refine (c64 c r B5 n cb5 l _ hn hr5).mono ?_
  rintro e w20 ⟨rfl, hb⟩
  have hB20 := hB19.call hb rfl
  replace hC := hC.call hb rfl
  replace hT0 := blkb hT0 hb
  replace H := H.below hb
  replace hst := hst.below hb
  replace hrd1 := hrd1.below hb
  replace hrd3 := hrd3.below hb
  replace hr5 := hr5.below hb
  clear hb hB19
  refine hK _ _ hC ?_
  clear hK K
  try simp only [Act.put, List.setIfInBounds_toArray, List.set_cons_zero, List.set_cons_succ]
  rw [← HGE.out]
  repeat (first | (refine wpPlanA_skip _ rfl (by rfl) ?_; simp only [Act.put, List.setIfInBounds_toArray, List.set_cons_zero, List.set_cons_succ]) | (refine wpPlanA_soft _ ?_ rfl (by rfl) ?_ ?_; rotate_left; (intro wq hq hcq; go_simp; first | exact rfl | exact ⟨rfl, rfl⟩); simp only [Act.put, List.setIfInBounds_toArray, List.set_cons_zero, List.set_cons_succ]))
  refine wpPlanA_hard _ rfl (by rfl) (fun w21 hS K hK => ?_)
  have hB21 := hB20.call hS rfl
  replace hC := hC.call hS rfl
  replace hT0 := blkb hT0 hS
  replace H := H.below hS
  replace hst := hst.below hS
  replace hrd1 := hrd1.below hS
  replace hrd3 := hrd3.below hS
  replace hr5 := hr5.below hS
  clear hS hB20
  go_simp
  refine (c65 c r A n cap l _ hn H).mono ?_
  rintro e w22 ⟨rfl, hb⟩
  have hB22 := hB21.call hb rfl
  replace hC := hC.call hb rfl
  replace hT0 := blkb hT0 hb
  replace H := H.below hb
  replace hst := hst.below hb
  replace hrd1 := hrd1.below hb
  replace hrd3 := hrd3.below hb
  replace hr5 := hr5.below hb
  clear hb hB21
  refine hK _ _ hC ?_
  clear hK K
  try simp only [Act.put, List.setIfInBounds_toArray, List.set_cons_zero, List.set_cons_succ]
  rw [← HGE.out]
  repeat (first | (refine wpPlanA_skip _ rfl (by rfl) ?_; simp only [Act.put, List.setIfInBounds_toArray, List.set_cons_zero, List.set_cons_succ]) | (refine wpPlanA_soft _ ?_ rfl (by rfl) ?_ ?_; rotate_left; (intro wq hq hcq; go_simp; first | exact rfl | exact ⟨rfl, rfl⟩); simp only [Act.put, List.setIfInBounds_toArray, List.set_cons_zero, List.set_cons_succ]))
  refine wpPlanA_hard _ rfl (by rfl) (fun w23 hS K hK => ?_)
  have hB23 := hB22.call hS rfl
  replace hC := hC.call hS rfl
  replace hT0 := blkb hT0 hS
  replace H := H.below hS
  replace hst := hst.below hS
  replace hrd1 := hrd1.below hS
  replace hrd3 := hrd3.below hS
  replace hr5 := hr5.below hS
  clear hS hB22
  go_simp
  refine (c30_eq hn hrd1 hrd3).mono ?_
  rintro e w24 ⟨rfl, hb⟩
  have hB24 := hB23.call hb rfl
  replace hC := hC.call hb rfl
  replace hT0 := blkb hT0 hb
  replace H := H.below hb
  replace hst := hst.below hb
  replace hrd1 := hrd1.below hb
  replace hrd3 := hrd3.below hb
  replace hr5 := hr5.below hb
  clear hb hB23
  refine hK _ _ hC ?_
  clear hK K
  try simp only [Act.put, List.setIfInBounds_toArray, List.set_cons_zero, List.set_cons_succ]
  repeat (first | (refine wpPlanA_skip _ rfl (by rfl) ?_; simp only [Act.put, List.setIfInBounds_toArray, List.set_cons_zero, List.set_cons_succ]) | (refine wpPlanA_soft _ ?_ rfl (by rfl) ?_ ?_; rotate_left; (intro wq hq hcq; go_simp; first | exact rfl | exact ⟨rfl, rfl⟩); simp only [Act.put, List.setIfInBounds_toArray, List.set_cons_zero, List.set_cons_succ]))
  refine wpPlanA_hard _ rfl (by rfl) (fun w25 hS K hK => ?_)
  have hB25 := hB24.call hS rfl
  replace hC := hC.call hS rfl
  replace hT0 := blkb hT0 hS
  replace H := H.below hS
  replace hst := hst.below hS
  replace hrd1 := hrd1.below hS
  replace hrd3 := hrd3.below hS
  replace hr5 := hr5.below hS
  clear hS hB24
  go_simp
  refine (c30_eq (Nat.zero_le _) (rd_nil _) (rd_nil _)).mono ?_
  rintro e w26 ⟨rfl, hb⟩
  have hB26 := hB25.call hb rfl
  replace hC := hC.call hb rfl
  replace hT0 := blkb hT0 hb
  replace H := H.below hb
  replace hst := hst.below hb
  replace hrd1 := hrd1.below hb
  replace hrd3 := hrd3.below hb
  replace hr5 := hr5.below hb
  clear hb hB25
  refine hK _ _ hC ?_
  clear hK K
  try simp only [Act.put, List.setIfInBounds_toArray, List.set_cons_zero, List.set_cons_succ]
  repeat (first | (refine wpPlanA_skip _ rfl (by rfl) ?_; simp only [Act.put, List.setIfInBounds_toArray, List.set_cons_zero, List.set_cons_succ]) | (refine wpPlanA_soft _ ?_ rfl (by rfl) ?_ ?_; rotate_left; (intro wq hq hcq; go_simp; first | exact rfl | exact ⟨rfl, rfl⟩); simp only [Act.put, List.setIfInBounds_toArray, List.set_cons_zero, List.set_cons_succ]))
  refine wpPlanA_hard _ rfl (by rfl) (fun w27 hS K hK => ?_)
  have hB27 := hB26.call hS rfl
  replace hC := hC.call hS rfl
  replace hT0 := blkb hT0 hS
  replace H := H.below hS
  replace hst := hst.below hS
  replace hrd1 := hrd1.below hS
  replace hrd3 := hrd3.below hS
  replace hr5 := hr5.below hS
  clear hS hB26
  go_simp
  refine (c18 _ hst).mono ?_
  rintro e w28 ⟨rfl, hb⟩
  have hB28 := hB27.call hb rfl
  replace hC := hC.call hb rfl
  replace hT0 := blkb hT0 hb
  replace H := H.below hb
  replace hst := hst.below hb
  replace hrd1 := hrd1.below hb
  replace hrd3 := hrd3.below hb
  replace hr5 := hr5.below hb
  clear hb hB27
  refine hK _ _ hC ?_
  clear hK K
  try simp only [Act.put, List.setIfInBounds_toArray, List.set_cons_zero, List.set_cons_succ]
  repeat (first | (refine wpPlanA_skip _ rfl (by rfl) ?_; simp only [Act.put, List.setIfInBounds_toArray, List.set_cons_zero, List.set_cons_succ]) | (refine wpPlanA_soft _ ?_ rfl (by rfl) ?_ ?_; rotate_left; (intro wq hq hcq; go_simp; first | exact rfl | exact ⟨rfl, rfl⟩); simp only [Act.put, List.setIfInBounds_toArray, List.set_cons_zero, List.set_cons_succ]))
  clear qhT0_0 qhT0_1 qhT0_2
  refine wpPlanA_nil (fun w29 hS => ?_)
  clear hC zhT0
  have hB29 := hB28.call hS rfl
  replace hT0 := blkb hT0 hS
  replace H := H.below hS
  replace hst := hst.below hS
  replace hrd1 := hrd1.below hS
  replace hrd3 := hrd3.below hS
  replace hr5 := hr5.below hS
  clear hS hB28
  have qhT0_0 : w29.cell? ⟨w.heap.size, 0, none⟩ = some (.int .i64 c) := cell_at hT0 rfl
  have qhT0_1 : w29.cell? ⟨w.heap.size, 1, none⟩ = some (.int .i64 r) := cell_at hT0 rfl
  have qhT0_2 : w29.cell? ⟨w.heap.size, 2, none⟩ = some (.slice A n cap) := cell_at hT0 rfl
  go_wp2
  go_ret
  exact ⟨rfl, hB29⟩

theorem l10_c (c r : Int) (A : Option Addr) (n cap : Nat) (l : List Int) (a : Int) (b : Int) (w : World) (hE1 : Mo.first [Mo.ground c r l, Mo.cell n a, Mo.cell n b] ≠ 0) (hE2 : Mo.first [Mo.ground c r l, Mo.cell n a] ≠ 0) (H : RdI w A n l) (hst : Steps w) :
   Calls Tryz.prog 10 #[.agg #[.int .i64 c, .int .i64 r, .slice A n cap], .int .i64 a, .int .i64 b] w fun en w' => en = .returned (.bool true) ∧ Below w.heap.size w w' := by
  obtain ⟨E1, he1⟩ : ∃ E, E = Mo.first [Mo.ground c r l, Mo.cell n a, Mo.cell n b] := ⟨_, rfl⟩
  have K57 : Hid (∀ (B : Option Addr) (cb : Nat) (W : World), n ≤ 1000000 → RdI W B n l → Calls Tryz.prog 57 #[.agg #[.int .i64 c, .int .i64 r, .slice B n cb], .int .i64 a, .int .i64 b] W fun en w' => en = .returned (.tuple #[.int .i64 0, .int .i64 E1]) ∧ Below W.heap.size W w') := Lib.hid (fun B cb W h1 h2 => by rw [he1]; exact c57_bad c r B n cb l a b W h1 h2 hE1)
  have K59 : Hid (∀ (B : Option Addr) (cb : Nat) (W : World), n ≤ 1000000 → RdI W B n l → Calls Tryz.prog 59 #[.agg #[.int .i64 c, .int .i64 r, .slice B n cb], .int .i64 a, .int .i64 b] W fun en w' => en = .returned (.tuple #[.slice none 0 0, .int .i64 0, .int .i64 E1]) ∧ Below W.heap.size W w') := Lib.hid (fun B cb W h1 h2 => by rw [he1]; exact c59_bad c r B n cb l a b W h1 h2 hE1)
  have K60 : Hid (∀ (S : Option Addr) (W : World), n ≤ 1000000 → RdI W A n l → RdI W S 2 [(a : Int), (b : Int)] → Calls Tryz.prog 60 #[.agg #[.int .i64 c, .int .i64 r, .slice A n cap], .slice S 2 2] W fun en w' => en = .returned (.int .i64 E1) ∧ Below W.heap.size W w') := Lib.hid (fun S W h1 h2 h3 => by rw [he1, ← Mo.cells2]; exact c60 c r A n cap l S 2 2 _ W h1 (by omega) h2 h3)
  have hn1 : (E1 == 0) = false := by rw [he1]; simpa using hE1
  clear he1 hE1
  obtain ⟨E2, he2⟩ : ∃ E, E = Mo.first [Mo.ground c r l, Mo.cell n a] := ⟨_, rfl⟩
  have K58 : Hid (∀ (B : Option Addr) (cb : Nat) (W : World), n ≤ 1000000 → RdI W B n l → Calls Tryz.prog 58 #[.agg #[.int .i64 c, .int .i64 r, .slice B n cb], .int .i64 a] W fun en w' => en = .returned (.tuple #[.slice none 0 0, .int .i64 E2]) ∧ Below W.heap.size W w') := Lib.hid (fun B cb W h1 h2 => by rw [he2]; exact c58_bad c r B n cb l a W h1 h2 hE2)
  have K60b : Hid (∀ (S : Option Addr) (W : World), n ≤ 1000000 → RdI W A n l → RdI W S 1 [(a : Int)] → Calls Tryz.prog 60 #[.agg #[.int .i64 c, .int .i64 r, .slice A n cap], .slice S 1 1] W fun en w' => en = .returned (.int .i64 E2) ∧ Below W.heap.size W w') := Lib.hid (fun S W h1 h2 h3 => by rw [he2, ← Mo.cells1]; exact c60 c r A n cap l S 1 1 _ W h1 (by omega) h2 h3)
  have hn2 : (E2 == 0) = false := by rw [he2]; simpa using hE2
  clear he2 hE2
  obtain ⟨GE, hGE⟩ : ∃ E, E = Mo.ground c r l := ⟨_, rfl⟩
  have HGE := Lib.hid hGE
  clear hGE
  obtain ⟨w0, hW⟩ : ∃ W, W = w.alloc (Obj.cells #[.int .i64 c, .int .i64 r, .slice A n cap] 24) := ⟨_, rfl⟩
  have hT0 : w0.heap[w.heap.size]? = some (.cells #[.int .i64 c, .int .i64 r, .slice A n cap] 24 (0, 0)) := by rw [hW]; exact heap_new (by simp)
  have hB0 : Below w.heap.size w w0 := by rw [hW]; exact ((Below.refl _ _).alloc (by first | omega | (simp <;> omega)) _)
  replace H := H.below hB0
  replace hst := hst.below hB0
  go_enter Tryz.func10, Tryz.ntmps10
  go_wp2_with fail
  rw [← hW]
  clear hW
  have qhT0_0 : w0.cell? ⟨w.heap.size, 0, none⟩ = some (.int .i64 c) := cell_at hT0 rfl
  have qhT0_1 : w0.cell? ⟨w.heap.size, 1, none⟩ = some (.int .i64 r) := cell_at hT0 rfl
  have qhT0_2 : w0.cell? ⟨w.heap.size, 2, none⟩ = some (.slice A n cap) := cell_at hT0 rfl
  go_wp2_with fail
  refine (c16 c r A n cap _).mono ?_
  rintro e w1 ⟨⟨b1, rfl, hP⟩, hb⟩
  clear qhT0_0 qhT0_1 qhT0_2
  have hS := hb
  have hB1 := hB0.call hS rfl
  replace hT0 := blkb hT0 hS
  replace H := H.below hS
  replace hst := hst.below hS
  clear hS hB0
  have qhT0_0 : w1.cell? ⟨w.heap.size, 0, none⟩ = some (.int .i64 c) := cell_at hT0 rfl
  have qhT0_1 : w1.cell? ⟨w.heap.size, 1, none⟩ = some (.int .i64 r) := cell_at hT0 rfl
  have qhT0_2 : w1.cell? ⟨w.heap.size, 2, none⟩ = some (.slice A n cap) := cell_at hT0 rfl
  clear hb
  have HP := Lib.hid hP
  clear hP
  cases b1
  ·
      go_wp2_with fail
      refine (c18 _ hst).mono ?_
      rintro e wz ⟨rfl, hz⟩
      go_wp2
      go_ret
      exact ⟨rfl, hB1.call hz rfl⟩
  have hn30 : n ≤ 30 := by first | exact HP.out rfl | exact HP.out trivial
  have hn : n ≤ 1000000 := by omega
  clear HP
  go_wp2_with fail
  refine (c20 c r A n cap l _ hn H).mono ?_
  rintro e w2 ⟨B1, cb1, rfl, hr1, hcb1, hcm1, hb⟩
  clear qhT0_0 qhT0_1 qhT0_2
  have hS := hb
  have hB2 := hB1.call hS rfl
  replace hT0 := blkb hT0 hS
  replace H := H.below hS
  replace hst := hst.below hS
  clear hS hB1
  have qhT0_0 : w2.cell? ⟨w.heap.size, 0, none⟩ = some (.int .i64 c) := cell_at hT0 rfl
  have qhT0_1 : w2.cell? ⟨w.heap.size, 1, none⟩ = some (.int .i64 r) := cell_at hT0 rfl
  have qhT0_2 : w2.cell? ⟨w.heap.size, 2, none⟩ = some (.slice A n cap) := cell_at hT0 rfl
  clear hb
  clear hcb1 hcm1
  go_wp2_with fail
  refine (K57.out B1 cb1 _ hn hr1).mono ?_
  rintro e w3 ⟨rfl, hb⟩
  clear qhT0_0 qhT0_1 qhT0_2
  have hS := hb
  have hB3 := hB2.call hS rfl
  replace hT0 := blkb hT0 hS
  replace H := H.below hS
  replace hst := hst.below hS
  replace hr1 := hr1.below hS
  clear hS hB2
  have qhT0_0 : w3.cell? ⟨w.heap.size, 0, none⟩ = some (.int .i64 c) := cell_at hT0 rfl
  have qhT0_1 : w3.cell? ⟨w.heap.size, 1, none⟩ = some (.int .i64 r) := cell_at hT0 rfl
  have qhT0_2 : w3.cell? ⟨w.heap.size, 2, none⟩ = some (.slice A n cap) := cell_at hT0 rfl
  clear hb
  clear hr1
  go_wp2_with fail
  refine (c20 c r A n cap l _ hn H).mono ?_
  rintro e w4 ⟨B2, cb2, rfl, hr2, hcb2, hcm2, hb⟩
  clear qhT0_0 qhT0_1 qhT0_2
  have hS := hb
  have hB4 := hB3.call hS rfl
  replace hT0 := blkb hT0 hS
  replace H := H.below hS
  replace hst := hst.below hS
  clear hS hB3
  have qhT0_0 : w4.cell? ⟨w.heap.size, 0, none⟩ = some (.int .i64 c) := cell_at hT0 rfl
  have qhT0_1 : w4.cell? ⟨w.heap.size, 1, none⟩ = some (.int .i64 r) := cell_at hT0 rfl
  have qhT0_2 : w4.cell? ⟨w.heap.size, 2, none⟩ = some (.slice A n cap) := cell_at hT0 rfl
  clear hb
  clear hcb2 hcm2
  go_wp2_with fail
  refine (K58.out B2 cb2 _ hn hr2).mono ?_
  rintro e w5 ⟨rfl, hb⟩
  clear qhT0_0 qhT0_1 qhT0_2
  have hS := hb
  have hB5 := hB4.call hS rfl
  replace hT0 := blkb hT0 hS
  replace H := H.below hS
  replace hst := hst.below hS
  replace hr2 := hr2.below hS
  clear hS hB4
  have qhT0_0 : w5.cell? ⟨w.heap.size, 0, none⟩ = some (.int .i64 c) := cell_at hT0 rfl
  have qhT0_1 : w5.cell? ⟨w.heap.size, 1, none⟩ = some (.int .i64 r) := cell_at hT0 rfl
  have qhT0_2 : w5.cell? ⟨w.heap.size, 2, none⟩ = some (.slice A n cap) := cell_at hT0 rfl
  clear hb
  clear hr2
  go_wp2_with fail
  refine (c20 c r A n cap l _ hn H).mono ?_
  rintro e w6 ⟨B3, cb3, rfl, hr3, hcb3, hcm3, hb⟩
  clear qhT0_0 qhT0_1 qhT0_2
  have hS := hb
  have hB6 := hB5.call hS rfl
  replace hT0 := blkb hT0 hS
  replace H := H.below hS
  replace hst := hst.below hS
  clear hS hB5
  have qhT0_0 : w6.cell? ⟨w.heap.size, 0, none⟩ = some (.int .i64 c) := cell_at hT0 rfl
  have qhT0_1 : w6.cell? ⟨w.heap.size, 1, none⟩ = some (.int .i64 r) := cell_at hT0 rfl
  have qhT0_2 : w6.cell? ⟨w.heap.size, 2, none⟩ = some (.slice A n cap) := cell_at hT0 rfl
  clear hb
  clear hcb3 hcm3
  go_wp2_with fail
  refine (K59.out B3 cb3 _ hn hr3).mono ?_
  rintro e w7 ⟨rfl, hb⟩
  clear qhT0_0 qhT0_1 qhT0_2
  have hS := hb
  have hB7 := hB6.call hS rfl
  replace hT0 := blkb hT0 hS
  replace H := H.below hS
  replace hst := hst.below hS
  replace hr3 := hr3.below hS
  clear hS hB6
  have qhT0_0 : w7.cell? ⟨w.heap.size, 0, none⟩ = some (.int .i64 c) := cell_at hT0 rfl
  have qhT0_1 : w7.cell? ⟨w.heap.size, 1, none⟩ = some (.int .i64 r) := cell_at hT0 rfl
  have qhT0_2 : w7.cell? ⟨w.heap.size, 2, none⟩ = some (.slice A n cap) := cell_at hT0 rfl
  clear hb
  clear hr3
  go_wp2_with fail
  refine wp_region_planJ (Φ := fun v w => ∃ b, v = .slice (some ⟨b, 0, none⟩) 1 1 ∧ w.heap[b]? = some (Obj.cells #[.int .i64 a] 3)) (J := fun ac => ac.tmps[55]?.getD undef = .int .i64 a) [(0, 1), (1, 1), (2, 1), (5, 1), (6, 1), (3, 0), (4, 0), (7, 2), (8, 0), (9, 1), (10, 1)] 7 w7.heap.size _ rfl (by kernel_rfl) (by kernel_rfl) (Nat.le_refl _) (fun _ _ d _ _ h => by cases d <;> exact h) (fun _ _ d _ _ h => by cases d <;> exact h) (fun v w w' hv hb => by obtain ⟨b, e, h⟩ := hv; exact ⟨b, e, blkb h hb⟩) ?hF ?_
  case hF =>
    intro ac wq hJ hq
    refine ⟨rfl, ?_⟩
    have hJ' := hJ
    go_simp
    try rw [hJ']
    exact ⟨_, rfl, ⟨_, rfl, heap_new rfl⟩, (Below.refl _ _).alloc (Nat.le_refl _) _⟩
  have hC : Below w7.heap.size w7 w7 := Below.refl _ _
  have zhT0 : w.heap.size < w7.heap.size := (Array.getElem?_eq_some_iff.1 hT0).1
  repeat (first | (refine wpPlanJA_skip _ rfl (by rfl) ?_; simp only [Act.put, List.setIfInBounds_toArray, List.set_cons_zero, List.set_cons_succ]) | (refine wpPlanJA_soft _ ?_ rfl (by rfl) ?_ ?_; rotate_left; (intro wq hq hcq; go_simp; first | exact rfl | exact ⟨rfl, rfl⟩); simp only [Act.put, List.setIfInBounds_toArray, List.set_cons_zero, List.set_cons_succ]))
  refine wpPlanJA_hard _ rfl rfl (by rfl) (fun w8 hS K hK => ?_)
  have hB8 := hB7.call hS rfl
  replace hC := hC.call hS rfl
  replace hT0 := blkb hT0 hS
  replace H := H.below hS
  replace hst := hst.below hS
  clear hS hB7
  go_simp
  have hb : Below w8.heap.size w8 (w8.alloc (Obj.cells #[.int .i64 a, .int .i64 b] 3)) := (Below.refl _ _).alloc (Nat.le_refl _) _
  have k1 : (w8.alloc (Obj.cells #[.int .i64 a, .int .i64 b] 3)).heap[w8.heap.size]? = some (Obj.cells #[.int .i64 a, .int .i64 b] 3) := heap_new rfl
  refine hK _ _ (hC.alloc hC.size _) hb ?_
  clear hK K
  replace hC := hC.call hb rfl
  have hB9 := hB8.call hb rfl
  replace hT0 := blkb hT0 hb
  replace H := H.below hb
  replace hst := hst.below hb
  clear hb hB8
  generalize hWn : w8.alloc (Obj.cells #[.int .i64 a, .int .i64 b] 3) = w9 at k1 hC hB9 hT0 H hst ⊢
  clear hWn
  generalize hWn : w8.heap.size = bk1 at k1 ⊢
  clear hWn
  try simp only [Act.put, List.setIfInBounds_toArray, List.set_cons_zero, List.set_cons_succ]
  repeat (first | (refine wpPlanJA_skip _ rfl (by rfl) ?_; simp only [Act.put, List.setIfInBounds_toArray, List.set_cons_zero, List.set_cons_succ]) | (refine wpPlanJA_soft _ ?_ rfl (by rfl) ?_ ?_; rotate_left; (intro wq hq hcq; go_simp; first | exact rfl | exact ⟨rfl, rfl⟩); simp only [Act.put, List.setIfInBounds_toArray, List.set_cons_zero, List.set_cons_succ]))
  refine wpPlanJA_hard _ rfl rfl (by rfl) (fun w10 hS K hK => ?_)
  have hB10 := hB9.call hS rfl
  replace hC := hC.call hS rfl
  replace hT0 := blkb hT0 hS
  replace H := H.below hS
  replace hst := hst.below hS
  replace k1 := blkb k1 hS
  clear hS hB9
  go_simp
  refine (K60.out _ _ hn H (RdS.of_block (cs := encI [(a : Int), (b : Int)]) k1 rfl)).mono ?_
  rintro e w11 ⟨rfl, hb⟩
  have hB11 := hB10.call hb rfl
  replace hC := hC.call hb rfl
  replace hT0 := blkb hT0 hb
  replace H := H.below hb
  replace hst := hst.below hb
  replace k1 := blkb k1 hb
  refine hK _ _ hC hb ?_
  clear hK K hb hB10
  try simp only [Act.put, List.setIfInBounds_toArray, List.set_cons_zero, List.set_cons_succ]
  repeat (first | (refine wpPlanJA_skip _ rfl (by rfl) ?_; simp only [Act.put, List.setIfInBounds_toArray, List.set_cons_zero, List.set_cons_succ]) | (refine wpPlanJA_soft _ ?_ rfl (by rfl) ?_ ?_; rotate_left; (intro wq hq hcq; go_simp; first | exact rfl | exact ⟨rfl, rfl⟩); simp only [Act.put, List.setIfInBounds_toArray, List.set_cons_zero, List.set_cons_succ]))
  refine wpPlanJA_float _ rfl rfl (fun v w12 hS hv => ?_)
  obtain ⟨bk2, rfl, k2⟩ := hv
  have hB12 := hB11.call hS rfl
  replace hC := hC.call hS rfl
  replace hT0 := blkb hT0 hS
  replace H := H.below hS
  replace hst := hst.below hS
  replace k1 := blkb k1 hS
  clear hS hB11
  try simp only [Act.put, List.setIfInBounds_toArray, List.set_cons_zero, List.set_cons_succ]
  repeat (first | (refine wpPlanJA_skip _ rfl (by rfl) ?_; simp only [Act.put, List.setIfInBounds_toArray, List.set_cons_zero, List.set_cons_succ]) | (refine wpPlanJA_soft _ ?_ rfl (by rfl) ?_ ?_; rotate_left; (intro wq hq hcq; go_simp; first | exact rfl | exact ⟨rfl, rfl⟩); simp only [Act.put, List.setIfInBounds_toArray, List.set_cons_zero, List.set_cons_succ]))
  refine wpPlanJA_hard _ rfl rfl (by rfl) (fun w13 hS K hK => ?_)
  have hB13 := hB12.call hS rfl
  replace hC := hC.call hS rfl
  replace hT0 := blkb hT0 hS
  replace H := H.below hS
  replace hst := hst.below hS
  replace k1 := blkb k1 hS
  replace k2 := blkb k2 hS
  clear hS hB12
  go_simp
  refine (K60b.out _ _ hn H (RdS.of_block (cs := encI [(a : Int)]) k2 rfl)).mono ?_
  rintro e w14 ⟨rfl, hb⟩
  have hB14 := hB13.call hb rfl
  replace hC := hC.call hb rfl
  replace hT0 := blkb hT0 hb
  replace H := H.below hb
  replace hst := hst.below hb
  replace k1 := blkb k1 hb
  replace k2 := blkb k2 hb
  refine hK _ _ hC hb ?_
  clear hK K hb hB13
  try simp only [Act.put, List.setIfInBounds_toArray, List.set_cons_zero, List.set_cons_succ]
  repeat (first | (refine wpPlanJA_skip _ rfl (by rfl) ?_; simp only [Act.put, List.setIfInBounds_toArray, List.set_cons_zero, List.set_cons_succ]) | (refine wpPlanJA_soft _ ?_ rfl (by rfl) ?_ ?_; rotate_left; (intro wq hq hcq; go_simp; first | exact rfl | exact ⟨rfl, rfl⟩); simp only [Act.put, List.setIfInBounds_toArray, List.set_cons_zero, List.set_cons_succ]))
  clear k1
  clear k2
  clear qhT0_0 qhT0_1 qhT0_2
  refine wpPlanJA_nil (fun w15 hS => ?_)
  clear hC zhT0
  have hB15 := hB14.call hS rfl
  replace hT0 := blkb hT0 hS
  replace H := H.below hS
  replace hst := hst.below hS
  clear hS hB14
  have qhT0_0 : w15.cell? ⟨w.heap.size, 0, none⟩ = some (.int .i64 c) := cell_at hT0 rfl
  have qhT0_1 : w15.cell? ⟨w.heap.size, 1, none⟩ = some (.int .i64 r) := cell_at hT0 rfl
  have qhT0_2 : w15.cell? ⟨w.heap.size, 2, none⟩ = some (.slice A n cap) := cell_at hT0 rfl
  go_wp2_with fail
  refine wp_region_plan [(0, true), (3, true), (1, false), (2, false), (4, false), (5, true), (6, true), (7, true), (8, true), (9, true), (10, true), (11, true), (12, true), (13, true), (14, true), (15, true), (16, true), (17, true), (18, true), (19, false), (20, true), (21, true), (22, true), (23, true), (24, true), (25, true), (26, true), (27, true), (28, true), (29, false), (30, true), (31, true), (32, true), (33, true), (34, true), (35, true), (36, true), (37, true), (38, true), (39, true), (40, true), (41, true), (42, false), (43, true), (44, true)] w15.heap.size (by kernel_rfl) (by kernel_rfl) (Nat.le_refl _) (fun _ _ d _ _ h => by cases d <;> exact h) ?_
  have hC : Below w15.heap.size w15 w15 := Below.refl _ _
  have zhT0 : w.heap.size < w15.heap.size := (Array.getElem?_eq_some_iff.1 hT0).1
  repeat (first | (refine wpPlanA_skip _ rfl (by rfl) ?_; simp only [Act.put, List.setIfInBounds_toArray, List.set_cons_zero, List.set_cons_succ]) | (refine wpPlanA_soft _ ?_ rfl (by rfl) ?_ ?_; rotate_left; (intro wq hq hcq; go_simp; first | exact rfl | exact ⟨rfl, rfl⟩); simp only [Act.put, List.setIfInBounds_toArray, List.set_cons_zero, List.set_cons_succ]))
  refine wpPlanA_hard _ rfl (by rfl) (fun w16 hS K hK => ?_)
  have hB16 := hB15.call hS rfl
  replace hC := hC.call hS rfl
  replace hT0 := blkb hT0 hS
  replace H := H.below hS
  replace hst := hst.below hS
  clear hS hB15
  go_simp
  refine (c20 c r A n cap l _ hn H).mono ?_
  rintro e w17 ⟨B5, cb5, rfl, hr5, hcb5, hcm5, hb⟩
  have hB17 := hB16.call hb rfl
  replace hC := hC.call hb rfl
  replace hT0 := blkb hT0 hb
  replace H := H.below hb
  replace hst := hst.below hb
  clear hb hB16
  refine hK _ _ hC ?_
  clear hK K
  try simp only [Act.put, List.setIfInBounds_toArray, List.set_cons_zero, List.set_cons_succ]
  clear hcb5 hcm5
  repeat (first | (refine wpPlanA_skip _ rfl (by rfl) ?_; simp only [Act.put, List.setIfInBounds_toArray, List.set_cons_zero, List.set_cons_succ]) | (refine wpPlanA_soft _ ?_ rfl (by rfl) ?_ ?_; rotate_left; (intro wq hq hcq; go_simp; first | exact rfl | exact ⟨rfl, rfl⟩); simp only [Act.put, List.setIfInBounds_toArray, List.set_cons_zero, List.set_cons_succ]))
  refine wpPlanA_hard _ rfl (by rfl) (fun w18 hS K hK => ?_)
  have hB18 := hB17.call hS rfl
  replace hC := hC.call hS rfl
  replace hT0 := blkb hT0 hS
  replace H := H.below hS
  replace hst := hst.below hS
  replace hr5 := hr5.below hS
  clear hS hB17
  go_simp
  refine (c64 c r B5 n cb5 l _ hn hr5).mono ?_
  rintro e w19 ⟨rfl, hb⟩
  have hB19 := hB18.call hb rfl
  replace hC := hC.call hb rfl
  replace hT0 := blkb hT0 hb
  replace H := H.below hb
  replace hst := hst.below hb
  replace hr5 := hr5.below hb
  clear hb hB18
  refine hK _ _ hC ?_
  clear hK K
  try simp only [Act.put, List.setIfInBounds_toArray, List.set_cons_zero, List.set_cons_succ]
  rw [← HGE.out]
  repeat (first | (refine wpPlanA_skip _ rfl (by rfl) ?_; simp only [Act.put, List.setIfInBounds_toArray, List.set_cons_zero, List.set_cons_succ]) | (refine wpPlanA_soft _ ?_ rfl (by rfl) ?_ ?_; rotate_left; (intro wq hq hcq; go_simp; first | exact rfl | exact ⟨rfl, rfl⟩); simp only [Act.put, List.setIfInBounds_toArray, List.set_cons_zero, List.set_cons_succ]))
  refine wpPlanA_hard _ rfl (by rfl) (fun w20 hS K hK => ?_)
  have hB20 := hB19.call hS rfl
  replace hC := hC.call hS rfl
  replace hT0 := blkb hT0 hS
  replace H := H.below hS
  replace hst := hst.below hS
  replace hr5 := hr5.below hS
  clear hS hB19
  go_simp
  refine (c65 c r A n cap l _ hn H).mono ?_
  rintro e w21 ⟨rfl, hb⟩
  have hB21 := hB20.call hb rfl
  replace hC := hC.call hb rfl
  replace hT0 := blkb hT0 hb
  replace H := H.below hb
  replace hst := hst.below hb
  replace hr5 := hr5.below hb
  clear hb hB20
  refine hK _ _ hC ?_
  clear hK K
  try simp only [Act.put, List.setIfInBounds_toArray, List.set_cons_zero, List.set_cons_succ]
  rw [← HGE.out]
  repeat (first | (refine wpPlanA_skip _ rfl (by rfl) ?_; simp only [Act.put, List.setIfInBounds_toArray, List.set_cons_zero, List.set_cons_succ]) | (refine wpPlanA_soft _ ?_ rfl (by rfl) ?_ ?_; rotate_left; (intro wq hq hcq; go_simp; first | exact rfl | exact ⟨rfl, rfl⟩); simp only [Act.put, List.setIfInBounds_toArray, List.set_cons_zero, List.set_cons_succ]))
  refine wpPlanA_hard _ rfl (by rfl) (fun w22 hS K hK => ?_)
  have hB22 := hB21.call hS rfl
  replace hC := hC.call hS rfl
  replace hT0 := blkb hT0 hS
  replace H := H.below hS
  replace hst := hst.below hS
  replace hr5 := hr5.below hS
  clear hS hB21
  go_simp
  refine (c30_eq (Nat.zero_le _) (rd_nil _) (rd_nil _)).mono ?_
  rintro e w23 ⟨rfl, hb⟩
  have hB23 := hB22.call hb rfl
  replace hC := hC.call hb rfl
  replace hT0 := blkb hT0 hb
  replace H := H.below hb
  replace hst := hst.below hb
  replace hr5 := hr5.below hb
  clear hb hB22
  refine hK _ _ hC ?_
  clear hK K
  try simp only [Act.put, List.setIfInBounds_toArray, List.set_cons_zero, List.set_cons_succ]
  repeat (first | (refine wpPlanA_skip _ rfl (by rfl) ?_; simp only [Act.put, List.setIfInBounds_toArray, List.set_cons_zero, List.set_cons_succ]) | (refine wpPlanA_soft _ ?_ rfl (by rfl) ?_ ?_; rotate_left; (intro wq hq hcq; go_simp; first | exact rfl | exact ⟨rfl, rfl⟩); simp only [Act.put, List.setIfInBounds_toArray, List.set_cons_zero, List.set_cons_succ]))
  refine wpPlanA_hard _ rfl (by rfl) (fun w24 hS K hK => ?_)
  have hB24 := hB23.call hS rfl
  replace hC := hC.call hS rfl
  replace hT0 := blkb hT0 hS
  replace H := H.below hS
  replace hst := hst.below hS
  replace hr5 := hr5.below hS
  clear hS hB23
  go_simp
  refine (c30_eq (Nat.zero_le _) (rd_nil _) (rd_nil _)).mono ?_
  rintro e w25 ⟨rfl, hb⟩
  have hB25 := hB24.call hb rfl
  replace hC := hC.call hb rfl
  replace hT0 := blkb hT0 hb
  replace H := H.below hb
  replace hst := hst.below hb
  replace hr5 := hr5.below hb
  clear hb hB24
  refine hK _ _ hC ?_
  clear hK K
  try simp only [Act.put, List.setIfInBounds_toArray, List.set_cons_zero, List.set_cons_succ]
  repeat (first | (refine wpPlanA_skip _ rfl (by rfl) ?_; simp only [Act.put, List.setIfInBounds_toArray, List.set_cons_zero, List.set_cons_succ]) | (refine wpPlanA_soft _ ?_ rfl (by rfl) ?_ ?_; rotate_left; (intro wq hq hcq; go_simp; first | exact rfl | exact ⟨rfl, rfl⟩); simp only [Act.put, List.setIfInBounds_toArray, List.set_cons_zero, List.set_cons_succ]))
  refine wpPlanA_hard _ rfl (by rfl) (fun w26 hS K hK => ?_)
  have hB26 := hB25.call hS rfl
  replace hC := hC.call hS rfl
  replace hT0 := blkb hT0 hS
  replace H := H.below hS
  replace hst := hst.below hS
  replace hr5 := hr5.below hS
  clear hS hB25
  go_simp
  refine (c18 _ hst).mono ?_
  rintro e w27 ⟨rfl, hb⟩
  have hB27 := hB26.call hb rfl
  replace hC := hC.call hb rfl
  replace hT0 := blkb hT0 hb
  replace H := H.below hb
  replace hst := hst.below hb
  replace hr5 := hr5.below hb
  clear hb hB26
  refine hK _ _ hC ?_
  clear hK K
  try simp only [Act.put, List.setIfInBounds_toArray, List.set_cons_zero, List.set_cons_succ]
  repeat (first | (refine wpPlanA_skip _ rfl (by rfl) ?_; simp only [Act.put, List.setIfInBounds_toArray, List.set_cons_zero, List.set_cons_succ]) | (refine wpPlanA_soft _ ?_ rfl (by rfl) ?_ ?_; rotate_left; (intro wq hq hcq; go_simp; first | exact rfl | exact ⟨rfl, rfl⟩); simp only [Act.put, List.setIfInBounds_toArray, List.set_cons_zero, List.set_cons_succ]))
  clear qhT0_0 qhT0_1 qhT0_2
  refine wpPlanA_nil (fun w28 hS => ?_)
  clear hC zhT0
  have hB28 := hB27.call hS rfl
  replace hT0 := blkb hT0 hS
  replace H := H.below hS
  replace hst := hst.below hS
  replace hr5 := hr5.below hS
  clear hS hB27
  have qhT0_0 : w28.cell? ⟨w.heap.size, 0, none⟩ = some (.int .i64 c) := cell_at hT0 rfl
  have qhT0_1 : w28.cell? ⟨w.heap.size, 1, none⟩ = some (.int .i64 r) := cell_at hT0 rfl
  have qhT0_2 : w28.cell? ⟨w.heap.size, 2, none⟩ = some (.slice A n cap) := cell_at hT0 rfl
  go_wp2
  go_ret
  exact ⟨rfl, hB28⟩

theorem l10 (c r : Int) (A : Option Addr) (n cap : Nat) (l : List Int) (a b : Int) (w : World) (H : RdI w A n l) (hst : Steps w) :
   Calls Tryz.prog 10 #[.agg #[.int .i64 c, .int .i64 r, .slice A n cap], .int .i64 a, .int .i64 b] w fun en w' => en = .returned (.bool true) ∧ Below w.heap.size w w' := by
  by_cases h2 : Mo.first [Mo.ground c r l, Mo.cell n a] = 0
  · have hg := Mo.first_zero h2 (Mo.ground c r l) (by simp)
    have ha := Mo.cell_ok.1 (Mo.first_zero h2 (Mo.cell n a) (by simp))
    obtain ⟨c, r, rfl, rfl, hc, hr, g⟩ := Mo.ground_ok hg
    obtain ⟨a, rfl⟩ : ∃ k : Nat, a = k := ⟨a.toNat, by omega⟩
    by_cases h1 : Mo.first [Mo.ground c r l, Mo.cell n a, Mo.cell n b] = 0
    · have hb := Mo.cell_ok.1 (Mo.first_zero h1 (Mo.cell n b) (by simp))
      obtain ⟨b, rfl⟩ : ∃ k : Nat, b = k := ⟨b.toNat, by omega⟩
      exact l10_a c r A n cap l a b w g hc hr (by omega) (by omega) H hst
    · exact l10_b c r A n cap l a b w g hc hr (by omega) h1 H hst
  · have h1 : Mo.first [Mo.ground c r l, Mo.cell n a, Mo.cell n b] ≠ 0 := fun h => h2 (first2 (Mo.first_zero h (Mo.ground c r l) (by simp)) (Mo.first_zero h (Mo.cell n a) (by simp)))
    exact l10_c c r A n cap l a b w h1 h2 H hst

end Go.Proofs.YtdimmlljjmmdbaaGreatDoor
