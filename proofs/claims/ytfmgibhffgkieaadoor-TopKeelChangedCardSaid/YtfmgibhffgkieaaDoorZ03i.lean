/- A part of the proofs about traces, tides and horizons: contracts of functions and plain laws (K43). -/
import Derived.Test.YtfmgibhffgkieaaDoorZ03g
import Derived.Test.YtfmgibhffgkieaaDoorZ03h
set_option linter.all false
namespace Go.Proofs.YtfmgibhffgkieaaDoor
open Go.RowKit Go.Shelf
set_option maxHeartbeats 200000000
set_option maxRecDepth 100000
attribute [local go_sem] Oper.semAt_some
theorem l3_neg (A : Option Addr) (n cap : Nat) (ts : List Int) (xs : Nat → Int) (e0 e1 d0 d1 n0 n1 : Int) (w : World) (HR : Rng w) (hn : 1 ≤ n ∧ n ≤ 6) (H : RdS w 1 A n (ts.map (Value.int .u8))) (hts : ∀ x ∈ ts, 0 ≤ x ∧ x ≤ 255) (he0 : 0 ≤ e0 ∧ e0 ≤ 255) (he1 : 0 ≤ e1 ∧ e1 ≤ 255) (hn0 : 0 ≤ n0 ∧ n0 ≤ 255) (hn1 : 0 ≤ n1 ∧ n1 ≤ 255) (hgt : 39 < tmF ts ((wrap64 n0).tmod (n : Int)).toNat + (wrap64 n1).tmod 20) :
  Calls Tryd.prog 3 #[.agg #[.slice A n cap, .int .u8 e0, .int .u8 e1, .int .i8 (xs 0), .int .i8 (xs 1), .int .i8 (xs 2), .int .i8 (xs 3), .int .i8 (xs 4), .int .i8 (xs 5), .int .i8 (xs 6), .int .i8 (xs 7), .int .i8 (xs 8), .int .i8 (xs 9), .int .i8 (xs 10), .int .i8 (xs 11), .int .i8 d0, .int .i8 d1], .agg #[.int .u8 n0, .int .u8 n1]] w fun en w' => en = .returned (.bool true) ∧ Below w.heap.size w w' := by
 have HN := Lib.hid hn
 have HLT : Hid (ts.length = n) := Lib.hid (by have := H.1; simpa using this)
 have HTS := Lib.hid hts
 have HE0 := Lib.hid he0
 have HE1 := Lib.hid he1
 obtain ⟨at0, hat, hat2⟩ : ∃ a : Nat, (wrap64 n0).tmod (n : Int) = (a : Int) ∧ a < n := by
  rw [wrap64_ok (by omega)]
  have h1 := Int.tmod_lt_of_pos n0 (by omega : (0 : Int) < (n : Int))
  have h2 := Int.tmod_nonneg (n : Int) hn0.1
  exact ⟨(n0.tmod n).toNat, by omega, by omega⟩
 obtain ⟨cg, hcg, hcg2⟩ : ∃ c : Int, (wrap64 n1).tmod 20 = c ∧ 0 ≤ c ∧ c ≤ 19 := by
  rw [wrap64_ok (by omega)]
  have h1 := Int.tmod_lt_of_pos n1 (by omega : (0 : Int) < 20)
  have h2 := Int.tmod_nonneg 20 hn1.1
  exact ⟨_, rfl, by omega, by omega⟩
 rw [hat, hcg, Int.toNat_natCast] at hgt
 have HGT := Lib.hid hgt
 have HAT := Lib.hid (⟨hat, hat2⟩ : _ ∧ _)
 have HCG := Lib.hid (⟨hcg, hcg2⟩ : _ ∧ _)
 clear hn hts he0 he1 hn0 hn1 hat hat2 hcg hcg2 hgt
 obtain ⟨w0, hW⟩ : ∃ W, W = (w.alloc (Obj.cells #[.slice A n cap, .int .u8 e0, .int .u8 e1, .int .i8 (xs 0), .int .i8 (xs 1), .int .i8 (xs 2), .int .i8 (xs 3), .int .i8 (xs 4), .int .i8 (xs 5), .int .i8 (xs 6), .int .i8 (xs 7), .int .i8 (xs 8), .int .i8 (xs 9), .int .i8 (xs 10), .int .i8 (xs 11), .int .i8 d0, .int .i8 d1] 29)).alloc (Obj.cells #[.int .u8 n0, .int .u8 n1] 23) := ⟨_, rfl⟩
 have hT0 : w0.heap[w.heap.size]? = some (.cells #[.slice A n cap, .int .u8 e0, .int .u8 e1, .int .i8 (xs 0), .int .i8 (xs 1), .int .i8 (xs 2), .int .i8 (xs 3), .int .i8 (xs 4), .int .i8 (xs 5), .int .i8 (xs 6), .int .i8 (xs 7), .int .i8 (xs 8), .int .i8 (xs 9), .int .i8 (xs 10), .int .i8 (xs 11), .int .i8 d0, .int .i8 d1] 29 (0, 0)) := by rw [hW]; exact heap_old (by simp <;> omega) (heap_new (by simp))
 have hT1 : w0.heap[w.heap.size + 1]? = some (.cells #[.int .u8 n0, .int .u8 n1] 23 (0, 0)) := by rw [hW]; exact heap_new (by simp)
 have hB0 : Below w.heap.size w w0 := by rw [hW]; exact (((Below.refl _ _).alloc (by first | omega | (simp <;> omega)) _).alloc (by first | omega | (simp <;> omega)) _)
 replace HR := HR.below hB0
 replace H := H.below hB0
 go_enter Tryd.func3, Tryd.ntmps3
 go_wp2_with fail
 rw [← hW]
 clear hW
 have qhT0_0 : w0.cell? ⟨w.heap.size, 0, none⟩ = some (.slice A n cap) := cell_at hT0 rfl
 have qhT0_1 : w0.cell? ⟨w.heap.size, 1, none⟩ = some (.int .u8 e0) := cell_at hT0 rfl
 have qhT0_2 : w0.cell? ⟨w.heap.size, 2, none⟩ = some (.int .u8 e1) := cell_at hT0 rfl
 have qhT0_3 : w0.cell? ⟨w.heap.size, 3, none⟩ = some (.int .i8 (xs 0)) := cell_at hT0 rfl
 have qhT0_4 : w0.cell? ⟨w.heap.size, 4, none⟩ = some (.int .i8 (xs 1)) := cell_at hT0 rfl
 have qhT0_5 : w0.cell? ⟨w.heap.size, 5, none⟩ = some (.int .i8 (xs 2)) := cell_at hT0 rfl
 have qhT0_6 : w0.cell? ⟨w.heap.size, 6, none⟩ = some (.int .i8 (xs 3)) := cell_at hT0 rfl
 have qhT0_7 : w0.cell? ⟨w.heap.size, 7, none⟩ = some (.int .i8 (xs 4)) := cell_at hT0 rfl
 have qhT0_8 : w0.cell? ⟨w.heap.size, 8, none⟩ = some (.int .i8 (xs 5)) := cell_at hT0 rfl
 have qhT0_9 : w0.cell? ⟨w.heap.size, 9, none⟩ = some (.int .i8 (xs 6)) := cell_at hT0 rfl
 have qhT0_10 : w0.cell? ⟨w.heap.size, 10, none⟩ = some (.int .i8 (xs 7)) := cell_at hT0 rfl
 have qhT0_11 : w0.cell? ⟨w.heap.size, 11, none⟩ = some (.int .i8 (xs 8)) := cell_at hT0 rfl
 have qhT0_12 : w0.cell? ⟨w.heap.size, 12, none⟩ = some (.int .i8 (xs 9)) := cell_at hT0 rfl
 have qhT0_13 : w0.cell? ⟨w.heap.size, 13, none⟩ = some (.int .i8 (xs 10)) := cell_at hT0 rfl
 have qhT0_14 : w0.cell? ⟨w.heap.size, 14, none⟩ = some (.int .i8 (xs 11)) := cell_at hT0 rfl
 have qhT0_15 : w0.cell? ⟨w.heap.size, 15, none⟩ = some (.int .i8 d0) := cell_at hT0 rfl
 have qhT0_16 : w0.cell? ⟨w.heap.size, 16, none⟩ = some (.int .i8 d1) := cell_at hT0 rfl
 have qhT1_0 : w0.cell? ⟨w.heap.size + 1, 0, none⟩ = some (.int .u8 n0) := cell_at hT1 rfl
 have qhT1_1 : w0.cell? ⟨w.heap.size + 1, 1, none⟩ = some (.int .u8 n1) := cell_at hT1 rfl
 obtain ⟨G1, hG⟩ : ∃ G : Value, G = .agg #[.slice A n cap, .int .u8 e0, .int .u8 e1, .int .i8 (xs 0), .int .i8 (xs 1), .int .i8 (xs 2), .int .i8 (xs 3), .int .i8 (xs 4), .int .i8 (xs 5), .int .i8 (xs 6), .int .i8 (xs 7), .int .i8 (xs 8), .int .i8 (xs 9), .int .i8 (xs 10), .int .i8 (xs 11), .int .i8 d0, .int .i8 d1] := ⟨_, rfl⟩
 rw [← hG]
 clear hG
 as_aux_lemma =>
  go_wp2_with fail
  refine (c4 _ HR).mono ?_
  rintro e w1 ⟨rfl, hb⟩
  clear qhT0_0 qhT0_1 qhT0_2 qhT0_3 qhT0_4 qhT0_5 qhT0_6 qhT0_7 qhT0_8 qhT0_9 qhT0_10 qhT0_11 qhT0_12 qhT0_13 qhT0_14 qhT0_15 qhT0_16 qhT1_0 qhT1_1
  have hS := hb
  have hB1 := hB0.call hS rfl
  replace hT0 := blkb hT0 hS
  replace hT1 := blkb hT1 hS
  replace HR := HR.below hS
  replace H := H.below hS
  clear hS hB0
  have qhT0_0 : w1.cell? ⟨w.heap.size, 0, none⟩ = some (.slice A n cap) := cell_at hT0 rfl
  have qhT0_1 : w1.cell? ⟨w.heap.size, 1, none⟩ = some (.int .u8 e0) := cell_at hT0 rfl
  have qhT0_2 : w1.cell? ⟨w.heap.size, 2, none⟩ = some (.int .u8 e1) := cell_at hT0 rfl
  have qhT0_3 : w1.cell? ⟨w.heap.size, 3, none⟩ = some (.int .i8 (xs 0)) := cell_at hT0 rfl
  have qhT0_4 : w1.cell? ⟨w.heap.size, 4, none⟩ = some (.int .i8 (xs 1)) := cell_at hT0 rfl
  have qhT0_5 : w1.cell? ⟨w.heap.size, 5, none⟩ = some (.int .i8 (xs 2)) := cell_at hT0 rfl
  have qhT0_6 : w1.cell? ⟨w.heap.size, 6, none⟩ = some (.int .i8 (xs 3)) := cell_at hT0 rfl
  have qhT0_7 : w1.cell? ⟨w.heap.size, 7, none⟩ = some (.int .i8 (xs 4)) := cell_at hT0 rfl
  have qhT0_8 : w1.cell? ⟨w.heap.size, 8, none⟩ = some (.int .i8 (xs 5)) := cell_at hT0 rfl
  have qhT0_9 : w1.cell? ⟨w.heap.size, 9, none⟩ = some (.int .i8 (xs 6)) := cell_at hT0 rfl
  have qhT0_10 : w1.cell? ⟨w.heap.size, 10, none⟩ = some (.int .i8 (xs 7)) := cell_at hT0 rfl
  have qhT0_11 : w1.cell? ⟨w.heap.size, 11, none⟩ = some (.int .i8 (xs 8)) := cell_at hT0 rfl
  have qhT0_12 : w1.cell? ⟨w.heap.size, 12, none⟩ = some (.int .i8 (xs 9)) := cell_at hT0 rfl
  have qhT0_13 : w1.cell? ⟨w.heap.size, 13, none⟩ = some (.int .i8 (xs 10)) := cell_at hT0 rfl
  have qhT0_14 : w1.cell? ⟨w.heap.size, 14, none⟩ = some (.int .i8 (xs 11)) := cell_at hT0 rfl
  have qhT0_15 : w1.cell? ⟨w.heap.size, 15, none⟩ = some (.int .i8 d0) := cell_at hT0 rfl
  have qhT0_16 : w1.cell? ⟨w.heap.size, 16, none⟩ = some (.int .i8 d1) := cell_at hT0 rfl
  have qhT1_0 : w1.cell? ⟨w.heap.size + 1, 0, none⟩ = some (.int .u8 n0) := cell_at hT1 rfl
  have qhT1_1 : w1.cell? ⟨w.heap.size + 1, 1, none⟩ = some (.int .u8 n1) := cell_at hT1 rfl
  clear hb
  as_aux_lemma =>
   go_wp2_with fail
   refine (c5_ok A n cap xs e0 e1 d0 d1 _ HN.out).mono ?_
   rintro e w2 ⟨rfl, hb⟩
   clear qhT0_0 qhT0_1 qhT0_2 qhT0_3 qhT0_4 qhT0_5 qhT0_6 qhT0_7 qhT0_8 qhT0_9 qhT0_10 qhT0_11 qhT0_12 qhT0_13 qhT0_14 qhT0_15 qhT0_16 qhT1_0 qhT1_1
   have hS := hb
   have hB2 := hB1.call hS rfl
   replace hT0 := blkb hT0 hS
   replace hT1 := blkb hT1 hS
   replace HR := HR.below hS
   replace H := H.below hS
   clear hS hB1
   have qhT0_0 : w2.cell? ⟨w.heap.size, 0, none⟩ = some (.slice A n cap) := cell_at hT0 rfl
   have qhT0_1 : w2.cell? ⟨w.heap.size, 1, none⟩ = some (.int .u8 e0) := cell_at hT0 rfl
   have qhT0_2 : w2.cell? ⟨w.heap.size, 2, none⟩ = some (.int .u8 e1) := cell_at hT0 rfl
   have qhT0_3 : w2.cell? ⟨w.heap.size, 3, none⟩ = some (.int .i8 (xs 0)) := cell_at hT0 rfl
   have qhT0_4 : w2.cell? ⟨w.heap.size, 4, none⟩ = some (.int .i8 (xs 1)) := cell_at hT0 rfl
   have qhT0_5 : w2.cell? ⟨w.heap.size, 5, none⟩ = some (.int .i8 (xs 2)) := cell_at hT0 rfl
   have qhT0_6 : w2.cell? ⟨w.heap.size, 6, none⟩ = some (.int .i8 (xs 3)) := cell_at hT0 rfl
   have qhT0_7 : w2.cell? ⟨w.heap.size, 7, none⟩ = some (.int .i8 (xs 4)) := cell_at hT0 rfl
   have qhT0_8 : w2.cell? ⟨w.heap.size, 8, none⟩ = some (.int .i8 (xs 5)) := cell_at hT0 rfl
   have qhT0_9 : w2.cell? ⟨w.heap.size, 9, none⟩ = some (.int .i8 (xs 6)) := cell_at hT0 rfl
   have qhT0_10 : w2.cell? ⟨w.heap.size, 10, none⟩ = some (.int .i8 (xs 7)) := cell_at hT0 rfl
   have qhT0_11 : w2.cell? ⟨w.heap.size, 11, none⟩ = some (.int .i8 (xs 8)) := cell_at hT0 rfl
   have qhT0_12 : w2.cell? ⟨w.heap.size, 12, none⟩ = some (.int .i8 (xs 9)) := cell_at hT0 rfl
   have qhT0_13 : w2.cell? ⟨w.heap.size, 13, none⟩ = some (.int .i8 (xs 10)) := cell_at hT0 rfl
   have qhT0_14 : w2.cell? ⟨w.heap.size, 14, none⟩ = some (.int .i8 (xs 11)) := cell_at hT0 rfl
   have qhT0_15 : w2.cell? ⟨w.heap.size, 15, none⟩ = some (.int .i8 d0) := cell_at hT0 rfl
   have qhT0_16 : w2.cell? ⟨w.heap.size, 16, none⟩ = some (.int .i8 d1) := cell_at hT0 rfl
   have qhT1_0 : w2.cell? ⟨w.heap.size + 1, 0, none⟩ = some (.int .u8 n0) := cell_at hT1 rfl
   have qhT1_1 : w2.cell? ⟨w.heap.size + 1, 1, none⟩ = some (.int .u8 n1) := cell_at hT1 rfl
   clear hb
   have hn0' : ¬ ((n : Int) = 0) := by have := HN.out; omega
   have hn0'' : ¬ (n = 0) := by have := HN.out; omega
   go_wp2_with fail
   obtain ⟨G2, hG⟩ : ∃ G : Value, G = .agg #[.slice A n cap, .int .u8 e0, .int .u8 e1, .int .i8 (xs 0), .int .i8 (xs 1), .int .i8 (xs 2), .int .i8 (xs 3), .int .i8 (xs 4), .int .i8 (xs 5), .int .i8 (xs 6), .int .i8 (xs 7), .int .i8 (xs 8), .int .i8 (xs 9), .int .i8 (xs 10), .int .i8 (xs 11), .int .i8 d0, .int .i8 d1] := ⟨_, rfl⟩
   rw [← hG]
   clear hG
   as_aux_lemma =>
    refine wp_region_plan [(0, true), (1, true), (2, true), (3, true), (4, true), (5, true), (6, true), (7, true), (8, true), (9, true), (10, true), (11, true), (12, true)] w2.heap.size (by kernel_rfl) (by kernel_rfl) (Nat.le_refl _) (fun _ _ d _ _ h => by cases d <;> exact h) ?_
    have hC : Below w2.heap.size w2 w2 := Below.refl _ _
    have zhT0 : w.heap.size < w2.heap.size := (Array.getElem?_eq_some_iff.1 hT0).1
    have zhT1 : w.heap.size + 1 < w2.heap.size := (Array.getElem?_eq_some_iff.1 hT1).1
    repeat (first | (refine wpPlanA_skip _ rfl (by rfl) ?_; simp only [Act.put, List.setIfInBounds_toArray, List.set_cons_zero, List.set_cons_succ]) | (refine wpPlanA_soft _ ?_ rfl (by rfl) ?_ ?_; rotate_left; (intro wq hq hcq; go_simp; first | exact rfl | exact ⟨rfl, rfl⟩); simp only [Act.put, List.setIfInBounds_toArray, List.set_cons_zero, List.set_cons_succ]))
    clear qhT0_0 qhT0_1 qhT0_2 qhT0_3 qhT0_4 qhT0_5 qhT0_6 qhT0_7 qhT0_8 qhT0_9 qhT0_10 qhT0_11 qhT0_12 qhT0_13 qhT0_14 qhT0_15 qhT0_16 qhT1_0 qhT1_1
    refine wpPlanA_nil (fun w3 hS => ?_)
    clear hC zhT0 zhT1
    have hB3 := hB2.call hS rfl
    replace hT0 := blkb hT0 hS
    replace hT1 := blkb hT1 hS
    replace HR := HR.below hS
    replace H := H.below hS
    clear hS hB2
    have qhT0_0 : w3.cell? ⟨w.heap.size, 0, none⟩ = some (.slice A n cap) := cell_at hT0 rfl
    have qhT0_1 : w3.cell? ⟨w.heap.size, 1, none⟩ = some (.int .u8 e0) := cell_at hT0 rfl
    have qhT0_2 : w3.cell? ⟨w.heap.size, 2, none⟩ = some (.int .u8 e1) := cell_at hT0 rfl
    have qhT0_3 : w3.cell? ⟨w.heap.size, 3, none⟩ = some (.int .i8 (xs 0)) := cell_at hT0 rfl
    have qhT0_4 : w3.cell? ⟨w.heap.size, 4, none⟩ = some (.int .i8 (xs 1)) := cell_at hT0 rfl
    have qhT0_5 : w3.cell? ⟨w.heap.size, 5, none⟩ = some (.int .i8 (xs 2)) := cell_at hT0 rfl
    have qhT0_6 : w3.cell? ⟨w.heap.size, 6, none⟩ = some (.int .i8 (xs 3)) := cell_at hT0 rfl
    have qhT0_7 : w3.cell? ⟨w.heap.size, 7, none⟩ = some (.int .i8 (xs 4)) := cell_at hT0 rfl
    have qhT0_8 : w3.cell? ⟨w.heap.size, 8, none⟩ = some (.int .i8 (xs 5)) := cell_at hT0 rfl
    have qhT0_9 : w3.cell? ⟨w.heap.size, 9, none⟩ = some (.int .i8 (xs 6)) := cell_at hT0 rfl
    have qhT0_10 : w3.cell? ⟨w.heap.size, 10, none⟩ = some (.int .i8 (xs 7)) := cell_at hT0 rfl
    have qhT0_11 : w3.cell? ⟨w.heap.size, 11, none⟩ = some (.int .i8 (xs 8)) := cell_at hT0 rfl
    have qhT0_12 : w3.cell? ⟨w.heap.size, 12, none⟩ = some (.int .i8 (xs 9)) := cell_at hT0 rfl
    have qhT0_13 : w3.cell? ⟨w.heap.size, 13, none⟩ = some (.int .i8 (xs 10)) := cell_at hT0 rfl
    have qhT0_14 : w3.cell? ⟨w.heap.size, 14, none⟩ = some (.int .i8 (xs 11)) := cell_at hT0 rfl
    have qhT0_15 : w3.cell? ⟨w.heap.size, 15, none⟩ = some (.int .i8 d0) := cell_at hT0 rfl
    have qhT0_16 : w3.cell? ⟨w.heap.size, 16, none⟩ = some (.int .i8 d1) := cell_at hT0 rfl
    have qhT1_0 : w3.cell? ⟨w.heap.size + 1, 0, none⟩ = some (.int .u8 n0) := cell_at hT1 rfl
    have qhT1_1 : w3.cell? ⟨w.heap.size + 1, 1, none⟩ = some (.int .u8 n1) := cell_at hT1 rfl
    as_aux_lemma =>
     rw [show IntKind.i64.wrap n0 = wrap64 n0 from IntWalk.i64_left n0, show IntKind.i64.wrap n1 = wrap64 n1 from IntWalk.i64_left n1, HAT.out.1, HCG.out.1]
     have hn6 := HN.out
     have hat2 := HAT.out.2
     have hcg2 := HCG.out.2
     obtain ⟨bA, offA, x, hAe, hx, hbA, hcA⟩ := enc_at (enc := Value.int .u8) H hat2
     subst hAe
     have hx2 := HTS.out x (List.mem_of_getElem? hx)
     obtain ⟨tt, htt, htt2⟩ : ∃ c : Int, (wrap64 x).tmod 40 = c ∧ 0 ≤ c ∧ c ≤ 39 := by
      rw [wrap64_ok (by omega)]
      have h1 := Int.tmod_lt_of_pos x (by omega : (0 : Int) < 40)
      have h2 := Int.tmod_nonneg 40 hx2.1
      exact ⟨_, rfl, by omega, by omega⟩
     have HX := Lib.hid hx
     have htm : x % 40 = tt := by
      have h := htt
      rw [wrap64_ok (by omega), Int.tmod_eq_emod_of_nonneg hx2.1] at h
      exact h
     have htmt : x.tmod 40 = tt := by
      have h := htt
      rw [wrap64_ok (by omega)] at h
      exact h
     have HTT := Lib.hid htt
     have HTM : Hid (tmF ts at0 = tt) := Lib.hid (by rw [tmF_of hx]; exact htt)
     have HH := Lib.hid H
     have HR3 := Lib.hid HR
     have HB3 := Lib.hid hB3
     obtain ⟨b0, hb0⟩ : ∃ b, b = w.heap.size := ⟨_, rfl⟩
     have HB0e := Lib.hid hb0
     rw [← hb0] at hT0 ⊢
     have HT0 := Lib.hid hT0
     have hq0 : w3.cell? ⟨b0, 0, none⟩ = some (.slice (some ⟨bA, offA, none⟩) n cap) := cell_at hT0 rfl
     clear qhT0_0 qhT0_1 qhT0_2 qhT0_3 qhT0_4 qhT0_5 qhT0_6 qhT0_7 qhT0_8 qhT0_9 qhT0_10 qhT0_11 qhT0_12 qhT0_13 qhT0_14 qhT0_15 qhT0_16 qhT1_0 qhT1_1 hT1 hB3 HR H hx hb0
     have q0_0 : w3.cell? ⟨b0, 0, none⟩ = some (.slice (some ⟨bA, offA, none⟩) n cap) := cell_at hT0 rfl
     have q0_1 : w3.cell? ⟨b0, 1, none⟩ = some (.int .u8 e0) := cell_at hT0 rfl
     have q0_2 : w3.cell? ⟨b0, 2, none⟩ = some (.int .u8 e1) := cell_at hT0 rfl
     have q0_3 : w3.cell? ⟨b0, 3, none⟩ = some (.int .i8 (xs 0)) := cell_at hT0 rfl
     have q0_4 : w3.cell? ⟨b0, 4, none⟩ = some (.int .i8 (xs 1)) := cell_at hT0 rfl
     have q0_5 : w3.cell? ⟨b0, 5, none⟩ = some (.int .i8 (xs 2)) := cell_at hT0 rfl
     have q0_6 : w3.cell? ⟨b0, 6, none⟩ = some (.int .i8 (xs 3)) := cell_at hT0 rfl
     have q0_7 : w3.cell? ⟨b0, 7, none⟩ = some (.int .i8 (xs 4)) := cell_at hT0 rfl
     have q0_8 : w3.cell? ⟨b0, 8, none⟩ = some (.int .i8 (xs 5)) := cell_at hT0 rfl
     have q0_9 : w3.cell? ⟨b0, 9, none⟩ = some (.int .i8 (xs 6)) := cell_at hT0 rfl
     have q0_10 : w3.cell? ⟨b0, 10, none⟩ = some (.int .i8 (xs 7)) := cell_at hT0 rfl
     have q0_11 : w3.cell? ⟨b0, 11, none⟩ = some (.int .i8 (xs 8)) := cell_at hT0 rfl
     have q0_12 : w3.cell? ⟨b0, 12, none⟩ = some (.int .i8 (xs 9)) := cell_at hT0 rfl
     have q0_13 : w3.cell? ⟨b0, 13, none⟩ = some (.int .i8 (xs 10)) := cell_at hT0 rfl
     have q0_14 : w3.cell? ⟨b0, 14, none⟩ = some (.int .i8 (xs 11)) := cell_at hT0 rfl
     have q0_15 : w3.cell? ⟨b0, 15, none⟩ = some (.int .i8 d0) := cell_at hT0 rfl
     have q0_16 : w3.cell? ⟨b0, 16, none⟩ = some (.int .i8 d1) := cell_at hT0 rfl
     have l0 := cell_lt q0_0
     clear hT0 hq0
     obtain ⟨w7, hw7⟩ : ∃ W, W = w3.alloc (Obj.cells #[.slice (some ⟨bA, offA, none⟩) n cap, .int .u8 e0, .int .u8 e1, .int .i8 (xs 0), .int .i8 (xs 1), .int .i8 (xs 2), .int .i8 (xs 3), .int .i8 (xs 4), .int .i8 (xs 5), .int .i8 (xs 6), .int .i8 (xs 7), .int .i8 (xs 8), .int .i8 (xs 9), .int .i8 (xs 10), .int .i8 (xs 11), .int .i8 d0, .int .i8 d1] 29) := ⟨_, rfl⟩
     obtain ⟨w8, hw8⟩ : ∃ W, W = w7.alloc (Obj.cells #[] 5) := ⟨_, rfl⟩
     obtain ⟨b7, hb7⟩ : ∃ b, b = w3.heap.size := ⟨_, rfl⟩
     obtain ⟨b8, hb8⟩ : ∃ b, b = w3.heap.size + 1 := ⟨_, rfl⟩
     have k7 : w7.heap[b7]? = some (.cells #[.slice (some ⟨bA, offA, none⟩) n cap, .int .u8 e0, .int .u8 e1, .int .i8 (xs 0), .int .i8 (xs 1), .int .i8 (xs 2), .int .i8 (xs 3), .int .i8 (xs 4), .int .i8 (xs 5), .int .i8 (xs 6), .int .i8 (xs 7), .int .i8 (xs 8), .int .i8 (xs 9), .int .i8 (xs 10), .int .i8 (xs 11), .int .i8 d0, .int .i8 d1] 29 (0, 0)) := by rw [hw7, hb7]; exact heap_new rfl
     have bb7 : Below w3.heap.size w3 w7 := by rw [hw7]; exact bl2 _ _
     have bb8 : Below w7.heap.size w7 w8 := by rw [hw8]; exact bl2 _ _
     have H8 := Lib.hid (RdS.below (RdS.below HH.out bb7) bb8)
     have BB8 := Lib.hid (bb7.call bb8 rfl)
     have K78 := Lib.hid (blkb k7 bb8)
     have HW7 := Lib.hid hw7
     have HW8 := Lib.hid hw8
     have HB7 := Lib.hid hb7
     have HB8 := Lib.hid hb8
     clear k7 bb7 bb8 hw7 hw8 hb7 hb8
     as_aux_lemma =>
      go_wp2_with (at_builtin; rw [← HB8.out, ← HW7.out, ← HW8.out, ← HB7.out]; refine wpList_plain rfl fun K hK => wp_copyU _ _ rfl b8 rfl ⟨bA, offA, none⟩ n cap rfl ts H8.out (by omega) (fun X xc w9 hX hb9 => ?_); refine hK _ _ (stopq ?_))
      unfold StopQ
      obtain ⟨G3, hG⟩ : ∃ G : Value, G = .agg #[.slice (some ⟨bA, offA, none⟩) n cap, .int .u8 e0, .int .u8 e1, .int .i8 (xs 0), .int .i8 (xs 1), .int .i8 (xs 2), .int .i8 (xs 3), .int .i8 (xs 4), .int .i8 (xs 5), .int .i8 (xs 6), .int .i8 (xs 7), .int .i8 (xs 8), .int .i8 (xs 9), .int .i8 (xs 10), .int .i8 (xs 11), .int .i8 d0, .int .i8 d1] := ⟨_, rfl⟩
      rw [← hG]
      clear hG
      obtain ⟨bX, cs, rfl, hge, hblk⟩ := own_some hX (by omega)
      have hbr : Below w3.heap.size w3 w9 := BB8.out.call hb9 rfl
      have k79 := blkb K78.out hb9
      have hz8 : w8.heap.size = b7 + 1 + 1 := by rw [HW8.out, HW7.out, HB7.out]; simp
      have hb7 := HB7.out
      have ne70 : b7 ≠ b0 := by omega
      have neX7 : bX ≠ b7 := by omega
      have neX0 : bX ≠ b0 := by omega
      have neA7 : bA ≠ b7 := by omega
      have neAX : bA ≠ bX := by omega
      have cA := (hbr.cell (p := ⟨bA, offA + at0, none⟩) hbA).trans hcA
      have lA : bA < w9.heap.size := Nat.lt_of_lt_of_le hbA hbr.size
      obtain ⟨_, _, heX, hrX, _⟩ := own_form hX
      cases heX
      obtain ⟨bX', oX, x2, heX, hx2', hbX, cX⟩ := enc_at (enc := Value.int .u8) hrX hat2
      cases heX
      have ex2 : x2 = x := by rw [HX.out] at hx2'; cases hx2'; rfl
      rw [ex2, Nat.zero_add] at cX
      have fX := free_at hblk (i := at0)
      have f7 := free_at k79 (i := 0)
      have k09 := blkb HT0.out hbr
      have HX9 := Lib.hid hX
      have HBR := Lib.hid hbr
      have K79 := Lib.hid k79
      clear q0_0 q0_1 q0_2 q0_3 q0_4 q0_5 q0_6 q0_7 q0_8 q0_9 q0_10 q0_11 q0_12 q0_13 q0_14 q0_15 q0_16
      have q0_0 : w9.cell? ⟨b0, 0, none⟩ = some (.slice (some ⟨bA, offA, none⟩) n cap) := cell_at k09 rfl
      have q7_0 : w9.cell? ⟨b7, 0, none⟩ = some (.slice (some ⟨bA, offA, none⟩) n cap) := cell_at k79 rfl
      have q0_1 : w9.cell? ⟨b0, 1, none⟩ = some (.int .u8 e0) := cell_at k09 rfl
      have q7_1 : w9.cell? ⟨b7, 1, none⟩ = some (.int .u8 e0) := cell_at k79 rfl
      have q0_2 : w9.cell? ⟨b0, 2, none⟩ = some (.int .u8 e1) := cell_at k09 rfl
      have q7_2 : w9.cell? ⟨b7, 2, none⟩ = some (.int .u8 e1) := cell_at k79 rfl
      have q0_3 : w9.cell? ⟨b0, 3, none⟩ = some (.int .i8 (xs 0)) := cell_at k09 rfl
      have q7_3 : w9.cell? ⟨b7, 3, none⟩ = some (.int .i8 (xs 0)) := cell_at k79 rfl
      have q0_4 : w9.cell? ⟨b0, 4, none⟩ = some (.int .i8 (xs 1)) := cell_at k09 rfl
      have q7_4 : w9.cell? ⟨b7, 4, none⟩ = some (.int .i8 (xs 1)) := cell_at k79 rfl
      have q0_5 : w9.cell? ⟨b0, 5, none⟩ = some (.int .i8 (xs 2)) := cell_at k09 rfl
      have q7_5 : w9.cell? ⟨b7, 5, none⟩ = some (.int .i8 (xs 2)) := cell_at k79 rfl
      have q0_6 : w9.cell? ⟨b0, 6, none⟩ = some (.int .i8 (xs 3)) := cell_at k09 rfl
      have q7_6 : w9.cell? ⟨b7, 6, none⟩ = some (.int .i8 (xs 3)) := cell_at k79 rfl
      have q0_7 : w9.cell? ⟨b0, 7, none⟩ = some (.int .i8 (xs 4)) := cell_at k09 rfl
      have q7_7 : w9.cell? ⟨b7, 7, none⟩ = some (.int .i8 (xs 4)) := cell_at k79 rfl
      have q0_8 : w9.cell? ⟨b0, 8, none⟩ = some (.int .i8 (xs 5)) := cell_at k09 rfl
      have q7_8 : w9.cell? ⟨b7, 8, none⟩ = some (.int .i8 (xs 5)) := cell_at k79 rfl
      have q0_9 : w9.cell? ⟨b0, 9, none⟩ = some (.int .i8 (xs 6)) := cell_at k09 rfl
      have q7_9 : w9.cell? ⟨b7, 9, none⟩ = some (.int .i8 (xs 6)) := cell_at k79 rfl
      have q0_10 : w9.cell? ⟨b0, 10, none⟩ = some (.int .i8 (xs 7)) := cell_at k09 rfl
      have q7_10 : w9.cell? ⟨b7, 10, none⟩ = some (.int .i8 (xs 7)) := cell_at k79 rfl
      have q0_11 : w9.cell? ⟨b0, 11, none⟩ = some (.int .i8 (xs 8)) := cell_at k09 rfl
      have q7_11 : w9.cell? ⟨b7, 11, none⟩ = some (.int .i8 (xs 8)) := cell_at k79 rfl
      have q0_12 : w9.cell? ⟨b0, 12, none⟩ = some (.int .i8 (xs 9)) := cell_at k09 rfl
      have q7_12 : w9.cell? ⟨b7, 12, none⟩ = some (.int .i8 (xs 9)) := cell_at k79 rfl
      have q0_13 : w9.cell? ⟨b0, 13, none⟩ = some (.int .i8 (xs 10)) := cell_at k09 rfl
      have q7_13 : w9.cell? ⟨b7, 13, none⟩ = some (.int .i8 (xs 10)) := cell_at k79 rfl
      have q0_14 : w9.cell? ⟨b0, 14, none⟩ = some (.int .i8 (xs 11)) := cell_at k09 rfl
      have q7_14 : w9.cell? ⟨b7, 14, none⟩ = some (.int .i8 (xs 11)) := cell_at k79 rfl
      have q0_15 : w9.cell? ⟨b0, 15, none⟩ = some (.int .i8 d0) := cell_at k09 rfl
      have q7_15 : w9.cell? ⟨b7, 15, none⟩ = some (.int .i8 d0) := cell_at k79 rfl
      have q0_16 : w9.cell? ⟨b0, 16, none⟩ = some (.int .i8 d1) := cell_at k09 rfl
      have q7_16 : w9.cell? ⟨b7, 16, none⟩ = some (.int .i8 d1) := cell_at k79 rfl
      clear l0
      have l0 := cell_lt q0_0
      have l7 := cell_lt q7_0
      clear k09 k79 hX hbr hrX hx2' ex2 hblk hge hz8 hb7 hb9 hcA hbA
      have hati : (at0 : Int) < (n : Int) := by omega
      have hat5 : (at0 : Int) ≤ 5 := by omega
      have hgt := HGT.out
      rw [HTM.out] at hgt
      have g1 : decide (39 < tt + cg) = true := by simp; omega
      by_cases hneg : tt + -cg < 0
      ·have g2 : decide (tt + -cg < 0) = true := by simp; omega
       have HBF := Lib.hid ((HB3.out.call HBR.out rfl).setCell (p := ⟨b7, 0, none⟩) (by show w.heap.size ≤ b7; have := HB7.out; have := HB3.out.size; omega) (.slice (some ⟨bX, 0, none⟩) n xc))
       clear hneg
       go_wp2_with fail
       go_ret
       exact ⟨rfl, HBF.out⟩
      have hnt : 0 ≤ tt + -cg ∧ tt + -cg ≤ 39 := by omega
      have g2 : decide (tt + -cg < 0) = false := by simp; omega
      as_aux_lemma =>
       go_wp2_with fail
       obtain ⟨w10, hw10⟩ : ∃ W, W = (w9.setCell ⟨b7, 0, none⟩ (.slice (some ⟨bX, 0, none⟩) n xc)).setCell ⟨bX, at0, none⟩ (.int .u8 (tt + -cg)) := ⟨_, rfl⟩
       rw [← hw10]
       obtain ⟨nt, hnt2⟩ : ∃ v, v = tt + -cg := ⟨_, rfl⟩
       have k7 : w10.heap[b7]? = some (.cells #[.slice (some ⟨bX, 0, none⟩) n xc, .int .u8 e0, .int .u8 e1, .int .i8 (xs 0), .int .i8 (xs 1), .int .i8 (xs 2), .int .i8 (xs 3), .int .i8 (xs 4), .int .i8 (xs 5), .int .i8 (xs 6), .int .i8 (xs 7), .int .i8 (xs 8), .int .i8 (xs 9), .int .i8 (xs 10), .int .i8 (xs 11), .int .i8 d0, .int .i8 d1] 29 (0, 0)) := by
        rw [hw10]; exact (set_far (p := ⟨bX, at0, none⟩) _ (by show b7 ≠ bX; omega)).trans (set_blk (i := 0) K79.out _)
       have hX10 : RdS w10 1 (some ⟨bX, 0, none⟩) n ((ts.set at0 nt).map (Value.int .u8)) := by
        have h1 := own_set1 (j := at0) (u := .int .u8 (tt + -cg)) (own_setfar (p := ⟨b7, 0, none⟩) (u := .slice (some ⟨bX, 0, none⟩) n xc) HX9.out (by show b7 < w8.heap.size; have := blk_lt' K78.out; omega)) (by omega)
        rw [← hw10, ← hnt2, ← List.map_set] at h1
        obtain ⟨_, _, he, hr, _⟩ := own_form h1
        cases he
        exact hr
       have hbr10 : Below w3.heap.size w3 w10 := by
        rw [hw10]
        exact (HBR.out.setCell (p := ⟨b7, 0, none⟩) (by show _ ≤ b7; have := HB7.out; omega) _).setCell (p := ⟨bX, at0, none⟩) (by show _ ≤ bX; have := own_base HX9.out bX rfl; have := BB8.out.size; omega) _
       have hB10 : Below w.heap.size w w10 := HB3.out.call hbr10 rfl
       have hT0 := blkb HT0.out hbr10
       have hA10 := RdS.below HH.out hbr10
       have hR10 := HR3.out.below hbr10
       clear q0_0 q7_0 q0_1 q7_1 q0_2 q7_2 q0_3 q7_3 q0_4 q7_4 q0_5 q7_5 q0_6 q7_6 q0_7 q7_7 q0_8 q7_8 q0_9 q7_9 q0_10 q7_10 q0_11 q7_11 q0_12 q7_12 q0_13 q7_13 q0_14 q7_14 q0_15 q7_15 q0_16 q7_16 l0 l7 lA cA cX fX f7 hw10 hbr10 g1 g2 ne70 neX7 neX0 neA7 neAX hbX
       have K60 := Lib.hid (fun (W : World) (h1 : Rng W) (h2 : RdS W 1 (some ⟨bA, offA, none⟩) n (ts.map (Value.int .u8))) => c6x_0 _ n cap ts xs e0 e1 d0 d1 W HN.out HLT.out HTS.out HE0.out h1 h2)
       have K61 := Lib.hid (fun (W : World) (h1 : Rng W) (h2 : RdS W 1 (some ⟨bX, 0, none⟩) n ((ts.set at0 nt).map (Value.int .u8))) => c6x_1 _ n xc (ts.set at0 nt) xs e0 e1 d0 d1 W HN.out (by rw [List.length_set]; exact HLT.out) (set_ok HTS.out (by omega)) HE1.out h1 h2)
       have LAW := Lib.hid (keel_law n at0 ts xs (fun k => xs (6 + k)) (erF e0) (erF e1) (-cg) nt HLT.out hat2 HTS.out (erF_bd HE0.out) (erF_bd HE1.out) (by omega) (by rw [HTM.out, hnt2]))
       have VB := Lib.hid (fun (k : Nat) (hk : k < n) => (pkF_eq (xs := xs) (erF_bd HE0.out) HTS.out (k := k) (by have := HLT.out; omega)).2)
       have UB := Lib.hid (fun (k : Nat) (hk : k < n) => (pkF_eq (xs := fun k => xs (6 + k)) (erF_bd HE1.out) (set_ok (at0 := at0) (nt := nt) HTS.out (by omega)) (k := k) (by rw [List.length_set]; have := HLT.out; omega)).2)
       obtain ⟨vA, hvA⟩ : ∃ v, v = pkF ts xs (erF e0) := ⟨_, rfl⟩
       obtain ⟨vB, hvB⟩ : ∃ v, v = pkF (ts.set at0 nt) (fun k => xs (6 + k)) (erF e1) := ⟨_, rfl⟩
       rw [← hvA] at K60 LAW VB
       rw [← hvB] at K61 LAW UB
       have EA := Lib.hid (erF_bd HE0.out)
       have EB := Lib.hid (erF_bd HE1.out)
       obtain ⟨eA, heA⟩ : ∃ v, v = erF e0 := ⟨_, rfl⟩
       obtain ⟨eB, heB⟩ : ∃ v, v = erF e1 := ⟨_, rfl⟩
       rw [← heA] at LAW EA
       rw [← heB] at LAW EB
       have HEA := Lib.hid heA
       have HEB := Lib.hid heB
       clear hvA hvB heA heB hx2 htm htmt htt htt2 hnt hnt2 hgt
       obtain ⟨ch, hch⟩ : ∃ v, v = -cg := ⟨_, rfl⟩
       have HCH : Hid (-19 ≤ ch ∧ ch ≤ 19) := Lib.hid (by omega)
       rw [← hch] at LAW ⊢
       clear hch hcg2
       as_aux_lemma =>
        have qhT0_0 : w10.cell? ⟨b0, 0, none⟩ = some (.slice (some ⟨bA, offA, none⟩) n cap) := cell_at hT0 rfl
        have qhT0_1 : w10.cell? ⟨b0, 1, none⟩ = some (.int .u8 e0) := cell_at hT0 rfl
        have qhT0_2 : w10.cell? ⟨b0, 2, none⟩ = some (.int .u8 e1) := cell_at hT0 rfl
        have qhT0_3 : w10.cell? ⟨b0, 3, none⟩ = some (.int .i8 (xs 0)) := cell_at hT0 rfl
        have qhT0_4 : w10.cell? ⟨b0, 4, none⟩ = some (.int .i8 (xs 1)) := cell_at hT0 rfl
        have qhT0_5 : w10.cell? ⟨b0, 5, none⟩ = some (.int .i8 (xs 2)) := cell_at hT0 rfl
        have qhT0_6 : w10.cell? ⟨b0, 6, none⟩ = some (.int .i8 (xs 3)) := cell_at hT0 rfl
        have qhT0_7 : w10.cell? ⟨b0, 7, none⟩ = some (.int .i8 (xs 4)) := cell_at hT0 rfl
        have qhT0_8 : w10.cell? ⟨b0, 8, none⟩ = some (.int .i8 (xs 5)) := cell_at hT0 rfl
        have qhT0_9 : w10.cell? ⟨b0, 9, none⟩ = some (.int .i8 (xs 6)) := cell_at hT0 rfl
        have qhT0_10 : w10.cell? ⟨b0, 10, none⟩ = some (.int .i8 (xs 7)) := cell_at hT0 rfl
        have qhT0_11 : w10.cell? ⟨b0, 11, none⟩ = some (.int .i8 (xs 8)) := cell_at hT0 rfl
        have qhT0_12 : w10.cell? ⟨b0, 12, none⟩ = some (.int .i8 (xs 9)) := cell_at hT0 rfl
        have qhT0_13 : w10.cell? ⟨b0, 13, none⟩ = some (.int .i8 (xs 10)) := cell_at hT0 rfl
        have qhT0_14 : w10.cell? ⟨b0, 14, none⟩ = some (.int .i8 (xs 11)) := cell_at hT0 rfl
        have qhT0_15 : w10.cell? ⟨b0, 15, none⟩ = some (.int .i8 d0) := cell_at hT0 rfl
        have qhT0_16 : w10.cell? ⟨b0, 16, none⟩ = some (.int .i8 d1) := cell_at hT0 rfl
        have qk7_0 : w10.cell? ⟨b7, 0, none⟩ = some (.slice (some ⟨bX, 0, none⟩) n xc) := cell_at k7 rfl
        have qk7_1 : w10.cell? ⟨b7, 1, none⟩ = some (.int .u8 e0) := cell_at k7 rfl
        have qk7_2 : w10.cell? ⟨b7, 2, none⟩ = some (.int .u8 e1) := cell_at k7 rfl
        have qk7_3 : w10.cell? ⟨b7, 3, none⟩ = some (.int .i8 (xs 0)) := cell_at k7 rfl
        have qk7_4 : w10.cell? ⟨b7, 4, none⟩ = some (.int .i8 (xs 1)) := cell_at k7 rfl
        have qk7_5 : w10.cell? ⟨b7, 5, none⟩ = some (.int .i8 (xs 2)) := cell_at k7 rfl
        have qk7_6 : w10.cell? ⟨b7, 6, none⟩ = some (.int .i8 (xs 3)) := cell_at k7 rfl
        have qk7_7 : w10.cell? ⟨b7, 7, none⟩ = some (.int .i8 (xs 4)) := cell_at k7 rfl
        have qk7_8 : w10.cell? ⟨b7, 8, none⟩ = some (.int .i8 (xs 5)) := cell_at k7 rfl
        have qk7_9 : w10.cell? ⟨b7, 9, none⟩ = some (.int .i8 (xs 6)) := cell_at k7 rfl
        have qk7_10 : w10.cell? ⟨b7, 10, none⟩ = some (.int .i8 (xs 7)) := cell_at k7 rfl
        have qk7_11 : w10.cell? ⟨b7, 11, none⟩ = some (.int .i8 (xs 8)) := cell_at k7 rfl
        have qk7_12 : w10.cell? ⟨b7, 12, none⟩ = some (.int .i8 (xs 9)) := cell_at k7 rfl
        have qk7_13 : w10.cell? ⟨b7, 13, none⟩ = some (.int .i8 (xs 10)) := cell_at k7 rfl
        have qk7_14 : w10.cell? ⟨b7, 14, none⟩ = some (.int .i8 (xs 11)) := cell_at k7 rfl
        have qk7_15 : w10.cell? ⟨b7, 15, none⟩ = some (.int .i8 d0) := cell_at k7 rfl
        have qk7_16 : w10.cell? ⟨b7, 16, none⟩ = some (.int .i8 d1) := cell_at k7 rfl
        refine (K60.out _ hR10 hA10).mono ?_
        rintro e w11 ⟨A1, c1, rfl, hP1, hb⟩
        clear qhT0_0 qhT0_1 qhT0_2 qhT0_3 qhT0_4 qhT0_5 qhT0_6 qhT0_7 qhT0_8 qhT0_9 qhT0_10 qhT0_11 qhT0_12 qhT0_13 qhT0_14 qhT0_15 qhT0_16 qk7_0 qk7_1 qk7_2 qk7_3 qk7_4 qk7_5 qk7_6 qk7_7 qk7_8 qk7_9 qk7_10 qk7_11 qk7_12 qk7_13 qk7_14 qk7_15 qk7_16
        have hS := hb
        have hB11 := hB10.call hS rfl
        replace hT0 := blkb hT0 hS
        replace k7 := blkb k7 hS
        replace hA10 := hA10.below hS
        replace hX10 := hX10.below hS
        replace hR10 := hR10.below hS
        clear hS hB10
        have qhT0_0 : w11.cell? ⟨b0, 0, none⟩ = some (.slice (some ⟨bA, offA, none⟩) n cap) := cell_at hT0 rfl
        have qhT0_1 : w11.cell? ⟨b0, 1, none⟩ = some (.int .u8 e0) := cell_at hT0 rfl
        have qhT0_2 : w11.cell? ⟨b0, 2, none⟩ = some (.int .u8 e1) := cell_at hT0 rfl
        have qhT0_3 : w11.cell? ⟨b0, 3, none⟩ = some (.int .i8 (xs 0)) := cell_at hT0 rfl
        have qhT0_4 : w11.cell? ⟨b0, 4, none⟩ = some (.int .i8 (xs 1)) := cell_at hT0 rfl
        have qhT0_5 : w11.cell? ⟨b0, 5, none⟩ = some (.int .i8 (xs 2)) := cell_at hT0 rfl
        have qhT0_6 : w11.cell? ⟨b0, 6, none⟩ = some (.int .i8 (xs 3)) := cell_at hT0 rfl
        have qhT0_7 : w11.cell? ⟨b0, 7, none⟩ = some (.int .i8 (xs 4)) := cell_at hT0 rfl
        have qhT0_8 : w11.cell? ⟨b0, 8, none⟩ = some (.int .i8 (xs 5)) := cell_at hT0 rfl
        have qhT0_9 : w11.cell? ⟨b0, 9, none⟩ = some (.int .i8 (xs 6)) := cell_at hT0 rfl
        have qhT0_10 : w11.cell? ⟨b0, 10, none⟩ = some (.int .i8 (xs 7)) := cell_at hT0 rfl
        have qhT0_11 : w11.cell? ⟨b0, 11, none⟩ = some (.int .i8 (xs 8)) := cell_at hT0 rfl
        have qhT0_12 : w11.cell? ⟨b0, 12, none⟩ = some (.int .i8 (xs 9)) := cell_at hT0 rfl
        have qhT0_13 : w11.cell? ⟨b0, 13, none⟩ = some (.int .i8 (xs 10)) := cell_at hT0 rfl
        have qhT0_14 : w11.cell? ⟨b0, 14, none⟩ = some (.int .i8 (xs 11)) := cell_at hT0 rfl
        have qhT0_15 : w11.cell? ⟨b0, 15, none⟩ = some (.int .i8 d0) := cell_at hT0 rfl
        have qhT0_16 : w11.cell? ⟨b0, 16, none⟩ = some (.int .i8 d1) := cell_at hT0 rfl
        have qk7_0 : w11.cell? ⟨b7, 0, none⟩ = some (.slice (some ⟨bX, 0, none⟩) n xc) := cell_at k7 rfl
        have qk7_1 : w11.cell? ⟨b7, 1, none⟩ = some (.int .u8 e0) := cell_at k7 rfl
        have qk7_2 : w11.cell? ⟨b7, 2, none⟩ = some (.int .u8 e1) := cell_at k7 rfl
        have qk7_3 : w11.cell? ⟨b7, 3, none⟩ = some (.int .i8 (xs 0)) := cell_at k7 rfl
        have qk7_4 : w11.cell? ⟨b7, 4, none⟩ = some (.int .i8 (xs 1)) := cell_at k7 rfl
        have qk7_5 : w11.cell? ⟨b7, 5, none⟩ = some (.int .i8 (xs 2)) := cell_at k7 rfl
        have qk7_6 : w11.cell? ⟨b7, 6, none⟩ = some (.int .i8 (xs 3)) := cell_at k7 rfl
        have qk7_7 : w11.cell? ⟨b7, 7, none⟩ = some (.int .i8 (xs 4)) := cell_at k7 rfl
        have qk7_8 : w11.cell? ⟨b7, 8, none⟩ = some (.int .i8 (xs 5)) := cell_at k7 rfl
        have qk7_9 : w11.cell? ⟨b7, 9, none⟩ = some (.int .i8 (xs 6)) := cell_at k7 rfl
        have qk7_10 : w11.cell? ⟨b7, 10, none⟩ = some (.int .i8 (xs 7)) := cell_at k7 rfl
        have qk7_11 : w11.cell? ⟨b7, 11, none⟩ = some (.int .i8 (xs 8)) := cell_at k7 rfl
        have qk7_12 : w11.cell? ⟨b7, 12, none⟩ = some (.int .i8 (xs 9)) := cell_at k7 rfl
        have qk7_13 : w11.cell? ⟨b7, 13, none⟩ = some (.int .i8 (xs 10)) := cell_at k7 rfl
        have qk7_14 : w11.cell? ⟨b7, 14, none⟩ = some (.int .i8 (xs 11)) := cell_at k7 rfl
        have qk7_15 : w11.cell? ⟨b7, 15, none⟩ = some (.int .i8 d0) := cell_at k7 rfl
        have qk7_16 : w11.cell? ⟨b7, 16, none⟩ = some (.int .i8 d1) := cell_at k7 rfl
        clear hb
        obtain ⟨G4, hG⟩ : ∃ G : Value, G = .agg #[.slice (some ⟨bA, offA, none⟩) n cap, .int .u8 e0, .int .u8 e1, .int .i8 (xs 0), .int .i8 (xs 1), .int .i8 (xs 2), .int .i8 (xs 3), .int .i8 (xs 4), .int .i8 (xs 5), .int .i8 (xs 6), .int .i8 (xs 7), .int .i8 (xs 8), .int .i8 (xs 9), .int .i8 (xs 10), .int .i8 (xs 11), .int .i8 d0, .int .i8 d1] := ⟨_, rfl⟩
        rw [← hG]
        clear hG
        as_aux_lemma =>
         go_wp2_with fail
         refine (K61.out _ hR10 hX10).mono ?_
         rintro e w12 ⟨A2, c2, rfl, hP2, hb⟩
         clear qhT0_0 qhT0_1 qhT0_2 qhT0_3 qhT0_4 qhT0_5 qhT0_6 qhT0_7 qhT0_8 qhT0_9 qhT0_10 qhT0_11 qhT0_12 qhT0_13 qhT0_14 qhT0_15 qhT0_16 qk7_0 qk7_1 qk7_2 qk7_3 qk7_4 qk7_5 qk7_6 qk7_7 qk7_8 qk7_9 qk7_10 qk7_11 qk7_12 qk7_13 qk7_14 qk7_15 qk7_16
         have hS := hb
         have hB12 := hB11.call hS rfl
         replace hT0 := blkb hT0 hS
         replace k7 := blkb k7 hS
         replace hA10 := hA10.below hS
         replace hX10 := hX10.below hS
         replace hR10 := hR10.below hS
         replace hP1 := hP1.below hS
         clear hS hB11
         have qhT0_0 : w12.cell? ⟨b0, 0, none⟩ = some (.slice (some ⟨bA, offA, none⟩) n cap) := cell_at hT0 rfl
         have qhT0_1 : w12.cell? ⟨b0, 1, none⟩ = some (.int .u8 e0) := cell_at hT0 rfl
         have qhT0_2 : w12.cell? ⟨b0, 2, none⟩ = some (.int .u8 e1) := cell_at hT0 rfl
         have qhT0_3 : w12.cell? ⟨b0, 3, none⟩ = some (.int .i8 (xs 0)) := cell_at hT0 rfl
         have qhT0_4 : w12.cell? ⟨b0, 4, none⟩ = some (.int .i8 (xs 1)) := cell_at hT0 rfl
         have qhT0_5 : w12.cell? ⟨b0, 5, none⟩ = some (.int .i8 (xs 2)) := cell_at hT0 rfl
         have qhT0_6 : w12.cell? ⟨b0, 6, none⟩ = some (.int .i8 (xs 3)) := cell_at hT0 rfl
         have qhT0_7 : w12.cell? ⟨b0, 7, none⟩ = some (.int .i8 (xs 4)) := cell_at hT0 rfl
         have qhT0_8 : w12.cell? ⟨b0, 8, none⟩ = some (.int .i8 (xs 5)) := cell_at hT0 rfl
         have qhT0_9 : w12.cell? ⟨b0, 9, none⟩ = some (.int .i8 (xs 6)) := cell_at hT0 rfl
         have qhT0_10 : w12.cell? ⟨b0, 10, none⟩ = some (.int .i8 (xs 7)) := cell_at hT0 rfl
         have qhT0_11 : w12.cell? ⟨b0, 11, none⟩ = some (.int .i8 (xs 8)) := cell_at hT0 rfl
         have qhT0_12 : w12.cell? ⟨b0, 12, none⟩ = some (.int .i8 (xs 9)) := cell_at hT0 rfl
         have qhT0_13 : w12.cell? ⟨b0, 13, none⟩ = some (.int .i8 (xs 10)) := cell_at hT0 rfl
         have qhT0_14 : w12.cell? ⟨b0, 14, none⟩ = some (.int .i8 (xs 11)) := cell_at hT0 rfl
         have qhT0_15 : w12.cell? ⟨b0, 15, none⟩ = some (.int .i8 d0) := cell_at hT0 rfl
         have qhT0_16 : w12.cell? ⟨b0, 16, none⟩ = some (.int .i8 d1) := cell_at hT0 rfl
         have qk7_0 : w12.cell? ⟨b7, 0, none⟩ = some (.slice (some ⟨bX, 0, none⟩) n xc) := cell_at k7 rfl
         have qk7_1 : w12.cell? ⟨b7, 1, none⟩ = some (.int .u8 e0) := cell_at k7 rfl
         have qk7_2 : w12.cell? ⟨b7, 2, none⟩ = some (.int .u8 e1) := cell_at k7 rfl
         have qk7_3 : w12.cell? ⟨b7, 3, none⟩ = some (.int .i8 (xs 0)) := cell_at k7 rfl
         have qk7_4 : w12.cell? ⟨b7, 4, none⟩ = some (.int .i8 (xs 1)) := cell_at k7 rfl
         have qk7_5 : w12.cell? ⟨b7, 5, none⟩ = some (.int .i8 (xs 2)) := cell_at k7 rfl
         have qk7_6 : w12.cell? ⟨b7, 6, none⟩ = some (.int .i8 (xs 3)) := cell_at k7 rfl
         have qk7_7 : w12.cell? ⟨b7, 7, none⟩ = some (.int .i8 (xs 4)) := cell_at k7 rfl
         have qk7_8 : w12.cell? ⟨b7, 8, none⟩ = some (.int .i8 (xs 5)) := cell_at k7 rfl
         have qk7_9 : w12.cell? ⟨b7, 9, none⟩ = some (.int .i8 (xs 6)) := cell_at k7 rfl
         have qk7_10 : w12.cell? ⟨b7, 10, none⟩ = some (.int .i8 (xs 7)) := cell_at k7 rfl
         have qk7_11 : w12.cell? ⟨b7, 11, none⟩ = some (.int .i8 (xs 8)) := cell_at k7 rfl
         have qk7_12 : w12.cell? ⟨b7, 12, none⟩ = some (.int .i8 (xs 9)) := cell_at k7 rfl
         have qk7_13 : w12.cell? ⟨b7, 13, none⟩ = some (.int .i8 (xs 10)) := cell_at k7 rfl
         have qk7_14 : w12.cell? ⟨b7, 14, none⟩ = some (.int .i8 (xs 11)) := cell_at k7 rfl
         have qk7_15 : w12.cell? ⟨b7, 15, none⟩ = some (.int .i8 d0) := cell_at k7 rfl
         have qk7_16 : w12.cell? ⟨b7, 16, none⟩ = some (.int .i8 d1) := cell_at k7 rfl
         clear hb
         obtain ⟨G5, hG⟩ : ∃ G : Value, G = .agg #[.slice (some ⟨bX, 0, none⟩) n xc, .int .u8 e0, .int .u8 e1, .int .i8 (xs 0), .int .i8 (xs 1), .int .i8 (xs 2), .int .i8 (xs 3), .int .i8 (xs 4), .int .i8 (xs 5), .int .i8 (xs 6), .int .i8 (xs 7), .int .i8 (xs 8), .int .i8 (xs 9), .int .i8 (xs 10), .int .i8 (xs 11), .int .i8 d0, .int .i8 d1] := ⟨_, rfl⟩
         rw [← hG]
         clear hG
         clear hX10
         clear hR10
         clear hA10
         clear qhT0_0 qhT0_1 qhT0_2 qhT0_3 qhT0_4 qhT0_5 qhT0_6 qhT0_7 qhT0_8 qhT0_9 qhT0_10 qhT0_11 qhT0_12 qhT0_13 qhT0_14 qhT0_15 qhT0_16 qk7_0 qk7_1 qk7_2 qk7_3 qk7_4 qk7_5 qk7_6 qk7_7 qk7_8 qk7_9 qk7_10 qk7_11 qk7_12 qk7_13 qk7_14 qk7_15 qk7_16
         clear k7
         have qhT0_0 : w12.cell? ⟨b0, 0, none⟩ = some (.slice (some ⟨bA, offA, none⟩) n cap) := cell_at hT0 rfl
         have qhT0_1 : w12.cell? ⟨b0, 1, none⟩ = some (.int .u8 e0) := cell_at hT0 rfl
         have qhT0_2 : w12.cell? ⟨b0, 2, none⟩ = some (.int .u8 e1) := cell_at hT0 rfl
         have qhT0_3 : w12.cell? ⟨b0, 3, none⟩ = some (.int .i8 (xs 0)) := cell_at hT0 rfl
         have qhT0_4 : w12.cell? ⟨b0, 4, none⟩ = some (.int .i8 (xs 1)) := cell_at hT0 rfl
         have qhT0_5 : w12.cell? ⟨b0, 5, none⟩ = some (.int .i8 (xs 2)) := cell_at hT0 rfl
         have qhT0_6 : w12.cell? ⟨b0, 6, none⟩ = some (.int .i8 (xs 3)) := cell_at hT0 rfl
         have qhT0_7 : w12.cell? ⟨b0, 7, none⟩ = some (.int .i8 (xs 4)) := cell_at hT0 rfl
         have qhT0_8 : w12.cell? ⟨b0, 8, none⟩ = some (.int .i8 (xs 5)) := cell_at hT0 rfl
         have qhT0_9 : w12.cell? ⟨b0, 9, none⟩ = some (.int .i8 (xs 6)) := cell_at hT0 rfl
         have qhT0_10 : w12.cell? ⟨b0, 10, none⟩ = some (.int .i8 (xs 7)) := cell_at hT0 rfl
         have qhT0_11 : w12.cell? ⟨b0, 11, none⟩ = some (.int .i8 (xs 8)) := cell_at hT0 rfl
         have qhT0_12 : w12.cell? ⟨b0, 12, none⟩ = some (.int .i8 (xs 9)) := cell_at hT0 rfl
         have qhT0_13 : w12.cell? ⟨b0, 13, none⟩ = some (.int .i8 (xs 10)) := cell_at hT0 rfl
         have qhT0_14 : w12.cell? ⟨b0, 14, none⟩ = some (.int .i8 (xs 11)) := cell_at hT0 rfl
         have qhT0_15 : w12.cell? ⟨b0, 15, none⟩ = some (.int .i8 d0) := cell_at hT0 rfl
         have qhT0_16 : w12.cell? ⟨b0, 16, none⟩ = some (.int .i8 d1) := cell_at hT0 rfl
         go_wp2_with fail
         as_aux_lemma =>
          refine wp_region_plan [(0, true), (1, true), (2, true), (3, true), (4, true), (5, true), (6, true), (7, true), (8, true), (9, true), (10, true), (11, true)] w12.heap.size (by kernel_rfl) (by kernel_rfl) (Nat.le_refl _) (fun _ _ d _ _ h => by cases d <;> exact h) ?_
          have hC : Below w12.heap.size w12 w12 := Below.refl _ _
          have zhT0 : b0 < w12.heap.size := (Array.getElem?_eq_some_iff.1 hT0).1
          repeat (first | (refine wpPlanA_skip _ rfl (by rfl) ?_; simp only [Act.put, List.setIfInBounds_toArray, List.set_cons_zero, List.set_cons_succ]) | (refine wpPlanA_soft _ ?_ rfl (by rfl) ?_ ?_; rotate_left; (intro wq hq hcq; go_simp; first | exact rfl | exact ⟨rfl, rfl⟩); simp only [Act.put, List.setIfInBounds_toArray, List.set_cons_zero, List.set_cons_succ]))
          clear qhT0_0 qhT0_1 qhT0_2 qhT0_3 qhT0_4 qhT0_5 qhT0_6 qhT0_7 qhT0_8 qhT0_9 qhT0_10 qhT0_11 qhT0_12 qhT0_13 qhT0_14 qhT0_15 qhT0_16
          refine wpPlanA_nil (fun w13 hS => ?_)
          clear hC zhT0
          have hB13 := hB12.call hS rfl
          replace hT0 := blkb hT0 hS
          replace hP1 := hP1.below hS
          replace hP2 := hP2.below hS
          clear hS hB12
          have qhT0_0 : w13.cell? ⟨b0, 0, none⟩ = some (.slice (some ⟨bA, offA, none⟩) n cap) := cell_at hT0 rfl
          have qhT0_1 : w13.cell? ⟨b0, 1, none⟩ = some (.int .u8 e0) := cell_at hT0 rfl
          have qhT0_2 : w13.cell? ⟨b0, 2, none⟩ = some (.int .u8 e1) := cell_at hT0 rfl
          have qhT0_3 : w13.cell? ⟨b0, 3, none⟩ = some (.int .i8 (xs 0)) := cell_at hT0 rfl
          have qhT0_4 : w13.cell? ⟨b0, 4, none⟩ = some (.int .i8 (xs 1)) := cell_at hT0 rfl
          have qhT0_5 : w13.cell? ⟨b0, 5, none⟩ = some (.int .i8 (xs 2)) := cell_at hT0 rfl
          have qhT0_6 : w13.cell? ⟨b0, 6, none⟩ = some (.int .i8 (xs 3)) := cell_at hT0 rfl
          have qhT0_7 : w13.cell? ⟨b0, 7, none⟩ = some (.int .i8 (xs 4)) := cell_at hT0 rfl
          have qhT0_8 : w13.cell? ⟨b0, 8, none⟩ = some (.int .i8 (xs 5)) := cell_at hT0 rfl
          have qhT0_9 : w13.cell? ⟨b0, 9, none⟩ = some (.int .i8 (xs 6)) := cell_at hT0 rfl
          have qhT0_10 : w13.cell? ⟨b0, 10, none⟩ = some (.int .i8 (xs 7)) := cell_at hT0 rfl
          have qhT0_11 : w13.cell? ⟨b0, 11, none⟩ = some (.int .i8 (xs 8)) := cell_at hT0 rfl
          have qhT0_12 : w13.cell? ⟨b0, 12, none⟩ = some (.int .i8 (xs 9)) := cell_at hT0 rfl
          have qhT0_13 : w13.cell? ⟨b0, 13, none⟩ = some (.int .i8 (xs 10)) := cell_at hT0 rfl
          have qhT0_14 : w13.cell? ⟨b0, 14, none⟩ = some (.int .i8 (xs 11)) := cell_at hT0 rfl
          have qhT0_15 : w13.cell? ⟨b0, 15, none⟩ = some (.int .i8 d0) := cell_at hT0 rfl
          have qhT0_16 : w13.cell? ⟨b0, 16, none⟩ = some (.int .i8 d1) := cell_at hT0 rfl
          rw [show (IntKind.i64.wrap e0).tmod 4 = eA by rw [HEA.out, IntWalk.i64_left]; rfl, show (IntKind.i64.wrap e1).tmod 4 = eB by rw [HEB.out, IntWalk.i64_left]; rfl]
          clear qhT0_0 qhT0_1 qhT0_2 qhT0_3 qhT0_4 qhT0_5 qhT0_6 qhT0_7 qhT0_8 qhT0_9 qhT0_10 qhT0_11 qhT0_12 qhT0_13 qhT0_14 qhT0_15 qhT0_16
          clear hT0
          as_aux_lemma =>
           go_wp2_with fail
           refine (c8 { data := #[97] } eA A1 n c1 _ _ (by have := HN.out; omega) hP1).mono ?_
           rintro e w14 ⟨V1, cv1, rfl, hV1, hb⟩
           have hS := hb
           have hB14 := hB13.call hS rfl
           replace hP1 := hP1.below hS
           replace hP2 := hP2.below hS
           clear hS hB13
           clear hb
           go_wp2_with fail
           refine (c8 { data := #[98] } eB A2 n c2 _ _ (by have := HN.out; omega) hP2).mono ?_
           rintro e w15 ⟨V2, cv2, rfl, hV2, hb⟩
           have hS := hb
           have hB15 := hB14.call hS rfl
           replace hP1 := hP1.below hS
           replace hP2 := hP2.below hS
           replace hV1 := hV1.below hS
           clear hS hB14
           clear hb
           go_wp2_with fail
           refine (h7 { data := #[97] } { data := #[98] } eA eB V1 V2 n cv1 cv2 0 vA vB _ nm97 nm98 (by have := HN.out; omega) (by have := HN.out; omega) VB.out UB.out (by have := EA.out; omega) (by have := EB.out; omega) hV1 hV2).mono ?_
           rintro e w16 ⟨V3, c3, rfl, hV3, hb⟩
           have hS := hb
           have hB16 := hB15.call hS rfl
           replace hP1 := hP1.below hS
           replace hP2 := hP2.below hS
           replace hV1 := hV1.below hS
           replace hV2 := hV2.below hS
           clear hS hB15
           clear hb
           clear hV1
           clear hV2
           clear hP1
           clear hP2
           as_aux_lemma =>
            obtain ⟨dl, hdl⟩ : ∃ l, l = dif vA vB eA eB 0 n := ⟨_, rfl⟩
            rw [← hdl] at hV3 LAW ⊢
            have hln : dl.length ≤ 1000 := by
             rw [hdl]
             have := selK_len (fun j => decide (iv2 vA eA j < iv1 vB eB j + 0) || decide (iv2 vB eB j + 0 < iv1 vA eA j)) 0 (2 * n - 1)
             have := HN.out
             unfold dif
             omega
            obtain ⟨ln, hlnn⟩ : ∃ v, v = dl.length := ⟨_, rfl⟩
            rw [← hlnn] at hV3 hln ⊢
            have HLN := Lib.hid hlnn
            have HV3 := Lib.hid hV3
            have HBZ := Lib.hid hB16
            clear hdl hlnn hV3 hB16
            go_wp2_with fail
            go_loop [109] (fun i => ∃ k : Nat, k ≤ ln ∧ i = .int .i64 k) (fun i => ln - (intOf i).toNat)
            case atStart => exact ⟨0, Nat.zero_le _, rfl⟩
            case round =>
             obtain ⟨k, hk, rfl⟩ := hrel
             have hwk : IntKind.i64.wrap ((k : Int) + 1) = ((k + 1 : Nat) : Int) := by rw [wrapI (by omega)]; simp
             by_cases hlt : k < ln
             ·as_aux_lemma =>
               have hlti : (k : Int) < (ln : Int) := by omega
               obtain ⟨b, off, q, rfl, hx, hb, h0⟩ := HV3.out.at hlt
               have hq := LAW.out.1 q (List.mem_of_getElem? hx)
               have g1 : decide (q ≤ 2 * (at0 : Int) - 2) = false := by simp; omega
               have g2 : decide (2 * (at0 : Int) + 2 ≤ q) = false := by simp; omega
               clear hx hq
               go_wp2
               go_round
               case rel => exact ⟨k + 1, by omega, by go_num⟩
               case measure => simp [intOf]; omega
             ·as_aux_lemma =>
               obtain rfl : ln = k := by omega
               by_cases h0 : ch = 0
               ·have hl0 : ln = 0 := by rw [HLN.out, LAW.out.2.1 h0]; rfl
                have g1 : (ch == 0) = true := by simp [h0]
                have g2 : ((ln : Int) == 0) = true := by simp [hl0]
                have g3 : (ln == 0) = true := by simp [hl0]
                clear h0 hl0
                go_wp2
                go_ret
                exact ⟨rfl, HBZ.out⟩
               ·have g1 : (ch == 0) = false := by simp [h0]
                have hcb := HCH.out
                have hea := EA.out
                have heb := EB.out
                have K9 := Lib.hid (fun (W : World) (hW : RdI W V3 ln dl) => c9 V3 ln c3 dl (2 * (at0 : Int)) W (by omega) hW)
                obtain ⟨bb, hbb⟩ : ∃ b, b = decide (2 * (at0 : Int) ∈ dl) := ⟨_, rfl⟩
                rw [← hbb] at K9
                cases bb
                ·have hno : ¬ (2 * (eA + eB) < ch ∨ 2 * (eA + eB) < -ch) := fun h => by
                  have := LAW.out.2.2 h
                  simp [this] at hbb
                 clear hbb h0 hlt
                 go_wp2_with fail
                 refine (K9.out _ HV3.out).mono ?_
                 rintro e w' ⟨rfl, rfl⟩
                 have m2 : decide (-ch ≤ 2 * (eA + eB)) = true := by simp; omega
                 have m3 : decide (ch ≤ 2 * (eA + eB)) = true := by simp; omega
                 go_wp2
                 all_goals go_ret
                 all_goals exact ⟨rfl, HBZ.out⟩
                ·clear hbb h0 hlt
                 go_wp2_with fail
                 refine (K9.out _ HV3.out).mono ?_
                 rintro e w' ⟨rfl, rfl⟩
                 go_wp2
                 go_ret
                 exact ⟨rfl, HBZ.out⟩
end Go.Proofs.YtfmgibhffgkieaaDoor
