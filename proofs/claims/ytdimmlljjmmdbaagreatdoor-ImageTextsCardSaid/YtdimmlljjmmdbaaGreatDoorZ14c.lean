/- A part of the proofs about chapter 7 (image): contracts of functions and plain laws (V8, V9, V10, V11, V12, V6, V13, V14, V15). -/
import Derived.Shelf.Bits.Mul64
import Derived.Shelf.Spec.SlicesInsert
import Derived.Lib.LazyBuf
import Derived.Lib.AppendZerosOnto
import Derived.Laws.NewBlocks
import Derived.BigRegion
import Derived.Test.YtdimmlljjmmdbaaGreatDoorZ14a
import Derived.Test.YtdimmlljjmmdbaaGreatDoorZ14b
set_option linter.all false
namespace Go.Proofs.YtdimmlljjmmdbaaGreatDoor
open Go.RowKit
set_option maxHeartbeats 4000000
set_option maxRecDepth 20000
theorem c155 (A : Option Addr) (n cap : Nat) (l : List (Nat × Int)) (y : Nat × Int) (w : World) (hl : n ≤ 1000000) (H : RdE w A n l) (hs : Im.Srt l) :
  Calls Tryz.prog 155 #[.slice A n cap, .agg #[.int .i64 (y.1 : Nat), .int .i64 y.2], .func (.func 156) #[] #[]] w fun en w' => ∃ b, en = .returned (.tuple #[.int .i64 (Im.place l y : Nat), .bool b]) ∧ Below w.heap.size w w' := by
 obtain ⟨P, hP⟩ : ∃ P : Nat → Nat → Prop, P = fun lo hi => (∀ t x, t < lo → l[t]? = some x → Im.lt2 x y = true) ∧ (∀ t x, hi ≤ t → l[t]? = some x → Im.lt2 x y = false) := ⟨_, rfl⟩
 have hll := H.len
 have HP := Lib.hid hP
 have HL := Lib.hid hll
 have P0 : Hid (P 0 n) := Lib.hid (by rw [hP]; exact ⟨fun t x ht _ => absurd ht (Nat.not_lt_zero t), fun t x ht hx => by have := (List.getElem?_eq_some_iff.1 hx).1; omega⟩)
 have PU : Hid (∀ lo hi m x, P lo hi → l[m]? = some x → Im.lt2 x y = true → P (m + 1) hi) := Lib.hid (fun lo hi m x h hx hlt => by
  rw [hP] at h ⊢
  exact ⟨fun t z ht hz => srt_lt hs (show t ≤ m by omega) hz hx hlt, h.2⟩)
 have PD : Hid (∀ lo hi m x, P lo hi → l[m]? = some x → Im.lt2 x y = false → P lo m) := Lib.hid (fun lo hi m x h hx hlt => by
  rw [hP] at h ⊢
  refine ⟨h.1, fun t z ht hz => ?_⟩
  cases hq : Im.lt2 z y with
  | false => rfl
  | true => rw [srt_lt hs ht hx hz hq] at hlt; cases hlt)
 have PE : Hid (∀ lo, lo ≤ n → P lo lo → Im.place l y = lo) := Lib.hid (fun lo hlo h => by
  rw [hP] at h
  exact place_at l lo (by omega) h.1 h.2)
 generalize Im.place l y = PL at PE ⊢
 clear hP hll HP HL hs
 obtain ⟨w0, hW⟩ : ∃ W, W = w.alloc (Obj.cells #[.int .i64 (y.1 : Nat), .int .i64 y.2] 214) := ⟨_, rfl⟩
 have hT0 : w0.heap[w.heap.size]? = some (.cells #[.int .i64 (y.1 : Nat), .int .i64 y.2] 214 (0, 0)) := by rw [hW]; exact heap_new (by simp)
 have hB0 : Below w.heap.size w w0 := by rw [hW]; exact ((Below.refl _ _).alloc (by first | omega | (simp <;> omega)) _)
 replace H := H.below hB0
 go_enter Tryz.func155, Tryz.ntmps155
 go_wp2_with fail
 rw [← hW]
 clear hW
 have qhT0_0 : w0.cell? ⟨w.heap.size, 0, none⟩ = some (.int .i64 (y.1 : Nat)) := cell_at hT0 rfl
 have qhT0_1 : w0.cell? ⟨w.heap.size, 1, none⟩ = some (.int .i64 y.2) := cell_at hT0 rfl
 go_loopw [9, 10] (fun a b wr => ∃ lo hi : Nat, a = .int .i64 lo ∧ b = .int .i64 hi ∧ lo ≤ hi ∧ hi ≤ n ∧ Below w0.heap.size w0 wr ∧ Hid (P lo hi)) (fun a b _ => (intOf b).toNat - (intOf a).toNat)
 case atStart => exact ⟨0, n, rfl, rfl, Nat.zero_le _, Nat.le_refl _, Below.refl _ _, P0⟩
 case round =>
  obtain ⟨lo, hi, rfl, rfl, hlh, hhn, hR, hQ⟩ := hrel
  clear qhT0_0 qhT0_1
  obtain ⟨w1, hww⟩ : ∃ W, W = wr := ⟨_, rfl⟩
  subst hww
  have hB1 := hB0.call hR rfl
  replace hT0 := blkb hT0 hR
  replace H := H.below hR
  clear hB0
  have qhT0_0 : w1.cell? ⟨w.heap.size, 0, none⟩ = some (.int .i64 (y.1 : Nat)) := cell_at hT0 rfl
  have qhT0_1 : w1.cell? ⟨w.heap.size, 1, none⟩ = some (.int .i64 y.2) := cell_at hT0 rfl
  by_cases hlt : lo < hi
  ·
    obtain ⟨m, hm⟩ : ∃ m, m = (lo + hi) / 2 := ⟨_, rfl⟩
    have hmid : ((lo : Int) + (hi : Int)) / 2 = (m : Int) := by omega
    have hm1 : lo ≤ m := by omega
    have hm2 : m < hi := by omega
    have hmn : m < n := by omega
    obtain ⟨b, off, x, rfl, hx, hb, h0, h1⟩ := H.at (k := m) (by omega)
    have HX := Lib.hid hx
    have HM := Lib.hid hmid
    clear hx hm
    go_wp2_with fail
    try rw [HM.out]
    refine wp_region_plan [(0, true), (1, true), (2, true), (3, true), (4, true), (5, true), (6, false), (7, true)] w1.heap.size (by kernel_rfl) (by kernel_rfl) (Nat.le_refl _) (fun _ _ d _ _ h => by cases d <;> exact h) ?_
    have hC : Below w1.heap.size w1 w1 := Below.refl _ _
    have zhT0 : w.heap.size < w1.heap.size := (Array.getElem?_eq_some_iff.1 hT0).1
    repeat (first | (refine wpPlanA_skip _ rfl (by rfl) ?_; simp only [Act.put, List.setIfInBounds_toArray, List.set_cons_zero, List.set_cons_succ]) | (refine wpPlanA_soft _ ?_ rfl (by rfl) ?_ ?_; rotate_left; (intro wq hq hcq; go_simp; first | exact rfl | exact ⟨rfl, rfl⟩); simp only [Act.put, List.setIfInBounds_toArray, List.set_cons_zero, List.set_cons_succ]))
    refine wpPlanA_hard _ rfl (by rfl) (fun w2 hS K hK => ?_)
    have hB2 := hB1.call hS rfl
    replace hC := hC.call hS rfl
    replace hT0 := blkb hT0 hS
    replace H := H.below hS
    replace hR := hR.call hS rfl
    clear hS hB1
    go_simp
    refine (c156 x.1 y.1 x.2 y.2 _).mono ?_
    rintro e w3 ⟨rfl, hb⟩
    have hB3 := hB2.call hb rfl
    replace hC := hC.call hb rfl
    replace hT0 := blkb hT0 hb
    replace H := H.below hb
    replace hR := hR.call hb rfl
    clear hb hB2
    refine hK _ _ hC ?_
    clear hK K
    try simp only [Act.put, List.setIfInBounds_toArray, List.set_cons_zero, List.set_cons_succ]
    repeat (first | (refine wpPlanA_skip _ rfl (by rfl) ?_; simp only [Act.put, List.setIfInBounds_toArray, List.set_cons_zero, List.set_cons_succ]) | (refine wpPlanA_soft _ ?_ rfl (by rfl) ?_ ?_; rotate_left; (intro wq hq hcq; go_simp; first | exact rfl | exact ⟨rfl, rfl⟩); simp only [Act.put, List.setIfInBounds_toArray, List.set_cons_zero, List.set_cons_succ]))
    clear h0 h1 hb
    clear qhT0_0 qhT0_1
    refine wpPlanA_nil (fun w4 hS => ?_)
    clear hC zhT0
    have hB4 := hB3.call hS rfl
    replace hT0 := blkb hT0 hS
    replace H := H.below hS
    replace hR := hR.call hS rfl
    clear hS hB3
    have qhT0_0 : w4.cell? ⟨w.heap.size, 0, none⟩ = some (.int .i64 (y.1 : Nat)) := cell_at hT0 rfl
    have qhT0_1 : w4.cell? ⟨w.heap.size, 1, none⟩ = some (.int .i64 y.2) := cell_at hT0 rfl
    have he := cmpE_lt x y
    rw [he]
    clear he
    cases hq : Im.lt2 x y
    ·
      have hN := Lib.hid (PD.out lo hi m x hQ.out HX.out hq)
      clear hq hmid HM
      go_wp2
      go_roundw
      case rel => exact ⟨lo, m, rfl, rfl, hm1, by omega, hR, hN⟩
      case measure => simp [intOf]; omega
    ·
      have hN := Lib.hid (PU.out lo hi m x hQ.out HX.out hq)
      clear hq hmid HM
      go_wp2
      go_roundw
      case rel => exact ⟨m + 1, hi, by go_num, rfl, by omega, hhn, hR, hN⟩
      case measure => simp [intOf]; omega
  ·
    obtain rfl : hi = lo := by omega
    obtain rfl : PL = hi := PE.out _ hhn hQ.out
    clear PE PD PU hQ P0
    by_cases hn : PL < n
    ·
      obtain ⟨b, off, x, rfl, hx, hb, h0, h1⟩ := H.at (k := PL) hn
      have hd : decide ((PL : Int) < (n : Int)) = true := by simp; omega
      clear hx
      go_wp2_with fail
      refine wp_region_plan [(0, true), (1, true), (2, true), (3, true), (4, true), (5, true), (6, true), (7, true), (8, true), (9, true), (10, true), (11, false), (12, true), (13, true), (14, true), (15, true)] w1.heap.size (by kernel_rfl) (by kernel_rfl) (Nat.le_refl _) (fun _ _ d _ _ h => by cases d <;> exact h) ?_
      have hC : Below w1.heap.size w1 w1 := Below.refl _ _
      have zhT0 : w.heap.size < w1.heap.size := (Array.getElem?_eq_some_iff.1 hT0).1
      repeat (first | (refine wpPlanA_skip _ rfl (by rfl) ?_; simp only [Act.put, List.setIfInBounds_toArray, List.set_cons_zero, List.set_cons_succ]) | (refine wpPlanA_soft _ ?_ rfl (by rfl) ?_ ?_; rotate_left; (intro wq hq hcq; go_simp; first | exact rfl | exact ⟨rfl, rfl⟩); simp only [Act.put, List.setIfInBounds_toArray, List.set_cons_zero, List.set_cons_succ]))
      refine wpPlanA_hard _ rfl (by rfl) (fun w2 hS K hK => ?_)
      have hB2 := hB1.call hS rfl
      replace hC := hC.call hS rfl
      replace hT0 := blkb hT0 hS
      replace H := H.below hS
      replace hR := hR.call hS rfl
      clear hS hB1
      go_simp
      refine (c156 x.1 y.1 x.2 y.2 _).mono ?_
      rintro e w3 ⟨rfl, hb⟩
      have hB3 := hB2.call hb rfl
      replace hC := hC.call hb rfl
      replace hT0 := blkb hT0 hb
      replace H := H.below hb
      replace hR := hR.call hb rfl
      clear hb hB2
      refine hK _ _ hC ?_
      clear hK K
      try simp only [Act.put, List.setIfInBounds_toArray, List.set_cons_zero, List.set_cons_succ]
      repeat (first | (refine wpPlanA_skip _ rfl (by rfl) ?_; simp only [Act.put, List.setIfInBounds_toArray, List.set_cons_zero, List.set_cons_succ]) | (refine wpPlanA_soft _ ?_ rfl (by rfl) ?_ ?_; rotate_left; (intro wq hq hcq; go_simp; first | exact rfl | exact ⟨rfl, rfl⟩); simp only [Act.put, List.setIfInBounds_toArray, List.set_cons_zero, List.set_cons_succ]))
      clear h0 h1 hb
      clear qhT0_0 qhT0_1
      refine wpPlanA_nil (fun w4 hS => ?_)
      clear hC zhT0
      have hB4 := hB3.call hS rfl
      replace hT0 := blkb hT0 hS
      replace H := H.below hS
      replace hR := hR.call hS rfl
      clear hS hB3
      have qhT0_0 : w4.cell? ⟨w.heap.size, 0, none⟩ = some (.int .i64 (y.1 : Nat)) := cell_at hT0 rfl
      have qhT0_1 : w4.cell? ⟨w.heap.size, 1, none⟩ = some (.int .i64 y.2) := cell_at hT0 rfl
      go_wp2
      go_ret2
      exact ⟨_, rfl, hB4⟩
    ·
      have hd : decide ((PL : Int) < (n : Int)) = false := by simp; omega
      go_wp2_with fail
      refine wp_region_plan [(0, true), (1, true), (2, true), (3, true), (4, true), (5, true), (6, true), (7, true), (8, true), (9, true), (10, true), (11, false), (12, true), (13, true), (14, true), (15, true)] w1.heap.size (by kernel_rfl) (by kernel_rfl) (Nat.le_refl _) (fun _ _ d _ _ h => by cases d <;> exact h) ?_
      have hC : Below w1.heap.size w1 w1 := Below.refl _ _
      have zhT0 : w.heap.size < w1.heap.size := (Array.getElem?_eq_some_iff.1 hT0).1
      repeat (first | (refine wpPlanA_skip _ rfl (by rfl) ?_; simp only [Act.put, List.setIfInBounds_toArray, List.set_cons_zero, List.set_cons_succ]) | (refine wpPlanA_soft _ ?_ rfl (by rfl) ?_ ?_; rotate_left; (intro wq hq hcq; go_simp; first | exact rfl | exact ⟨rfl, rfl⟩); simp only [Act.put, List.setIfInBounds_toArray, List.set_cons_zero, List.set_cons_succ]))
      refine wpPlanA_hskip _ rfl (by rfl) ?_
      simp only [Act.put, List.setIfInBounds_toArray, List.set_cons_zero, List.set_cons_succ]
      repeat (first | (refine wpPlanA_skip _ rfl (by rfl) ?_; simp only [Act.put, List.setIfInBounds_toArray, List.set_cons_zero, List.set_cons_succ]) | (refine wpPlanA_soft _ ?_ rfl (by rfl) ?_ ?_; rotate_left; (intro wq hq hcq; go_simp; first | exact rfl | exact ⟨rfl, rfl⟩); simp only [Act.put, List.setIfInBounds_toArray, List.set_cons_zero, List.set_cons_succ]))
      clear qhT0_0 qhT0_1
      refine wpPlanA_nil (fun w2 hS => ?_)
      clear hC zhT0
      have hB2 := hB1.call hS rfl
      replace hT0 := blkb hT0 hS
      replace H := H.below hS
      replace hR := hR.call hS rfl
      clear hS hB1
      have qhT0_0 : w2.cell? ⟨w.heap.size, 0, none⟩ = some (.int .i64 (y.1 : Nat)) := cell_at hT0 rfl
      have qhT0_1 : w2.cell? ⟨w.heap.size, 1, none⟩ = some (.int .i64 y.2) := cell_at hT0 rfl
      go_wp2
      go_ret2
      exact ⟨_, rfl, hB2⟩
end Go.Proofs.YtdimmlljjmmdbaaGreatDoor
namespace Go.Proofs.YtdimmlljjmmdbaaGreatDoor
open Go.RowKit
set_option maxHeartbeats 4000000
set_option maxRecDepth 20000
theorem c185 (n : Nat) (w : World) (hn : n ≤ 1000000) : Calls Tryz.prog 185 #[.int .u64 1, .int .u64 n] w fun en w' => en = .returned (.tuple #[.int .u64 0, .int .u64 n]) ∧ w = w' := by
 have m1 : bits .and .u64 (1 : Int) 4294967295 = 1 := by
  have := Mul64.maskN 1 (by omega)
  simpa using this
 have m2 : bits .and .u64 (n : Int) 4294967295 = (n : Int) := by
  rw [Mul64.maskN n (by omega), Nat.mod_eq_of_lt (by omega)]
 have d1 : (n : Int) / 4294967296 = 0 := by omega
 have w1 : IntKind.u64.wrap (n : Int) = (n : Int) := Mul64.wrapN n (by omega)
 have w0 : IntKind.u64.wrap 0 = 0 := rfl
 have m3 : bits .and .u64 (0 : Int) 4294967295 = 0 := by
  have := Mul64.maskN 0 (by omega)
  simpa using this
 go_enter Tryz.func185, Tryz.ntmps185
 go_wp2
 go_ret2
 simp [m1, m2, d1, w1, w0, m3]
theorem c170 (n : Nat) (w : World) (hn : n ≤ 1000000) : Calls Tryz.prog 170 #[.int .u64 1, .int .u64 n] w fun en w' => en = .returned (.tuple #[.int .u64 0, .int .u64 n]) ∧ w = w' := by
 go_enter Tryz.func170, Tryz.ntmps170
 go_wp2_with (go_at_call 185; refine (c185 n _ hn).mono ?_; rintro e w' ⟨rfl, rfl⟩)
 go_ret2
 exact ⟨rfl, rfl⟩
theorem info3 : (Tryz.prog.info? 3).map (fun i => (i.zero, i.size, i.bytes)) = some (some (.int .i64 0), 1, 8) := by kernel_rfl
theorem fill_sets {g n : Nat} {z v : Value} {t : TypeId} {f : Nat × Nat} : ∀ (m k : Nat) (w : World), w.heap[g]? = some (.cells (fillA z (fun _ => v) n k) t f) → k + m ≤ n →
  (w.setCells g k (List.replicate m v)).heap[g]? = some (.cells (fillA z (fun _ => v) n (k + m)) t f)
 | 0, k, w, h, _ => h
 | m + 1, k, w, h, hk => by
  rw [List.replicate_succ]
  have h2 := set_blk (i := k) h v
  rw [fillA_set z (fun _ => v) n k (by omega)] at h2
  have := fill_sets m (k + 1) (w.setCell ⟨g, k, none⟩ v) h2 (by omega)
  rw [show k + (m + 1) = k + 1 + m by omega]
  exact this
theorem fill_cell {g n k j : Nat} {z v : Value} {t : TypeId} {f : Nat × Nat} {w : World} (h : w.heap[g]? = some (.cells (fillA z (fun _ => v) n k) t f)) (hj : j < n) : w.cell? ⟨g, j, none⟩ = some (if j < k then v else z) :=
 cell_at h (fillA_get z _ n k j hj)
theorem c154 (b o cap n : Nat) (w : World) (h1 : 1 ≤ n) (h2 : n ≤ 1000000) (H : RdI w (some ⟨b, o, none⟩) 1 [-1]) :
  Calls Tryz.prog 154 #[.slice (some ⟨b, o, none⟩) 1 cap, .int .i64 n] w fun en w' => ∃ g, en = .returned (.slice (some ⟨g, 0, none⟩) n n) ∧ w.heap.size ≤ g ∧ w'.heap[g]? = some (.cells (List.replicate n (Value.int .i64 (-1))).toArray 3 (0, 0)) ∧ Below w.heap.size w w' := by
 obtain ⟨i0, hi, hz0, hz1, hz2⟩ := info_parts info3
 have hmk := fun W => run_make_fill (P := Tryz.prog) 22 3 i0 (.int .i64 0) (fun _ => .int .i64 (-1)) Tryz.underlying22 hi hz0 hz1 rfl n (by omega) (by rw [hz2]; omega) W
 have hsz : (Tryz.prog.info? 3).map (·.size) = some 1 := by rw [hi]; simp [hz1]
 have hc0 : w.cell? ⟨b, o, none⟩ = some (.int .i64 (-1)) := H.get (k := 0) (by omega)
 have hb : b < w.heap.size := by obtain ⟨_, _, e, h⟩ := H.form (by omega); cases e; exact h
 obtain ⟨g, hg⟩ : ∃ g, g = w.heap.size := ⟨_, rfl⟩
 obtain ⟨W1, hW1⟩ : ∃ W, W = w.alloc (.cells (fillA (.int .i64 0) (fun _ => .int .i64 (-1)) n 0) 3) := ⟨_, rfl⟩
 have hk1 : W1.heap[g]? = some (.cells (fillA (.int .i64 0) (fun _ => .int .i64 (-1)) n 0) 3 (0, 0)) := by rw [hW1]; exact heap_new hg
 have hB1 : Below w.heap.size w W1 := by rw [hW1]; exact (Below.refl _ _).alloc (Nat.le_refl _) _
 have hcp1 : ∀ ty, (Builtin.copy_ #[22, 22] ty #[.slice (some ⟨g, 0, none⟩) n n, .slice (some ⟨b, o, none⟩) 1 cap]).run Tryz.prog W1 = .ok (.int .i64 1) (W1.setCells g 0 (List.replicate 1 (.int .i64 (-1)))) := fun ty =>
  Go.run_copy_cells W1 22 22 ty 3 g 0 n n ⟨b, o, none⟩ 1 cap [.int .i64 (-1)] Tryz.underlying22 hsz (by simp [Nat.min_def]; omega)
   (fun j v hj => by
    obtain ⟨hj1, rfl⟩ := List.getElem?_eq_some_iff.1 hj
    have : j = 0 := by simpa using hj1
    subst this
    exact ((bcell hB1).1 _ _ hb).trans hc0)
   (fun j hj => by rw [fill_cell hk1 (by simp at hj; omega)]; rfl) (fun j hj => free_at hk1) (by simp [Value.oneCell'])
 have hcp2 : ∀ (k : Nat) (W : World) ty dc sc, 1 ≤ k → k < n → W.heap[g]? = some (.cells (fillA (.int .i64 0) (fun _ => .int .i64 (-1)) n k) 3 (0, 0)) →
   (Builtin.copy_ #[22, 22] ty #[.slice (some ⟨g, k, none⟩) (n - k) dc, .slice (some ⟨g, 0, none⟩) k sc]).run Tryz.prog W = .ok (.int .i64 (min k (n - k) : Nat)) (W.setCells g k (List.replicate (min k (n - k)) (.int .i64 (-1)))) := fun k W ty dc sc h0 hk hW => by
  have := Go.run_copy_cells (P := Tryz.prog) W 22 22 ty 3 g k (n - k) dc ⟨g, 0, none⟩ k sc (List.replicate (min k (n - k)) (.int .i64 (-1))) Tryz.underlying22 hsz (by simp)
   (fun j v hj => by
    obtain ⟨hj1, rfl⟩ := List.getElem?_eq_some_iff.1 hj
    rw [List.length_replicate] at hj1
    have hadd : (⟨g, 0, none⟩ : Addr).add j = ⟨g, j, none⟩ := by unfold Addr.add; split <;> simp_all
    rw [hadd, fill_cell hW (by omega), if_pos (by omega), List.getElem_replicate])
   (fun j hj => by rw [List.length_replicate] at hj; rw [fill_cell hW (by omega)]; rfl) (fun j hj => free_at hW) (fun v hv => by rw [(List.mem_replicate.1 hv).2]; rfl)
  rw [List.length_replicate] at this
  exact this
 have hk2 := fill_sets 1 0 W1 hk1 (by omega)
 have hB2 : Below w.heap.size w (W1.setCells g 0 (List.replicate 1 (.int .i64 (-1)))) := below_setCells (by omega) _ _ _ hB1
 obtain ⟨W2, hW2⟩ : ∃ W, W = W1.setCells g 0 (List.replicate 1 (.int .i64 (-1))) := ⟨_, rfl⟩
 rw [← hW2] at hk2 hB2 hcp1
 have HCP2 := Lib.hid hcp2
 have hw1 : IntKind.u64.wrap (n : Int) = (n : Int) := Mul64.wrapN n (by omega)
 have hn0 : ¬ ((n : Int) < 0) := by omega
 have hn9 : decide (9223372036854775807 < (n : Int)) = false := by simp; omega
 have hcp3 := hcp1 3
 rw [hW1, hg] at hcp3
 clear hk1 hB1 hcp2 hcp1 H hc0 hW2
 go_enter Tryz.func154, Tryz.ntmps154
 go_wp2_with (go_at_call 170; refine (c170 n _ h2).mono ?_; rintro e w' ⟨rfl, rfl⟩)
 rw [← hg]
 clear hcp3 hmk
 have HG := Lib.hid hg
 have hgB : w.heap.size ≤ g := by omega
 clear hg hW1 W1
 go_loopw [8] (fun x wr => ∃ k : Nat, 1 ≤ k ∧ k ≤ n ∧ x = .int .i64 k ∧ Below w.heap.size w wr ∧ wr.heap[g]? = some (.cells (fillA (.int .i64 0) (fun _ => .int .i64 (-1)) n k) 3 (0, 0))) (fun x _ => n - (intOf x).toNat)
 case atStart => exact ⟨1, Nat.le_refl _, h1, rfl, hB2, hk2⟩
 case round =>
  clear hk2 hB2
  obtain ⟨k, hk0, hkn, rfl, hB, hk⟩ := hrel
  by_cases hlt : k < n
  ·have hnk : ¬ (n = k) := by omega
   have hkn2 : (k : Int) ≤ (n : Int) := by omega
   have hk02 : (0 : Int) ≤ (k : Int) := by omega
   go_wp2_with fail
   refine wp_region_plan [(0, true), (1, true), (2, true), (3, true), (4, true), (5, true), (6, true), (7, false), (8, true), (9, true)] w.heap.size (by kernel_rfl) (by kernel_rfl) hB.size (fun _ _ d _ _ h => by cases d <;> exact h) ?_
   repeat (first | (refine wpPlanA_skip _ rfl (by rfl) ?_; simp only [Act.put, List.setIfInBounds_toArray, List.set_cons_zero, List.set_cons_succ]) | (refine wpPlanA_soft _ ?_ rfl (by rfl) ?_ ?_; rotate_left; (intro wq hq hcq; go_simp; first | exact rfl | exact ⟨rfl, rfl⟩); simp only [Act.put, List.setIfInBounds_toArray, List.set_cons_zero, List.set_cons_succ]))
   refine wpPlanA_hard _ rfl (by rfl) (fun w3 hS K hK => ?_)
   have hk3 := blkb hk hS
   obtain ⟨m, hm⟩ : ∃ m, m = min k (n - k) := ⟨_, rfl⟩
   have hcp := fun ty dc sc => HCP2.out k w3 ty dc sc hk0 hlt hk3
   rw [← hm] at hcp
   have hkm := fill_sets m k w3 hk3 (by omega)
   have hm1 : 1 ≤ m ∧ k + m ≤ n := by omega
   clear hm
   have hB3 : Below w.heap.size wr w3 := hS.mono hB.size
   have hB4 : Below w.heap.size wr (w3.setCells g k (List.replicate m (Value.int .i64 (-1)))) := below_setCells hgB _ _ _ hB3
   obtain ⟨w4, hw4⟩ : ∃ W, W = w3.setCells g k (List.replicate m (Value.int .i64 (-1))) := ⟨_, rfl⟩
   rw [← hw4] at hcp hkm hB4
   clear hw4 hk3 hS hB3
   go_simp
   refine hK _ _ hB4 ?_
   clear hK K
   try simp only [Act.put, List.setIfInBounds_toArray, List.set_cons_zero, List.set_cons_succ]
   have hwk : IntKind.i64.wrap ((k : Int) + (m : Int)) = ((k + m : Nat) : Int) := by rw [wrapI (by omega)]; simp
   repeat (first | (refine wpPlanA_skip _ rfl (by rfl) ?_; simp only [Act.put, List.setIfInBounds_toArray, List.set_cons_zero, List.set_cons_succ]) | (refine wpPlanA_soft _ ?_ rfl (by rfl) ?_ ?_; rotate_left; (intro wq hq hcq; go_simp; first | exact rfl | exact ⟨rfl, rfl⟩); simp only [Act.put, List.setIfInBounds_toArray, List.set_cons_zero, List.set_cons_succ]))
   refine wpPlanA_nil (fun w5 hS => ?_)
   have hB5 : Below w.heap.size w w5 := (hB.trans hB4).trans (hS.mono (Nat.le_trans hB.size hB4.size))
   have hk5 := blkb hkm hS
   clear hS hB4 hcp hwk
   go_wp2
   go_roundw
   case rel => exact ⟨k + m, by omega, by omega, rfl, hB5, hk5⟩
   case measure => simp [intOf]; omega
  ·obtain rfl : k = n := by omega
   rw [fillA_full] at hk
   go_wp2
   go_ret
   refine ⟨g, rfl, hgB, ?_, hB⟩
   rw [hk]
   congr 3
   apply List.ext_getElem <;> simp
end Go.Proofs.YtdimmlljjmmdbaaGreatDoor
namespace Go.Proofs.YtdimmlljjmmdbaaGreatDoor
open Go.RowKit
set_option maxHeartbeats 4000000
set_option maxRecDepth 20000
/-- an array with a list laid from o on -/
def setsA (cs : Array Value) (o : Nat) : List Value → Array Value
 | [] => cs
 | v :: r => setsA (cs.setIfInBounds o v) (o + 1) r
theorem setsA_size : ∀ (vs : List Value) (cs : Array Value) (o : Nat), (setsA cs o vs).size = cs.size
 | [], _, _ => rfl
 | v :: r, cs, o => by rw [setsA, setsA_size r]; simp
theorem setsA_get : ∀ (vs : List Value) (cs : Array Value) (o j : Nat), o + vs.length ≤ cs.size → (setsA cs o vs)[j]? = if o ≤ j ∧ j < o + vs.length then vs[j - o]? else cs[j]?
 | [], cs, o, j, _ => by simp [setsA]; omega
 | v :: r, cs, o, j, h => by
  rw [setsA, setsA_get r _ _ _ (by simp at h ⊢; omega)]
  simp only [List.length_cons] at h ⊢
  by_cases hj : j = o
  ·subst hj
   rw [if_neg (by omega), if_pos (by omega), Array.getElem?_setIfInBounds_self_of_lt (by omega)]
   simp
  ·by_cases hin : o + 1 ≤ j ∧ j < o + 1 + r.length
   ·rw [if_pos hin, if_pos (by omega), show j - o = (j - (o + 1)) + 1 by omega]
    simp
   ·rw [if_neg hin, if_neg (by omega), Array.getElem?_setIfInBounds_ne (by omega)]
theorem heap_setsA : ∀ (vs : List Value) (o : Nat) (w : World) (b : Nat) (cs : Array Value) (t : TypeId) (f : Nat × Nat), w.heap[b]? = some (.cells cs t f) → (w.setCells b o vs).heap[b]? = some (.cells (setsA cs o vs) t f)
 | [], _, _, _, _, _, _, h => h
 | v :: r, o, w, b, cs, t, f, h => heap_setsA r (o + 1) _ b _ t f (set_blk h v)
theorem heap_setsO : ∀ (vs : List Value) (o : Nat) (w : World) (b g : Nat), g ≠ b → (w.setCells b o vs).heap[g]? = w.heap[g]?
 | [], _, _, _, _, _ => rfl
 | v :: r, o, w, b, g, h => (heap_setsO r (o + 1) _ b g h).trans (set_far v h)
theorem size_setsA : ∀ (vs : List Value) (o : Nat) (w : World) (b : Nat), (w.setCells b o vs).heap.size = w.heap.size
 | [], _, _, _ => rfl
 | v :: r, o, w, b => by rw [World.setCells, size_setsA r]; simp [World.setCell]
/-- 'copy' of whole elements of any size into the midst of a block -/
theorem run_copyN {P : Program} (w : World) (dT sT ty elem : TypeId) (b o dLen dCap : Nat) (a : Addr) (sLen sCap size m : Nat) (cs : List Value)
  (hu : P.underlying dT = some (.slice elem)) (hs : (P.info? elem).map (·.size) = some size) (hm : Nat.min sLen dLen = m) (hn : cs.length = m * size)
  (hsrc : ∀ j v, cs[j]? = some v → w.cell? (a.add j) = some v) (hc : ∀ j, j < cs.length → (w.cell? ⟨b, o + j, none⟩).isSome = true) (hf : ∀ j, j < cs.length → w.frozen? ⟨b, o + j, none⟩ = false) (h1 : ∀ v ∈ cs, v.oneCell' = true) :
  (Builtin.copy_ #[dT, sT] ty #[.slice (some ⟨b, o, none⟩) dLen dCap, .slice (some a) sLen sCap]).run P w = .ok (goInt m) (w.setCells b o cs) := by
 have hl := run_loadCells_list (P := P) w a cs hsrc
 have hst := run_storeCells_cells (P := P) b o cs 0 w (by simpa using hc) (by simpa using hf) h1
 cases hq : P.info? elem with
 | none => simp [hq] at hs
 | some i =>
  have hi : i.size = size := by simpa [hq] using hs
  simp [Builtin.copy_, run_underlying hu, Builtin.lenOf, Builtin.firstCells, sizeOf, typeInfo, hq, hi, hm, ← hn, hl, hst]
/-- the waiting list: own memory -/
structure WtE (w : World) (B b off n c : Nat) (l : List (Nat × Int)) : Prop where
 blk : ∃ cs : Array Value, w.heap[b]? = some (.cells cs 214 (0, 0)) ∧ off + c * 2 ≤ cs.size ∧ 0 < cs.size ∧ ∀ j, j < n * 2 → cs[off + j]? = (l.flatMap encE)[j]?
 len : l.length = n
 nc : n ≤ c
 cm : c ≤ 9223372036854775807
 lo : B ≤ b
theorem WtE.lt {w : World} {B b off n c : Nat} {l : List (Nat × Int)} (h : WtE w B b off n c l) : b < w.heap.size := by
 obtain ⟨cs, hk, _⟩ := h.blk
 exact (Array.getElem?_eq_some_iff.1 hk).1
theorem WtE.below {w w' : World} {B b off n c : Nat} {l : List (Nat × Int)} (h : WtE w B b off n c l) (hb : Below w.heap.size w w') : WtE w' B b off n c l := by
 obtain ⟨cs, hk, h2⟩ := h.blk
 exact ⟨⟨cs, blkb hk hb, h2⟩, h.len, h.nc, h.cm, h.lo⟩
theorem WtE.other {w : World} {B b off n c : Nat} {l : List (Nat × Int)} (h : WtE w B b off n c l) {p : Addr} (v : Value) (hp : b ≠ p.block) : WtE (w.setCell p v) B b off n c l := by
 obtain ⟨cs, hk, h2⟩ := h.blk
 exact ⟨⟨cs, (set_far v hp).trans hk, h2⟩, h.len, h.nc, h.cm, h.lo⟩
theorem WtE.cells {w : World} {B b off n c : Nat} {l : List (Nat × Int)} (h : WtE w B b off n c l) : ∀ j v, (l.flatMap encE)[j]? = some v → w.cell? ⟨b, off + j, none⟩ = some v := by
 obtain ⟨cs, hk, _, _, h2⟩ := h.blk
 intro j v hv
 have hj : j < (l.flatMap encE).length := (List.getElem?_eq_some_iff.1 hv).1
 rw [flat_len encE_len, h.len] at hj
 exact cell_at hk ((h2 j hj).trans hv)
theorem WtE.rd {w : World} {B b off n c : Nat} {l : List (Nat × Int)} (h : WtE w B b off n c l) : RdE w (some ⟨b, off, none⟩) n l := by
 refine ⟨by rw [flat_len encE_len, h.len], fun _ => ⟨b, off, rfl, h.lt, fun j hj => ?_⟩⟩
 rw [List.getElem?_eq_getElem hj]
 exact h.cells j _ (List.getElem?_eq_getElem hj)
theorem WtE.spare {w : World} {B b off n c : Nat} {l : List (Nat × Int)} (h : WtE w B b off n c l) {j : Nat} (hj : j < c * 2) : (w.cell? ⟨b, off + j, none⟩).isSome = true ∧ w.frozen? ⟨b, off + j, none⟩ = false := by
 obtain ⟨cs, hk, h1, _, _⟩ := h.blk
 refine ⟨?_, free_at hk⟩
 rw [cell_at hk (Array.getElem?_eq_getElem (by omega))]
 rfl
/-- the first one is taken off -/
theorem WtE.tail {w : World} {B b off n c : Nat} {x : Nat × Int} {l : List (Nat × Int)} (h : WtE w B b off (n + 1) (c + 1) (x :: l)) : WtE w B b (off + 2) n c l := by
 obtain ⟨cs, hk, h1, h0, h2⟩ := h.blk
 have hl := h.len
 refine ⟨⟨cs, hk, by omega, h0, fun j hj => ?_⟩, by simpa using hl, by have := h.nc; omega, by have := h.cm; omega, h.lo⟩
 have := h2 (j + 2) (by omega)
 rw [show off + 2 + j = off + (j + 2) by omega, this, List.flatMap_cons]
 rw [List.getElem?_append_right (by rw [encE_len]; omega), encE_len]
 simp
/-- where no room is left the address stays -/
theorem WtE.last {w : World} {B b off : Nat} {x : Nat × Int} (h : WtE w B b off 1 1 [x]) : WtE w B b off 0 0 [] := by
 obtain ⟨cs, hk, h1, h0, h2⟩ := h.blk
 exact ⟨⟨cs, hk, by omega, h0, fun j hj => by omega⟩, rfl, Nat.le_refl _, by omega, h.lo⟩
theorem flatE_take (l : List (Nat × Int)) (i : Nat) : (l.take i).flatMap encE = (l.flatMap encE).take (i * 2) := by
 induction l generalizing i with
 | nil => simp
 | cons a l ih =>
  cases i with
  | zero => simp
  | succ i =>
   rw [List.take_succ_cons, List.flatMap_cons, List.flatMap_cons, ih, List.take_append, encE_len]
   rw [List.take_of_length_le (l := encE a) (by rw [encE_len]; omega), show (i + 1) * 2 - 2 = i * 2 by omega]
theorem flatE_drop (l : List (Nat × Int)) (i : Nat) : (l.drop i).flatMap encE = (l.flatMap encE).drop (i * 2) := by
 induction l generalizing i with
 | nil => simp
 | cons a l ih =>
  cases i with
  | zero => simp
  | succ i =>
   rw [List.drop_succ_cons, List.flatMap_cons, ih, List.drop_append, encE_len]
   rw [List.drop_of_length_le (l := encE a) (by rw [encE_len]; omega), show (i + 1) * 2 - 2 = i * 2 by omega, List.nil_append]
theorem ins_get (l : List (Nat × Int)) (y : Nat × Int) (i j : Nat) (hi : i ≤ l.length) : ((l.take i ++ y :: l.drop i).flatMap encE)[j]? = if j < i * 2 then (l.flatMap encE)[j]? else if j < i * 2 + 2 then (encE y)[j - i * 2]? else (l.flatMap encE)[j - 2]? := by
 rw [List.flatMap_append, List.flatMap_cons, flatE_take, flatE_drop]
 have hlen : ((l.flatMap encE).take (i * 2)).length = i * 2 := by rw [List.length_take, flat_len encE_len]; omega
 by_cases h1 : j < i * 2
 ·rw [if_pos h1, List.getElem?_append_left (by omega), List.getElem?_take, if_pos h1]
 ·rw [if_neg h1, List.getElem?_append_right (by omega), hlen]
  by_cases h2 : j < i * 2 + 2
  ·rw [if_pos h2, List.getElem?_append_left (by rw [encE_len]; omega)]
  ·rw [if_neg h2, List.getElem?_append_right (by rw [encE_len]; omega), encE_len, List.getElem?_drop]
   congr 1
   omega
theorem encE_one {v : Value} {l : List (Nat × Int)} (h : v ∈ l.flatMap encE) : v.oneCell' = true := by
 obtain ⟨x, _, hx⟩ := List.mem_flatMap.1 h
 simp [encE] at hx
 rcases hx with rfl | rfl <;> rfl
theorem info214 : (Tryz.prog.info? 214).map (fun i => (i.zero, i.size, i.bytes)) = some (some (.agg #[.int .i64 0, .int .i64 0]), 2, 16) := by kernel_rfl
end Go.Proofs.YtdimmlljjmmdbaaGreatDoor
namespace Go.Proofs.YtdimmlljjmmdbaaGreatDoor
open Go.RowKit
set_option maxHeartbeats 4000000
set_option maxRecDepth 100000
/-- what Insert gives: the new list in own memory; other blocks as they were -/
def InsP (w : World) (B b : Nat) (l : List (Nat × Int)) (e : Ending) (w' : World) : Prop :=
 ∃ b' off' c', e = .returned (.slice (some ⟨b', off', none⟩) l.length c') ∧ WtE w' B b' off' l.length c' l ∧ Below B w w' ∧ (∀ k, k < w.heap.size → k ≠ b → w'.heap[k]? = w.heap[k]?) ∧ (b' = b ∨ w.heap.size ≤ b')
theorem ins_len (l : List (Nat × Int)) (y : Nat × Int) (i : Nat) (hi : i ≤ l.length) : (l.take i ++ y :: l.drop i).length = l.length + 1 := by
 simp; omega
theorem vs_cells {w : World} {vb : Nat} {y : Nat × Int} {t : TypeId} {f : Nat × Nat} (hv : w.heap[vb]? = some (.cells #[.int .i64 (y.1 : Nat), .int .i64 y.2] t f)) : ∀ j u, (encE y)[j]? = some u → w.cell? ((⟨vb, 0, none⟩ : Addr).add j) = some u := by
 intro j u hj
 have hadd : (⟨vb, 0, none⟩ : Addr).add j = ⟨vb, j, none⟩ := by unfold Addr.add; split <;> simp_all
 rw [hadd]
 exact cell_at hv (by simpa [encE] using hj)
theorem add_lit (b off j : Nat) : (⟨b, off, none⟩ : Addr).add j = ⟨b, off + j, none⟩ := by
 unfold Addr.add; split <;> simp_all
theorem c157_room (B b off n c vb : Nat) (l : List (Nat × Int)) (y : Nat × Int) (w : World) (H : WtE w B b off n c l) (hn : n ≤ 1000000) (hr : n + 1 ≤ c) (hv : w.heap[vb]? = some (.cells #[.int .i64 (y.1 : Nat), .int .i64 y.2] 214 (0, 0))) :
  Calls Tryz.prog 157 #[.slice (some ⟨b, off, none⟩) n c, .int .i64 n, .slice (some ⟨vb, 0, none⟩) 1 1] w (InsP w B b (l.take n ++ y :: l.drop n)) := by
 obtain ⟨i0, hi, hz0, hz1, hz2⟩ := info_parts info214
 have hsrc : Src Tryz.prog i0.size 215 (.slice (some ⟨vb, 0, none⟩) 1 1) 1 (encE y) w := by
  rw [hz1]
  exact Src.ofSlice w Tryz.underlying215 ⟨vb, 0, none⟩ 1 1 (encE y) (by simp [encE]) (vs_cells hv) (fun u hu => encE_one (l := [y]) (by simpa using hu))
 have hsp : ∀ j, j < (encE y).length → (w.cell? ⟨b, off + n * i0.size + j, none⟩).isSome = true ∧ w.frozen? ⟨b, off + n * i0.size + j, none⟩ = false := fun j hj => by
  rw [hz1, Nat.add_assoc]
  exact H.spare (by simp [encE] at hj; omega)
 obtain ⟨cs, hk, h1, h0, h2⟩ := H.blk
 have hlen := H.len
 have hfin : InsP w B b (l.take n ++ y :: l.drop n) (.returned (.slice (some ⟨b, off, none⟩) (n + 1) c)) (w.setCells b (off + n * 2) (encE y)) := by
  have hil := ins_len l y n (by omega)
  refine ⟨b, off, c, by rw [hil, hlen], ⟨⟨setsA cs (off + n * 2) (encE y), heap_setsA _ _ _ _ _ _ _ hk, by rw [setsA_size]; exact h1, by rw [setsA_size]; exact h0, fun j hj => ?_⟩, rfl, by omega, H.cm, H.lo⟩, below_setCells H.lo _ _ _ (Below.refl _ _), fun k _ hne => heap_setsO _ _ _ _ _ hne, .inl rfl⟩
  rw [setsA_get _ _ _ _ (by rw [encE_len]; omega), encE_len, ins_get l y n j (by omega)]
  rw [hil, hlen] at hj
  by_cases hj1 : j < n * 2
  ·rw [if_neg (by omega), if_pos hj1, h2 j hj1]
  ·rw [if_pos (by omega), if_neg hj1, if_pos (by omega)]
   congr 1
   omega
 have HF := Lib.hid hfin
 clear hfin hk h1 h0 h2
 go_enter Tryz.func157, Tryz.ntmps157
 go_wp2_with (at_builtin; refine wpList_append_room_src _ rfl _ _ 215 215 rfl 214 i0 Tryz.underlying215 hi b off n c rfl _ rfl 1 (encE y) hsrc hr (fun j hj => (hsp j hj).1) (fun j hj => (hsp j hj).2) ?_)
 go_ret
 exact HF.out
theorem c157_end (B b off n vb : Nat) (l : List (Nat × Int)) (y : Nat × Int) (w : World) (H : WtE w B b off n n l) (hn : n ≤ 1000000) (hB : B ≤ w.heap.size) (hv : w.heap[vb]? = some (.cells #[.int .i64 (y.1 : Nat), .int .i64 y.2] 214 (0, 0))) :
  Calls Tryz.prog 157 #[.slice (some ⟨b, off, none⟩) n n, .int .i64 n, .slice (some ⟨vb, 0, none⟩) 1 1] w (InsP w B b (l.take n ++ y :: l.drop n)) := by
 obtain ⟨i0, hi, hz0, hz1, hz2⟩ := info_parts info214
 have hsrc : Src Tryz.prog i0.size 215 (.slice (some ⟨vb, 0, none⟩) 1 1) 1 (encE y) w := by
  rw [hz1]
  exact Src.ofSlice w Tryz.underlying215 ⟨vb, 0, none⟩ 1 1 (encE y) (by simp [encE]) (vs_cells hv) (fun u hu => encE_one (l := [y]) (by simpa using hu))
 have hlen := H.len
 have hold : (Builtin.firstCells i0.size n (.slice (some ⟨b, off, none⟩) n n)).run Tryz.prog w.drew = .ok (l.flatMap encE).toArray w.drew := by
  rw [hz1]
  exact run_firstCells_some w.drew 2 n ⟨b, off, none⟩ n n _ (by rw [flat_len encE_len, hlen]) (fun j v hj => by rw [add_lit]; exact H.cells j v hj)
 have hrun := run_append_grow_src w 215 215 215 214 i0 _ Tryz.underlying215 hi hz0 (some ⟨b, off, none⟩) n n _ hold _ 1 (encE y) hsrc (by omega) (by omega) (by rw [hz2]; exact growslice_fits (by omega) (by omega))
 obtain ⟨G, hG⟩ : ∃ G, G = grownCap w (n + 1) n 214 := ⟨_, rfl⟩
 have hG1 : n + 1 ≤ G := by rw [hG]; exact grownCap_ge w _ _ _
 have hG2 : G ≤ 9223372036854775807 := by
  have := grownCap_le_maxLen w (n + 1) n 214 (by unfold maxLen; omega)
  rw [← hG] at this
  unfold maxLen at this
  omega
 rw [← hG] at hrun
 obtain ⟨W', hW'⟩ : ∃ W, W = w.drew.alloc (.cells ((l.flatMap encE ++ encE y).toArray ++ Builtin.zeroCells (Value.agg #[.int .i64 0, .int .i64 0]).cells (G - (n + 1))) 214) := ⟨_, rfl⟩
 rw [← hW'] at hrun
 have hfin : InsP w B b (l.take n ++ y :: l.drop n) (.returned (.slice (some ⟨w.heap.size, 0, none⟩) (n + 1) G)) W' := by
  have hil := ins_len l y n (by omega)
  have hbl : Below w.heap.size w W' := by rw [hW']; exact ((Below.refl w.heap.size w).drew).alloc (Nat.le_refl _) _
  have hzc : (Builtin.zeroCells (Value.agg #[.int .i64 0, .int .i64 0]).cells (G - (n + 1))).size = (G - (n + 1)) * 2 := by simp [Builtin.zeroCells, Value.cells]
  refine ⟨w.heap.size, 0, G, by rw [hil, hlen], ⟨⟨_, by rw [hW']; exact heap_new (by simp), ?_, ?_, fun j hj => ?_⟩, rfl, by omega, hG2, hB⟩, hbl.mono hB, fun k hk _ => hbl.block k hk, .inr (Nat.le_refl _)⟩
  ·rw [Array.size_append, hzc]; simp [flat_len encE_len, hlen, encE_len]; omega
  ·rw [Array.size_append]; simp [encE_len]; omega
  ·rw [hil, hlen] at hj
   rw [Nat.zero_add, Array.getElem?_append_left (by simp [flat_len encE_len, hlen, encE_len]; omega), ins_get l y n j (by omega), List.getElem?_toArray]
   by_cases hj1 : j < n * 2
   ·rw [if_pos hj1, List.getElem?_append_left (by rw [flat_len encE_len, hlen]; exact hj1)]
   ·rw [if_neg hj1, if_pos (by omega), List.getElem?_append_right (by rw [flat_len encE_len, hlen]; omega), flat_len encE_len, hlen]
 have HF := Lib.hid hfin
 clear hfin hW' hG H
 go_enter Tryz.func157, Tryz.ntmps157
 go_wp2_with (at_builtin; refine Lib.wpList_append_run _ rfl _ _ _ _ rfl _ _ rfl rfl _ _ hrun ?_)
 go_ret
 exact HF.out
end Go.Proofs.YtdimmlljjmmdbaaGreatDoor
namespace Go.Proofs.YtdimmlljjmmdbaaGreatDoor
open Go.RowKit
set_option maxHeartbeats 4000000
set_option maxRecDepth 100000
theorem c157_grow (B b off n i vb : Nat) (l : List (Nat × Int)) (y : Nat × Int) (w : World) (H : WtE w B b off n n l) (hn : n ≤ 1000000) (hi : i < n) (hB : B ≤ w.heap.size) (hvb : vb < w.heap.size) (hv : w.heap[vb]? = some (.cells #[.int .i64 (y.1 : Nat), .int .i64 y.2] 214 (0, 0))) :
  Calls Tryz.prog 157 #[.slice (some ⟨b, off, none⟩) n n, .int .i64 i, .slice (some ⟨vb, 0, none⟩) 1 1] w (InsP w B b (l.take i ++ y :: l.drop i)) := by
 obtain ⟨i0, hi0, hz0, hz1, hz2⟩ := info_parts info214
 have hsz : (Tryz.prog.info? 214).map (·.size) = some 2 := by rw [hi0]; simp [hz1]
 have hlen := H.len
 obtain ⟨g, hg⟩ : ∃ g, g = w.heap.size := ⟨_, rfl⟩
 have hold : (Builtin.firstCells i0.size i (.slice (some ⟨b, off, none⟩) i n)).run Tryz.prog w.drew = .ok ((l.take i).flatMap encE).toArray w.drew := by
  rw [hz1]
  refine run_firstCells_some w.drew 2 i ⟨b, off, none⟩ i n _ (by rw [flat_len encE_len, List.length_take]; omega) (fun j v hj => ?_)
  rw [add_lit]
  rw [flatE_take, List.getElem?_take] at hj
  split at hj
  ·exact H.cells j v hj
  ·cases hj
 have hrz := Lib.run_append_grow_zeros w 215 3 215 214 i0 _ .i64 .i64 Tryz.underlying215 Tryz.underlying3 hi0 hz0 (some ⟨b, off, none⟩) i n _ hold (n + 1 - i) (by omega) (by omega) (by omega) (by omega) (by rw [hz2]; omega) (by rw [hz2, show i + (n + 1 - i) = n + 1 by omega]; exact growslice_fits (by omega) (by omega))
 rw [show i + (n + 1 - i) = n + 1 by omega] at hrz
 rw [show ((n + 1 - i : Nat) : Int) = (n : Int) + 1 - (i : Int) by omega] at hrz
 obtain ⟨G, hG⟩ : ∃ G, G = grownCap w (n + 1) n 214 := ⟨_, rfl⟩
 have hG1 : n + 1 ≤ G := by rw [hG]; exact grownCap_ge w _ _ _
 have hG2 : G ≤ 9223372036854775807 := by
  have := grownCap_le_maxLen w (n + 1) n 214 (by unfold maxLen; omega)
  rw [← hG] at this
  unfold maxLen at this
  omega
 rw [← hG] at hrz
 obtain ⟨ROW, hROW⟩ : ∃ ROW : Array Value, ROW = ((l.take i).flatMap encE).toArray ++ Builtin.zeroCells (Value.agg #[.int .i64 0, .int .i64 0]).cells (n + 1 - i) ++ Builtin.zeroCells (Value.agg #[.int .i64 0, .int .i64 0]).cells (G - (n + 1)) := ⟨_, rfl⟩
 rw [← hROW, ← hg] at hrz
 have hRs : ROW.size = G * 2 := by
  rw [hROW]
  have hzc : ∀ k, (Builtin.zeroCells (Value.agg #[.int .i64 0, .int .i64 0]).cells k).size = k * 2 := fun k => by simp [Builtin.zeroCells, Value.cells]
  rw [Array.size_append, Array.size_append, hzc, hzc, List.size_toArray, flat_len encE_len, List.length_take]
  omega
 have hRc : ∀ j, j < i * 2 → ROW[j]? = (l.flatMap encE)[j]? := fun j hj => by
  have hl1 : ((l.take i).flatMap encE).length = i * 2 := by rw [flat_len encE_len, List.length_take]; omega
  rw [hROW, Array.append_assoc, Array.getElem?_append_left (by rw [List.size_toArray, hl1]; exact hj), List.getElem?_toArray, flatE_take, List.getElem?_take, if_pos hj]
 obtain ⟨W1, hW1⟩ : ∃ W1, W1 = w.drew.alloc (.cells ROW 214) := ⟨_, rfl⟩
 rw [← hW1] at hrz
 have hk1 : W1.heap[g]? = some (.cells ROW 214 (0, 0)) := by rw [hW1]; exact heap_new (by rw [hg]; simp)
 have hB1 : Below g w W1 := by rw [hW1, hg]; exact ((Below.refl w.heap.size w).drew).alloc (Nat.le_refl _) _
 have hcpA : ∀ ty dc, (Builtin.copy_ #[215, 215] ty #[.slice (some ⟨g, i * 2, none⟩) (n + 1 - i) dc, .slice (some ⟨vb, 0, none⟩) 1 1]).run Tryz.prog W1 = .ok (.int .i64 1) (W1.setCells g (i * 2) (encE y)) := fun ty dc =>
  run_copyN W1 215 215 ty 214 g (i * 2) (n + 1 - i) dc ⟨vb, 0, none⟩ 1 1 2 1 (encE y) Tryz.underlying215 hsz (by simp [Nat.min_def]; omega) rfl
   (vs_cells ((hB1.block vb (by omega)).trans hv))
   (fun j hj => by rw [encE_len] at hj; rw [cell_at hk1 (Array.getElem?_eq_getElem (by omega))]; rfl) (fun j _ => free_at hk1) (fun v hv => encE_one (l := [y]) (by simpa using hv))
 have hk2 := heap_setsA (encE y) (i * 2) W1 g ROW 214 (0, 0) hk1
 have hB2 : Below g w (W1.setCells g (i * 2) (encE y)) := below_setCells (Nat.le_refl _) _ _ _ hB1
 obtain ⟨W2, hW2⟩ : ∃ W2, W2 = W1.setCells g (i * 2) (encE y) := ⟨_, rfl⟩
 rw [← hW2] at hk2 hB2 hcpA
 have hdl : ((l.drop i).flatMap encE).length = (n - i) * 2 := by rw [flat_len encE_len, List.length_drop, hlen]
 have hcpB : Hid (∀ W, Below W2.heap.size W2 W → ∀ ty dc sc, (Builtin.copy_ #[215, 215] ty #[.slice (some ⟨g, (i + 1) * 2, none⟩) (n - i) dc, .slice (some ⟨b, off + i * 2, none⟩) (n - i) sc]).run Tryz.prog W = .ok (.int .i64 (n - i : Nat)) (W.setCells g ((i + 1) * 2) ((l.drop i).flatMap encE))) := Lib.hid (fun W hW ty dc sc => by
  have hkW := blkb hk2 hW
  have hBW : Below w.heap.size w W := by rw [← hg]; exact hB2.trans (hW.mono (by have := (Array.getElem?_eq_some_iff.1 hk2).1; omega))
  have HW := H.below hBW
  exact run_copyN W 215 215 ty 214 g ((i + 1) * 2) (n - i) dc ⟨b, off + i * 2, none⟩ (n - i) sc 2 (n - i) _ Tryz.underlying215 hsz (by simp) hdl
   (fun j v hj => by
    rw [add_lit, Nat.add_assoc]
    rw [flatE_drop, List.getElem?_drop] at hj
    exact HW.cells _ v hj)
   (fun j hj => by rw [hdl] at hj; rw [cell_at hkW (Array.getElem?_eq_getElem (by rw [setsA_size]; omega))]; rfl) (fun j _ => free_at hkW) (fun v hv => encE_one hv))
 have hfin : Hid (∀ W W3, Below W2.heap.size W2 W → W3 = W.setCells g ((i + 1) * 2) ((l.drop i).flatMap encE) → ∀ W4, Below W3.heap.size W3 W4 → InsP w B b (l.take i ++ y :: l.drop i) (.returned (.slice (some ⟨g, 0, none⟩) (n + 1) G)) W4) := Lib.hid (fun W W3 hW hW3 W4 hW4 => by
  have hkW := blkb hk2 hW
  have hgW2 := (Array.getElem?_eq_some_iff.1 hk2).1
  have hBW : Below g w W := hB2.trans (hW.mono (by omega))
  have hk3 := heap_setsA ((l.drop i).flatMap encE) ((i + 1) * 2) W g _ 214 (0, 0) hkW
  rw [← hW3] at hk3
  have hB3 : Below g w W3 := by rw [hW3]; exact below_setCells (Nat.le_refl _) _ _ _ hBW
  have hk4 := blkb hk3 hW4
  have hB4 : Below g w W4 := hB3.trans (hW4.mono (by have := (Array.getElem?_eq_some_iff.1 hk3).1; omega))
  have hil := ins_len l y i (by omega)
  refine ⟨g, 0, G, by rw [hil, hlen], ⟨⟨_, hk4, by rw [setsA_size, setsA_size]; omega, by rw [setsA_size, setsA_size]; omega, fun j hj => ?_⟩, rfl, by omega, hG2, by omega⟩, hB4.mono (by omega), fun k hk _ => hB4.block k (by omega), .inr (by omega)⟩
  rw [hil, hlen] at hj
  rw [Nat.zero_add, setsA_get _ _ _ _ (by rw [setsA_size, hdl]; omega), hdl, setsA_get _ _ _ _ (by rw [encE_len]; omega), encE_len, ins_get l y i j (by omega)]
  by_cases hj1 : j < i * 2
  ·rw [if_neg (by omega), if_neg (by omega), if_pos hj1]
   exact hRc j hj1
  ·by_cases hj2 : j < i * 2 + 2
   ·rw [if_neg (by omega), if_pos (by omega), if_neg hj1, if_pos hj2]
   ·rw [if_pos (by omega), if_neg hj1, if_neg hj2, flatE_drop, List.getElem?_drop]
    congr 1
    omega)
 have hgl : g ≤ W2.heap.size := Nat.le_of_lt (Array.getElem?_eq_some_iff.1 hk2).1
 have hgW : Hid (Below W2.heap.size W2 W2) := Lib.hid (Below.refl _ _)
 have t1 : ((i : Int) == (n : Int)) = false := by simp; omega
 have t2 : decide ((n : Int) < (n : Int) + 1) = true := by simp; omega
 have t3 : (i : Int) ≤ (n : Int) := by omega
 have t4 : (i : Int) ≤ (n : Int) + 1 := by omega
 have t5 : ¬ (G = i) := by omega
 have t6 : ¬ (n = i) := by omega
 have t7 : ¬ (G = i + 1) := by omega
 have t8 : (0 : Int) ≤ (n : Int) + 1 - (i : Int) := by omega
 have t9 : IntKind.i64.wrap ((i : Int) + 1) = ((i + 1 : Nat) : Int) := wrapN (x := i + 1) (by omega)
 have t12 : (0 : Int) ≤ (i : Int) + 1 := by omega
 have t10 : IntKind.i64.wrap ((n : Int) + 1) = (n : Int) + 1 := wrapI (by omega)
 have t11 : IntKind.i64.wrap ((n : Int) + 1 - (i : Int)) = (n : Int) + 1 - (i : Int) := wrapI (by omega)
 clear hW1 hW2 hROW hG H hold hRs hRc hk1 hB1 hk2 hB2 hdl hg
 go_enter Tryz.func157, Tryz.ntmps157
 go_wp2_with (first
  | (at_builtin; refine Lib.wpList_append_run _ rfl _ _ _ _ rfl _ _ rfl rfl _ _ hrz ?_)
  | (at_builtin; refine wpList_copy_runI _ rfl _ _ 215 215 rfl _ _ rfl rfl (hcpA _ _) ?_))
 refine wp_region_plan [(0, true), (1, true), (2, true), (3, true), (4, true), (5, true), (6, true), (7, true), (8, false)] g (by kernel_rfl) (by kernel_rfl) hgl (fun _ _ d _ _ h => by cases d <;> exact h) ?_
 repeat (first | (refine wpPlanA_skip _ rfl (by rfl) ?_; simp only [Act.put, List.setIfInBounds_toArray, List.set_cons_zero, List.set_cons_succ]) | (refine wpPlanA_soft _ ?_ rfl (by rfl) ?_ ?_; rotate_left; (intro wq hq hcq; go_simp; first | exact rfl | exact ⟨rfl, rfl⟩); simp only [Act.put, List.setIfInBounds_toArray, List.set_cons_zero, List.set_cons_succ]))
 refine wpPlanA_hard _ rfl (by rfl) (fun w3 hS K hK => ?_)
 have hcp := hcpB.out w3 hS
 obtain ⟨w4, hw4⟩ : ∃ W, W = w3.setCells g ((i + 1) * 2) ((l.drop i).flatMap encE) := ⟨_, rfl⟩
 have hF := Lib.hid (hfin.out w3 w4 hS hw4)
 have hB4 : Below g W2 w4 := by rw [hw4]; exact below_setCells (Nat.le_refl _) _ _ _ (hS.mono hgl)
 rw [← hw4] at hcp
 clear hw4
 go_simp
 refine hK _ _ hB4 ?_
 clear hK K
 try simp only [Act.put, List.setIfInBounds_toArray, List.set_cons_zero, List.set_cons_succ]
 refine wpPlanA_nil (fun w5 hS5 => ?_)
 have HF := Lib.hid (hF.out w5 hS5)
 clear hcp hS hF hB4 hS5 hcpB hfin
 go_wp2
 go_ret
 exact HF.out
theorem c157_shift (B b off n c i vb : Nat) (l : List (Nat × Int)) (y : Nat × Int) (w : World) (H : WtE w B b off n c l) (hn : n ≤ 1000000) (hi : i < n) (hr : n + 1 ≤ c) (hB : B ≤ w.heap.size) (hvb : vb ≠ b) (hv : w.heap[vb]? = some (.cells #[.int .i64 (y.1 : Nat), .int .i64 y.2] 214 (0, 0))) :
  Calls Tryz.prog 157 #[.slice (some ⟨b, off, none⟩) n c, .int .i64 i, .slice (some ⟨vb, 0, none⟩) 1 1] w (InsP w B b (l.take i ++ y :: l.drop i)) := by
 obtain ⟨i0, hi0, hz0, hz1, hz2⟩ := info_parts info214
 have hsz : (Tryz.prog.info? 214).map (·.size) = some 2 := by rw [hi0]; simp [hz1]
 have hsz2 : ∀ w, (Go.sizeOf 214).run Tryz.prog w = .ok 2 w := fun w => by simp [Go.sizeOf, typeInfo, hi0, hz1]
 have hlen := H.len
 have hcm := H.cm
 have hlo := H.lo
 have hblt := H.lt
 obtain ⟨cs, hk, h1, h0, h2⟩ := H.blk
 have hov : ∀ lb cb, (callFunc 173 #[.slice (some ⟨vb, 0, none⟩) 1 1, .slice (some ⟨b, off + (i + 1) * 2, none⟩) lb cb]).run Tryz.prog w = .ok (.value (.bool false)) w := fun lb cb => by
  rw [run_callFunc_extern Tryz.func173 (by kernel_rfl) (by kernel_rfl) (by kernel_rfl) (e := Extern.SlicesOverlaps.overlaps #[215, 215] #[4]) (by kernel_rfl),
   Lib.run_overlaps_apart w 215 4 214 Tryz.underlying215 2 hsz2 ⟨vb, 0, none⟩ ⟨b, off + (i + 1) * 2, none⟩ 1 1 lb cb hvb 214 214 2 cs.size (by simp [World.shape?, hv]) (by simp [World.shape?, hk]) (by omega) (free_at hv) (free_at hv)]
  rfl
 have hdl : ((l.drop i).flatMap encE).length = (n - i) * 2 := by rw [flat_len encE_len, List.length_drop, hlen]
 have hcpB : Hid (∀ W, Below w.heap.size w W → ∀ ty dc sc, (Builtin.copy_ #[215, 215] ty #[.slice (some ⟨b, off + (i + 1) * 2, none⟩) (n - i) dc, .slice (some ⟨b, off + i * 2, none⟩) (n + 1 - i) sc]).run Tryz.prog W = .ok (.int .i64 (n - i : Nat)) (W.setCells b (off + (i + 1) * 2) ((l.drop i).flatMap encE))) := Lib.hid (fun W hW ty dc sc => by
  have hkW := blkb hk hW
  have HW := H.below hW
  exact run_copyN W 215 215 ty 214 b (off + (i + 1) * 2) (n - i) dc ⟨b, off + i * 2, none⟩ (n + 1 - i) sc 2 (n - i) _ Tryz.underlying215 hsz (by simp [Nat.min_def]; omega) hdl
   (fun j v hj => by
    rw [add_lit, Nat.add_assoc]
    rw [flatE_drop, List.getElem?_drop] at hj
    exact HW.cells _ v hj)
   (fun j hj => by rw [hdl] at hj; rw [cell_at hkW (Array.getElem?_eq_getElem (by omega))]; rfl) (fun j _ => free_at hkW) (fun v hv => encE_one hv))
 have hcpA : Hid (∀ W W3, Below w.heap.size w W → W3 = W.setCells b (off + (i + 1) * 2) ((l.drop i).flatMap encE) → ∀ W4, Below W3.heap.size W3 W4 →
   (∀ ty dc, (Builtin.copy_ #[215, 215] ty #[.slice (some ⟨b, off + i * 2, none⟩) (n + 1 - i) dc, .slice (some ⟨vb, 0, none⟩) 1 1]).run Tryz.prog W4 = .ok (.int .i64 1) (W4.setCells b (off + i * 2) (encE y))) ∧
   InsP w B b (l.take i ++ y :: l.drop i) (.returned (.slice (some ⟨b, off, none⟩) (n + 1) c)) (W4.setCells b (off + i * 2) (encE y))) := Lib.hid (fun W W3 hW hW3 W4 hW4 => by
  have hkW := blkb hk hW
  have hk3 := heap_setsA ((l.drop i).flatMap encE) (off + (i + 1) * 2) W b _ 214 (0, 0) hkW
  have hvW := blkb hv hW
  have hv3 : W3.heap[vb]? = some (.cells #[.int .i64 (y.1 : Nat), .int .i64 y.2] 214 (0, 0)) := by rw [hW3]; exact (heap_setsO _ _ _ _ _ hvb).trans hvW
  rw [← hW3] at hk3
  have hk4 := blkb hk3 hW4
  have hv4 := blkb hv3 hW4
  have hs3 : W3.heap.size = W.heap.size := by rw [hW3, size_setsA]
  have hB3 : Below B w W3 := by rw [hW3]; exact below_setCells hlo _ _ _ (hW.mono hB)
  have hB4 : Below B w W4 := hB3.trans (hW4.mono (by rw [hs3]; have := hW.size; omega))
  refine ⟨fun ty dc => run_copyN W4 215 215 ty 214 b (off + i * 2) (n + 1 - i) dc ⟨vb, 0, none⟩ 1 1 2 1 (encE y) Tryz.underlying215 hsz (by simp [Nat.min_def]; omega) rfl (vs_cells hv4)
   (fun j hj => by rw [encE_len] at hj; rw [cell_at hk4 (Array.getElem?_eq_getElem (by rw [setsA_size]; omega))]; rfl) (fun j _ => free_at hk4) (fun v hv => encE_one (l := [y]) (by simpa using hv)), ?_⟩
  have hil := ins_len l y i (by omega)
  have hk5 := heap_setsA (encE y) (off + i * 2) W4 b _ 214 (0, 0) hk4
  refine ⟨b, off, c, by rw [hil, hlen], ⟨⟨_, hk5, by rw [setsA_size, setsA_size]; omega, by rw [setsA_size, setsA_size]; omega, fun j hj => ?_⟩, rfl, by omega, hcm, hlo⟩, below_setCells hlo _ _ _ hB4, fun k hk6 hne => ?_, .inl rfl⟩
  ·rw [hil, hlen] at hj
   rw [setsA_get _ _ _ _ (by rw [setsA_size, encE_len]; omega), encE_len, setsA_get _ _ _ _ (by rw [hdl]; omega), hdl, ins_get l y i j (by omega)]
   by_cases hj1 : j < i * 2
   ·rw [if_neg (by omega), if_neg (by omega), if_pos hj1]
    exact h2 j (by omega)
   ·by_cases hj2 : j < i * 2 + 2
    ·rw [if_pos (by omega), if_neg hj1, if_pos hj2]
     congr 1
     omega
    ·rw [if_neg (by omega), if_pos (by omega), if_neg hj1, if_neg hj2, flatE_drop, List.getElem?_drop]
     congr 1
     omega
  ·rw [heap_setsO _ _ _ _ _ hne, hW4.block k (by rw [hs3]; have := hW.size; omega), hW3, heap_setsO _ _ _ _ _ hne, hW.block k hk6])
 have t1 : ((i : Int) == (n : Int)) = false := by simp; omega
 have t2 : decide ((c : Int) < (n : Int) + 1) = false := by simp; omega
 have t3 : (i : Int) ≤ (n : Int) := by omega
 have t4 : (i : Int) ≤ (n : Int) + 1 := by omega
 have t5 : ¬ (c = i) := by omega
 have t7 : ¬ (c = i + 1) := by omega
 have t12 : (0 : Int) ≤ (i : Int) + 1 := by omega
 have t13 : (n : Int) + 1 ≤ (c : Int) := by omega
 have t14 : (0 : Int) ≤ (n : Int) + 1 := by omega
 have t9 : IntKind.i64.wrap ((i : Int) + 1) = ((i + 1 : Nat) : Int) := wrapN (x := i + 1) (by omega)
 have t10 : IntKind.i64.wrap ((n : Int) + 1) = (n : Int) + 1 := wrapI (by omega)
 clear H hdl hk h1 h0 h2
 go_enter Tryz.func157, Tryz.ntmps157
 go_wp2_with (simp only [hov])
 refine wp_region_plan [(0, true), (1, true), (2, true), (3, true), (4, true), (5, true), (6, true), (7, true), (8, false)] B (by kernel_rfl) (by kernel_rfl) hB (fun _ _ d _ _ h => by cases d <;> exact h) ?_
 repeat (first | (refine wpPlanA_skip _ rfl (by rfl) ?_; simp only [Act.put, List.setIfInBounds_toArray, List.set_cons_zero, List.set_cons_succ]) | (refine wpPlanA_soft _ ?_ rfl (by rfl) ?_ ?_; rotate_left; (intro wq hq hcq; go_simp; first | exact rfl | exact ⟨rfl, rfl⟩); simp only [Act.put, List.setIfInBounds_toArray, List.set_cons_zero, List.set_cons_succ]))
 refine wpPlanA_hard _ rfl (by rfl) (fun w3 hS K hK => ?_)
 have hcp := hcpB.out w3 hS
 obtain ⟨w4, hw4⟩ : ∃ W, W = w3.setCells b (off + (i + 1) * 2) ((l.drop i).flatMap encE) := ⟨_, rfl⟩
 have hF := Lib.hid (hcpA.out w3 w4 hS hw4)
 have hB4 : Below B w w4 := by rw [hw4]; exact below_setCells hlo _ _ _ (hS.mono hB)
 rw [← hw4] at hcp
 clear hw4
 go_simp
 refine hK _ _ hB4 ?_
 clear hK K
 try simp only [Act.put, List.setIfInBounds_toArray, List.set_cons_zero, List.set_cons_succ]
 refine wpPlanA_nil (fun w5 hS5 => ?_)
 obtain ⟨hcp5, hf5⟩ := hF.out w5 hS5
 have HF := Lib.hid hf5
 clear hcp hS hF hB4 hS5 hcpB hcpA hf5 hov
 go_wp2_with (at_builtin; refine wpList_copy_runI _ rfl _ _ 215 215 rfl _ _ rfl rfl (hcp5 _ _) ?_)
 go_ret
 exact HF.out
theorem c157 (B b off n c i vb : Nat) (l : List (Nat × Int)) (y : Nat × Int) (w : World) (H : WtE w B b off n c l) (hn : n ≤ 1000000) (hi : i ≤ n) (hB : B ≤ w.heap.size) (hvb : vb ≠ b) (hv : w.heap[vb]? = some (.cells #[.int .i64 (y.1 : Nat), .int .i64 y.2] 214 (0, 0))) :
  Calls Tryz.prog 157 #[.slice (some ⟨b, off, none⟩) n c, .int .i64 i, .slice (some ⟨vb, 0, none⟩) 1 1] w (InsP w B b (l.take i ++ y :: l.drop i)) := by
 have hvw := (Array.getElem?_eq_some_iff.1 hv).1
 have hnc := H.nc
 rcases Nat.lt_or_ge i n with h | h
 ·rcases Nat.lt_or_ge n c with h2 | h2
  ·exact c157_shift B b off n c i vb l y w H hn h (by omega) hB hvb hv
  ·obtain rfl : c = n := by omega
   exact c157_grow B b off c i vb l y w H hn h hB hvw hv
 ·obtain rfl : i = n := by omega
  rcases Nat.lt_or_ge i c with h2 | h2
  ·exact c157_room B b off i c vb l y w H hn (by omega) hv
  ·obtain rfl : c = i := by omega
   exact c157_end B b off c vb l y w H hn hB hv
end Go.Proofs.YtdimmlljjmmdbaaGreatDoor
namespace Go.Proofs.YtdimmlljjmmdbaaGreatDoor
open Go.RowKit Go.Shelf
set_option maxHeartbeats 4000000
set_option maxRecDepth 100000
/-- the loop's record, ready or done, and the block of what is deferred -/
structure LineRec (w W : World) (r : Loop) : Prop where
 lp : W.heap[w.heap.size + 1]? = some (.loop r)
 defd : W.heap[w.heap.size]? = some (.deferred (some []))
theorem LineRec.grow {w W W' : World} {r : Loop} (h : LineRec w W r) (hb : Below W.heap.size W W') : LineRec w W' r := ⟨blkb h.lp hb, blkb h.defd hb⟩
theorem LineRec.set {w W : World} {r : Loop} (h : LineRec w W r) (a : Addr) (v : Value) (ha : a.block < w.heap.size) : LineRec w (W.setCell a v) r :=
 ⟨(Below.heap_setCell W a v _ (by omega)).trans h.lp, (Below.heap_setCell W a v _ (by omega)).trans h.defd⟩
theorem LineRec.put {w W : World} {r : Loop} (h : LineRec w W r) (r' : Loop) : LineRec w (W.putObj (w.heap.size + 1) (.loop r')) r' :=
 ⟨World.putObj_heap_same (Array.getElem?_eq_some_iff.1 h.lp).1, (World.putObj_heap_other (by omega)).trans h.defd⟩
theorem LineRec.kept {w W W' : World} {r : Loop} (h : LineRec w W r) (hk : KeepsFrom w.heap.size W W') : LineRec w W' r := ⟨hk.same _ _ (by omega) h.lp rfl, hk.same _ _ (Nat.le_refl _) h.defd rfl⟩
theorem own_put {w W : World} {I : World → Prop} {r r' : Loop} (hI : OwnFrom w.heap.size (fun (_ : Unit) => I)) (h : I W) (hr : LineRec w W r) : I (W.putObj (w.heap.size + 1) (.loop r')) :=
 hI.putObj (s := ()) (.loop r') h (by omega) hr.lp rfl
theorem own_grow {B : Nat} {W W' : World} {I : World → Prop} (hI : OwnFrom B (fun (_ : Unit) => I)) (h : I W) (hb : Below W.heap.size W W') : I W' :=
 hI () W W' none h (grownBy_of_below hb none) (fun r e => by cases e)
theorem below2 (w : World) (o o2 : Obj) : Below w.heap.size w ((w.alloc o).alloc o2) := ((Below.refl _ w).alloc (Nat.le_refl _) _).alloc (by simp) _
/-- how a round may be left: off its end, or by the one jump 'jmp' -/
def NbPost (B : Nat) (I Ix : World → Prop) (jmp : Code) (W : World) : Exit → Act → World → Prop
 | .normal, _, W' => KeepsFrom B W W' ∧ I W'
 | .ret, _, W' => jmp = .ret ∧ KeepsFrom B W W' ∧ Ix W'
 | .exit id, _, W' => jmp = .exit id ∧ KeepsFrom B W W' ∧ Ix W'
 | .goto _, _, _ => False
 | .panic _, _, _ => False
 | .outgrown, _, _ => False
/-- 'for k, n := range g.neighbours(i)': an invariant of the neighbours that are done, and one walk of the body -/
theorem wpIn_nbs {ps : Array Tmp} {assign body : Code} {Q : Exit → Act → World → Prop} {a : Act} {w : World} {n : Nat} (hn : 2 ≤ n) {f : Operand} {pi pg : Nat} {c r : Nat} {l : List Int} (g : Im.Gr c r l) (hc : c ≤ 16) (hr : r ≤ 16) {A : Option Addr} {N cap : Nat} {i : Nat} (hi : i < l.length)
  (hf : a.eval f = .func (.func 158) #[] #[.pointer (some ⟨pi, 0, none⟩), .pointer (some ⟨pg, 0, none⟩)]) (hps : ps.size = 2)
  (jmp : Code) (I : List (Nat × Int) → World → Prop) (Ix : World → Prop)
  (hI : ∀ pre, OwnFrom w.heap.size (fun (_ : Unit) => I pre)) (hIx : OwnFrom w.heap.size (fun (_ : Unit) => Ix))
  (hK : ∀ pre W, I pre W → NbW W pi pg c r A N cap l i) (h0 : I [] w) (a₁ : Nat × Int → Act)
  (hassign : ∀ (lr : Nat) (x : Nat × Int) (W : World) (K : Act → World → Prop), K (a₁ x) W →
   assign.wpIn (Fence.wide.inRound lr) (n - 1 - 1) Tryz.prog (Exit.then K (fun _ _ _ => False)) { tmps := (ps.zip #[.int .i64 (x.1 : Nat), .int .i64 x.2]).foldl (fun t (p, v) => t.setIfInBounds p v) a.tmps, defers := [] } W)
  (hbody : ∀ (lr : Nat) (pre : List (Nat × Int)) (x : Nat × Int) (suf : List (Nat × Int)) (W : World), Im.nbs c r l i = pre ++ x :: suf → w.heap.size ≤ W.heap.size → I pre W → body.wpIn (Fence.wide.inRound lr) (n - 1 - 1) Tryz.prog (NbPost w.heap.size (I (pre ++ [x])) Ix jmp W) (a₁ x) W)
  (hdone : ∀ (D : Nat) (W : World), w.heap.size ≤ D → I (Im.nbs c r l i) W → W.heap[D]? = some (.deferred (some [])) → Q .normal { a with defers := { target := .collected D, args := #[] } :: a.defers } W)
  (hstop : ∀ (D : Nat) (W : World), w.heap.size ≤ D → Ix W → W.heap[D]? = some (.deferred (some [])) → jmp.wpIn Fence.wide n Tryz.prog Q { a with defers := { target := .collected D, args := #[] } :: a.defers } W) :
  (Code.rangeFunc f ps assign body).wpIn Fence.wide n Tryz.prog Q a w := by
 refine wpIn_rangeFunc fun fn hfn => ?_
 obtain ⟨rc, hrc⟩ : ∃ rc : LoopState → Option Code → Loop, rc = fun st pe => { state := st, pending := pe, fn, tmps := a.tmps, params := ps, assign, body, defers := w.heap.size } := ⟨_, rfl⟩
 obtain ⟨W1, hW1⟩ : ∃ W1, W1 = (w.alloc (.deferred (some []))).alloc (.loop (rc .ready none)) := ⟨_, rfl⟩
 have hb1 : Below w.heap.size w W1 := by rw [hW1]; exact below2 _ _ _
 have hrec : LineRec w W1 (rc .ready none) := by
  rw [hW1]
  exact ⟨heap_new (by simp), heap_old (by simp) (heap_new rfl)⟩
 have hgo := nbs_in (n - 1) (by omega) (w.heap.size + 1) pi pg g hc hr (A := A) (N := N) (cap := cap) hi (fun pre W => I pre W ∧ LineRec w W (rc .ready none)) (fun W => Ix W ∧ LineRec w W (rc .done (some jmp)))
  (fun pre W h => hK pre W h.1)
  (fun pre W W2 h hb => ⟨own_grow (hI pre) h.1 hb, h.2.grow hb⟩)
  ?hY W1 ⟨own_grow (hI []) h0 hb1, hrec⟩
 case hY =>
  rintro pre x suf W he ⟨hi1, hr1⟩
  have hy := run_yield (P := Tryz.prog) (args := #[.int .i64 (x.1 : Nat), .int .i64 x.2]) hr1.lp (by rw [hrc]; simpa using hps.symm)
  rw [hrc] at hy
  refine ⟨fn, _, assign, body, hy, roundIn_of_wpIn hfn (hassign _ x W _ ⟨_, run_beginRound hr1.lp (by rw [hrc]), ?_⟩)⟩
  have hr2 := hr1.put { rc .ready none with state := .busy }
  have hsz : w.heap.size ≤ (W.putObj (w.heap.size + 1) (.loop { rc .ready none with state := .busy })).heap.size := by
   have := (Array.getElem?_eq_some_iff.1 hr2.lp).1
   omega
  refine wpIn_mono (hbody (w.heap.size + 1) pre x suf _ he hsz (own_put (hI pre) hi1 hr1)) ?_
  rintro e a3 W3 hp
  have fin : ∀ (jump : Option Code), KeepsFrom w.heap.size (W.putObj (w.heap.size + 1) (.loop { rc .ready none with state := .busy })) W3 →
    (Instr.endRound (w.heap.size + 1) jump).run Tryz.prog W3 = .ok (.bool jump.isNone) (W3.putObj (w.heap.size + 1) (.loop (rc (if jump.isNone then .ready else .done) jump))) := fun jump hk => by
   have hl3 := (hr2.kept hk).lp
   rw [hrc] at hl3
   have := run_endRound (P := Tryz.prog) jump hl3
   rw [hrc]
   exact this
  cases e with
  | normal =>
   obtain ⟨hk, hi3⟩ := hp
   exact ⟨_, _, fin none hk, .inl ⟨rfl, own_put (hI _) hi3 (hr2.kept hk), (hr2.kept hk).put _⟩⟩
  | ret =>
   obtain ⟨rfl, hk, hi3⟩ := hp
   exact ⟨_, _, fin (some .ret) hk, .inr ⟨rfl, own_put hIx hi3 (hr2.kept hk), (hr2.kept hk).put _⟩⟩
  | exit id =>
   obtain ⟨rfl, hk, hi3⟩ := hp
   exact ⟨_, _, fin (some (.exit id)) hk, .inr ⟨rfl, own_put hIx hi3 (hr2.kept hk), (hr2.kept hk).put _⟩⟩
  | goto t => exact hp.elim
  | panic ch => exact hp.elim
  | outgrown => exact hp.elim
 have hen : (Instr.enterLoop fn a.tmps ps assign body Fence.wide.round).run Tryz.prog w = .ok (w.heap.size + 1, [{ target := .collected w.heap.size, args := #[] }]) W1 := by
  rw [hW1, hrc]; exact run_enterLoop_outer _ _ _ _ _
 refine ⟨w.heap.size + 1, [{ target := .collected w.heap.size, args := #[] }], W1, { target := .fn (.func 158) #[.pointer (some ⟨pi, 0, none⟩), .pointer (some ⟨pg, 0, none⟩)], args := #[.func (.yield (w.heap.size + 1)) #[] #[]] }, W1, 158,
  #[.func (.yield (w.heap.size + 1)) #[] #[]] ++ #[.pointer (some ⟨pi, 0, none⟩), .pointer (some ⟨pg, 0, none⟩)], W1, hen, ?_, fun _ _ => trivial, ?_, fun _ => by omega, ?_⟩
 ·simp only [resolve, hf]
  simp [go_sem]
 ·simp [invoke, go_sem, enters_of Tryz.func158 (by kernel_rfl) rfl]
 refine hgo.mono ?_
 rintro e W2 ⟨⟨v, rfl⟩, (⟨hi2, hr2⟩ | ⟨hx, hr2⟩)⟩
 ·exact ⟨none, _, by have := run_endLoop (P := Tryz.prog) hr2.lp (by rw [hrc]; simp); rw [hrc] at this; exact this, hdone _ _ (Nat.le_refl _) (own_put (hI _) hi2 hr2) (hr2.put _).defd⟩
 ·exact ⟨some jmp, _, by have := run_endLoop (P := Tryz.prog) hr2.lp (by rw [hrc]; simp); rw [hrc] at this; exact this, hstop _ _ (Nat.le_refl _) (own_put hIx hx hr2) (hr2.put _).defd⟩
end Go.Proofs.YtdimmlljjmmdbaaGreatDoor
namespace Go.Proofs.YtdimmlljjmmdbaaGreatDoor
open Go.RowKit
set_option maxHeartbeats 4000000
set_option maxRecDepth 100000
/-- the marks that loops over functions leave among the deferred calls -/
def MarkL (Ds : List Nat) : List Deferred := Ds.map fun D => { target := .collected D, args := #[] }
def Marks (B : Nat) (Ds : List Nat) (w : World) : Prop := Ds.Nodup ∧ ∀ D ∈ Ds, B ≤ D ∧ w.heap[D]? = some (.deferred (some []))
theorem Marks.nil (B : Nat) (w : World) : Marks B [] w := ⟨List.nodup_nil, fun _ h => by cases h⟩
theorem Marks.lt {B : Nat} {Ds : List Nat} {w : World} (h : Marks B Ds w) : ∀ D ∈ Ds, D < w.heap.size := fun D hD => (Array.getElem?_eq_some_iff.1 (h.2 D hD).2).1
theorem Marks.push {B : Nat} {Ds : List Nat} {w W : World} (h0 : Marks B Ds w) (h : Marks B Ds W) {D : Nat} (hB : B ≤ w.heap.size) (hD : w.heap.size ≤ D) (hk : W.heap[D]? = some (.deferred (some []))) : Marks B (D :: Ds) W := by
 refine ⟨List.nodup_cons.2 ⟨fun hm => by have := h0.lt D hm; omega, h.1⟩, fun E hE => ?_⟩
 rcases List.mem_cons.1 hE with rfl | hE
 ·exact ⟨by omega, hk⟩
 ·exact h.2 E hE
theorem Marks.below {B : Nat} {Ds : List Nat} {w W : World} (h : Marks B Ds w) (hb : Below w.heap.size w W) : Marks B Ds W := ⟨h.1, fun D hD => ⟨(h.2 D hD).1, blkb (h.2 D hD).2 hb⟩⟩
theorem Marks.keep {B : Nat} {Ds : List Nat} {w W : World} (h : Marks B Ds w) (hb : ∀ (k : Nat) (o : Obj), w.heap[k]? = some o → o.isCells = false → W.heap[k]? = some o) : Marks B Ds W := ⟨h.1, fun D hD => ⟨(h.2 D hD).1, hb _ _ (h.2 D hD).2 rfl⟩⟩
/-- what is turned at a function's end: no cells, nothing below B -/
def Aft (B : Nat) (w w' : World) : Prop := (∀ (k : Nat) (o : Obj), w.heap[k]? = some o → o.isCells = true → w'.heap[k]? = some o) ∧ ∀ w0, B ≤ w.heap.size → Below B w0 w → Below B w0 w'
theorem Aft.refl (B : Nat) (w : World) : Aft B w w := ⟨fun _ _ h _ => h, fun _ _ h => h⟩
theorem leaves_marks {P : Program} {F : Fence} {n : Nat} {fn : Func} {tmps : Array Value} {R : Ending → World → Prop} {B : Nat} : ∀ (Ds : List Nat) (w w0 : World), Marks B Ds w → Aft B w0 w → w0.heap.size = w.heap.size →
  (∀ w', Aft B w0 w' → LeavesIn F n P fn tmps R [] .returning w') → LeavesInM F n P fn tmps R (MarkL Ds) .returning w
 | [], w, w0, _, ha, _, h => h w ha
 | D :: Ds, w, w0, hm, ha, hs, h => by
  have hk := (hm.2 D (by simp)).2
  have hB := (hm.2 D (by simp)).1
  have hlt := hm.lt D (by simp)
  refine ⟨by simp, .inl ⟨_, _, rfl, run_takeDeferred hk, ?_⟩⟩
  refine leaves_marks Ds _ w0 ⟨(List.nodup_cons.1 hm.1).2, fun E hE => ⟨(hm.2 E (by simp [hE])).1, ?_⟩⟩ ⟨fun k o hk1 hc => ?_, fun w1 hBs hb => ?_⟩ (by simp [hs]) h
  ·exact (World.putObj_heap_other (fun e => (List.nodup_cons.1 hm.1).1 (by rw [← e]; exact hE))).trans (hm.2 E (by simp [hE])).2
  ·have h1 := ha.1 k o hk1 hc
   refine (World.putObj_heap_other (fun e => ?_)).trans h1
   subst e
   rw [h1] at hk
   cases hk
   cases hc
  ·exact (ha.2 w1 hBs hb).grown (grownBy_putObj' w D _) (by omega) (fun j hj => by cases hj; exact hB)
theorem c128 (c r : Int) (A : Option Addr) (N cap : Nat) (i : Int) (w : World) :
  Calls Tryz.prog 128 #[.agg #[.int .i64 c, .int .i64 r, .slice A N cap], .int .i64 i] w fun en w' => en = .returned (.func (.func 158) #[] #[.pointer (some ⟨w.heap.size + 1, 0, none⟩), .pointer (some ⟨w.heap.size, 0, none⟩)]) ∧ w' = (w.alloc (Obj.cells #[.int .i64 c, .int .i64 r, .slice A N cap] 35)).alloc (Obj.cells #[.int .i64 i] 3) := by
 go_enter Tryz.func128, Tryz.ntmps128
 go_wp2
 go_ret
 exact ⟨rfl, rfl⟩
/-- own memory of 'times' -/
structure TW (w W : World) (gb b5 b6 og : Nat) (c r : Nat) (A : Option Addr) (n cap : Nat) (out : List Int) (b off cw : Nat) (wl : List (Nat × Int)) : Prop where
 bel : Below w.heap.size w W
 gg : W.heap[gb]? = some (.cells #[.int .i64 c, .int .i64 r, .slice A n cap] 35 (0, 0))
 k5 : W.heap[b5]? = some (.cells #[.slice (some ⟨og, 0, none⟩) n n] 22 (0, 0))
 ko : W.heap[og]? = some (.cells (encI out).toArray 3 (0, 0))
 k6 : W.heap[b6]? = some (.cells #[.slice (some ⟨b, off, none⟩) wl.length cw] 215 (0, 0))
 wt : WtE W w.heap.size b off wl.length cw wl
 d1 : b ≠ gb ∧ b ≠ b5 ∧ b ≠ b6 ∧ b ≠ og
section
variable {w W W' : World} {gb b5 b6 og : Nat} {c r : Nat} {A : Option Addr} {n cap : Nat} {out : List Int} {b off cw : Nat} {wl : List (Nat × Int)}
theorem TW.below (h : TW w W gb b5 b6 og c r A n cap out b off cw wl) (hb : Below W.heap.size W W') : TW w W' gb b5 b6 og c r A n cap out b off cw wl :=
 ⟨h.bel.trans (hb.mono h.bel.size), blkb h.gg hb, blkb h.k5 hb, blkb h.ko hb, blkb h.k6 hb, h.wt.below hb, h.d1⟩
/-- the list of those that wait is stored anew, in whatever world that kept the rest -/
theorem TW.next {b' off' cw' : Nat} {wl' : List (Nat × Int)} (h : TW w W gb b5 b6 og c r A n cap out b off cw wl) (hbel : Below w.heap.size w W')
  (hk : ∀ k, k < W.heap.size → k ≠ b → W'.heap[k]? = W.heap[k]?) (hw : WtE W' w.heap.size b' off' wl'.length cw' wl') (hd : b' = b ∨ W.heap.size ≤ b') (h6 : w.heap.size ≤ b6) (hne : b6 ≠ gb ∧ b6 ≠ b5 ∧ b6 ≠ og) :
  TW w (W'.setCell ⟨b6, 0, none⟩ (.slice (some ⟨b', off', none⟩) wl'.length cw')) gb b5 b6 og c r A n cap out b' off' cw' wl' := by
 obtain ⟨d1, d2, d3, d4⟩ := h.d1
 obtain ⟨e1, e2, e3⟩ := hne
 have lt := fun {k : Nat} {o : Obj} (hk : W.heap[k]? = some o) => (Array.getElem?_eq_some_iff.1 hk).1
 have nb : ∀ k, k < W.heap.size → b ≠ k → b' ≠ k := fun k hk hn => by rcases hd with rfl | hd; exact hn; omega
 refine ⟨hbel.setCell (p := ⟨b6, 0, none⟩) h6 _, (set_far _ (Ne.symm e1)).trans ((hk _ (lt h.gg) (Ne.symm d1)).trans h.gg), (set_far _ (Ne.symm e2)).trans ((hk _ (lt h.k5) (Ne.symm d2)).trans h.k5), (set_far _ (Ne.symm e3)).trans ((hk _ (lt h.ko) (Ne.symm d4)).trans h.ko), ?_, hw.other _ (nb _ (lt h.k6) d3), ?_⟩
 ·have := set_blk (i := 0) ((hk _ (lt h.k6) (Ne.symm d3)).trans h.k6) (.slice (some ⟨b', off', none⟩) wl'.length cw')
  simpa using this
 ·exact ⟨nb _ (lt h.gg) d1, nb _ (lt h.k5) d2, nb _ (lt h.k6) d3, nb _ (lt h.ko) d4⟩
theorem encI_set (l : List Int) (i : Nat) (x : Int) : (encI l).toArray.setIfInBounds i (.int .i64 x) = (encI (l.set i x)).toArray := by
 simp [encI, List.map_set]
theorem TW.done {i : Nat} {x : Int} (h : TW w W gb b5 b6 og c r A n cap out b off cw wl) (ho : w.heap.size ≤ og) (hne : og ≠ gb ∧ og ≠ b5 ∧ og ≠ b6) :
  TW w (W.setCell ⟨og, i, none⟩ (.int .i64 x)) gb b5 b6 og c r A n cap (out.set i x) b off cw wl := by
 obtain ⟨d1, d2, d3, d4⟩ := h.d1
 obtain ⟨e1, e2, e3⟩ := hne
 refine ⟨h.bel.setCell (p := ⟨og, i, none⟩) ho _, (set_far _ (Ne.symm e1)).trans h.gg, (set_far _ (Ne.symm e2)).trans h.k5, ?_, (set_far _ (Ne.symm e3)).trans h.k6, h.wt.other _ d4, h.d1⟩
 have := set_blk (i := i) h.ko (.int .i64 x)
 rw [encI_set] at this
 exact this
theorem TW.own {B : Nat} (hB : w.heap.size ≤ B) {row : Option Nat} (h : TW w W gb b5 b6 og c r A n cap out b off cw wl) (hg : W.grownBy W' row) (hr : ∀ k, row = some k → B ≤ k ∧ ∃ o : Obj, W.heap[k]? = some o ∧ o.isCells = false) :
  TW w W' gb b5 b6 og c r A n cap out b off cw wl := by
 have key : ∀ {k : Nat} {cs : Array Value} {t : TypeId} {f : Nat × Nat}, W.heap[k]? = some (.cells cs t f) → W'.heap[k]? = some (.cells cs t f) := fun {k cs t f} hk => by
  refine (hg.block k (Array.getElem?_eq_some_iff.1 hk).1 (fun e => ?_)).trans hk
  obtain ⟨_, o, ho, hc⟩ := hr k e.symm
  rw [hk] at ho
  cases ho
  cases hc
 obtain ⟨cs, hk, h2⟩ := h.wt.blk
 exact ⟨h.bel.grown hg h.bel.size (fun j hj => by have := (hr j hj).1; omega), key h.gg, key h.k5, key h.ko, key h.k6, ⟨⟨cs, key hk, h2⟩, h.wt.len, h.wt.nc, h.wt.cm, h.wt.lo⟩, h.d1⟩
end
end Go.Proofs.YtdimmlljjmmdbaaGreatDoor
namespace Go.Proofs.YtdimmlljjmmdbaaGreatDoor
open Go.RowKit Go.Shelf
set_option maxHeartbeats 8000000
set_option maxRecDepth 100000
attribute [local go_sem] Oper.semAt_some
/-- what is still to be done, read off the world -/
def tmeas (og b6 : Nat) (w : World) : Nat :=
 9 * (match w.heap[og]? with | some (.cells cs _ _) => cs.toList.countP (fun v => match v with | .int _ x => decide (x < 0) | _ => false) | _ => 0) + (match w.cell? ⟨b6, 0, none⟩ with | some (.slice _ n _) => n | _ => 0)
theorem tmeas_eq {w W : World} {gb b5 b6 og : Nat} {c r : Nat} {A : Option Addr} {n cap : Nat} {out : List Int} {b off cw : Nat} {wl : List (Nat × Int)} (h : TW w W gb b5 b6 og c r A n cap out b off cw wl) : tmeas og b6 W = 9 * Im.undone out + wl.length := by
 unfold tmeas
 rw [h.ko, cell_at h.k6 (v := .slice (some ⟨b, off, none⟩) wl.length cw) rfl]
 simp only [Im.undone, encI, List.countP_map]
 rfl
/-- what holds in the loop over the neighbours of x -/
structure TI (w : World) (Ds : List Nat) (gb b5 b6 og b7 pi pg : Nat) (c r : Nat) (A : Option Addr) (n cap : Nat) (l : List Int) (s : Nat) (x : Nat × Int) (out : List Int) (L0 : Nat) (pre : List (Nat × Int)) (W : World) : Prop where
 mks : Marks w.heap.size Ds W
 k7 : W.heap[b7]? = some (.cells #[.int .i64 (x.1 : Nat), .int .i64 x.2] 214 (0, 0))
 ki : W.heap[pi]? = some (.cells #[.int .i64 (x.1 : Nat)] 3 (0, 0))
 kg : W.heap[pg]? = some (.cells #[.int .i64 c, .int .i64 r, .slice A n cap] 35 (0, 0))
 ex : ∃ b off cw wl, (b ≠ b7 ∧ b ≠ pi ∧ b ≠ pg) ∧ TW w W gb b5 b6 og c r A n cap out b off cw wl ∧ Im.Dij c l s out wl (fun a k => a ≠ x.1 ∨ ∃ e ∈ pre, e.1 = k) ∧ wl.length ≤ L0 + pre.length ∧ ∀ e ∈ wl, e.2 ≤ 600 * ((n - Im.undone out : Nat) : Int)
theorem TI.own {w : World} {Ds : List Nat} {gb b5 b6 og b7 pi pg c r : Nat} {A : Option Addr} {n cap : Nat} {l : List Int} {s : Nat} {x : Nat × Int} {out : List Int} {L0 : Nat} {pre : List (Nat × Int)} {B : Nat} (hB : w.heap.size ≤ B) (hD : ∀ D ∈ Ds, D < B) :
  OwnFrom B (fun (_ : Unit) => TI w Ds gb b5 b6 og b7 pi pg c r A n cap l s x out L0 pre) := by
 intro _ W W' row h hg hr
 have key : ∀ {k : Nat} {cs : Array Value} {t : TypeId} {f : Nat × Nat}, W.heap[k]? = some (.cells cs t f) → W'.heap[k]? = some (.cells cs t f) := fun {k cs t f} hk => by
  refine (hg.block k (Array.getElem?_eq_some_iff.1 hk).1 (fun e => ?_)).trans hk
  obtain ⟨_, o, ho, hc⟩ := hr k e.symm
  rw [hk] at ho
  cases ho
  cases hc
 obtain ⟨h1, h2, h3, h4, b, off, cw, wl, hd, ht, h5⟩ := h
 refine ⟨⟨h1.1, fun D hDs => ⟨(h1.2 D hDs).1, ?_⟩⟩, key h2, key h3, key h4, b, off, cw, wl, hd, ht.own hB hg hr, h5⟩
 refine (hg.block D (h1.lt D hDs) (fun e => ?_)).trans (h1.2 D hDs).2
 have := (hr D e.symm).1
 have := hD D hDs
 omega
theorem TI.step {w : World} {Ds : List Nat} {gb b5 b6 og b7 pi pg c r : Nat} {A : Option Addr} {n cap : Nat} {l : List Int} {s : Nat} {x y : Nat × Int} {out : List Int} {L0 : Nat} {pre : List (Nat × Int)} {W : World}
  (h : TI w Ds gb b5 b6 og b7 pi pg c r A n cap l s x out L0 pre W) (g : Im.Gr c r l) (hx : x.1 < l.length) (hy : y.1 < l.length) (top : ∀ b, b < l.length → Im.at0 out b ≤ Im.at0 out x.1) (hd : 0 ≤ Im.at0 out y.1) : TI w Ds gb b5 b6 og b7 pi pg c r A n cap l s x out L0 (pre ++ [y]) W := by
 obtain ⟨h1, h2, h3, h4, b, off, cw, wl, hdd, ht, h5, h6, h7⟩ := h
 refine ⟨h1, h2, h3, h4, b, off, cw, wl, hdd, ht, (h5.pass g hx hy (top _ hy) hd).weak (fun a k _ _ _ he => ?_), by simp; omega, h7⟩
 rcases he with he | ⟨e, he, hk⟩
 ·exact .inl (.inl he)
 ·rcases List.mem_append.1 he with he | he
  ·exact .inl (.inr ⟨e, he, hk⟩)
  ·obtain rfl := List.mem_singleton.1 he
   by_cases ha : a = x.1
   ·exact .inr ⟨ha, hk.symm⟩
   ·exact .inl (.inl ha)
theorem c127 (c r : Nat) (A : Option Addr) (n cap : Nat) (l : List Int) (s : Nat) (w : World) (g : Im.Gr c r l) (hc : c ≤ 16) (hr : r ≤ 16) (hs : s < n) (H : RdI w A n l) (hst : Steps w) :
  Calls Tryz.prog 127 #[.agg #[.int .i64 c, .int .i64 r, .slice A n cap], .int .i64 s] w fun en w' => ∃ og t, en = .returned (.slice (some ⟨og, 0, none⟩) n n) ∧ w.heap.size ≤ og ∧ w'.heap[og]? = some (.cells (encI t).toArray 3 (0, 0)) ∧ Im.IsT c l s t ∧ Below w.heap.size w w' := by
 have hln := H.len
 have h256 : c * r ≤ 256 := Nat.mul_le_mul hc hr
 have hn256 : n ≤ 256 := by rw [← hln, g.len]; exact h256
 refine (callsIn_wide (n := 6)).1 ?_
 refine callsIn_of_wp_marks Tryz.func127 rfl trivial ?_ rfl
 refine wpIn_wide.2 ?_
 simp only [Tryz.ntmps127, List.size_toArray, List.length_cons, List.length_nil, Nat.reduceAdd, Nat.reduceSub, Array.replicate_succ, Array.replicate_zero, List.push_toArray, List.append_toArray, List.nil_append, List.cons_append]
 obtain ⟨w0, hw0⟩ : ∃ W, W = (w.alloc (Obj.cells #[.int .i64 c, .int .i64 r, .slice A n cap] 35)).alloc (Obj.cells #[.int .i64 (-1)] 3) := ⟨_, rfl⟩
 obtain ⟨gb, hgb⟩ : ∃ b, b = w.heap.size := ⟨_, rfl⟩
 have hgg0 : w0.heap[gb]? = some (.cells #[.int .i64 c, .int .i64 r, .slice A n cap] 35 (0, 0)) := by rw [hw0]; exact heap_old (by simp; omega) (heap_new (by omega))
 have hm1 : w0.heap[gb + 1]? = some (.cells #[.int .i64 (-1)] 3 (0, 0)) := by rw [hw0]; exact heap_new (by simp; omega)
 have hB0 : Below w.heap.size w w0 := by rw [hw0]; exact below2 _ _ _
 have hz0 : w0.heap.size = gb + 2 := by rw [hw0]; simp; omega
 go_wp2_with fail
 rw [← hw0, ← hgb]
 refine (c154 (gb + 1) 0 1 n w0 (by omega) (by omega) (RdS.of_block (cs := encI [-1]) hm1 rfl)).mono ?_
 rintro e w1 ⟨og, rfl, hog, hko, hb1⟩
 have hgg1 := blkb hgg0 hb1
 have hB1 := hB0.call hb1 rfl
 have hz1 : og < w1.heap.size := (Array.getElem?_eq_some_iff.1 hko).1
 have hog2 : gb + 2 ≤ og := by omega
 clear hb1 hgg0 hm1 hB0 hog hz0 hw0
 obtain ⟨b5, hb5⟩ : ∃ b, b = w1.heap.size := ⟨_, rfl⟩
 obtain ⟨w2, hw2⟩ : ∃ W, W = ((w1.alloc (Obj.cells #[.slice (some ⟨og, 0, none⟩) n n] 22)).alloc (Obj.cells #[.int .i64 s, .int .i64 0] 214)).alloc (Obj.cells #[.slice (some ⟨b5 + 1, 0, none⟩) 1 1] 215) := ⟨_, rfl⟩
 have htw : TW w w2 gb b5 (b5 + 1 + 1) og c r A n cap (List.replicate n (-1)) (b5 + 1) 0 1 [(s, 0)] := by
  have hk5 : w2.heap[b5]? = some (.cells #[.slice (some ⟨og, 0, none⟩) n n] 22 (0, 0)) := by rw [hw2]; exact heap_old (by simp; omega) (heap_old (by simp; omega) (heap_new hb5))
  have hkw : w2.heap[b5 + 1]? = some (.cells #[.int .i64 s, .int .i64 0] 214 (0, 0)) := by rw [hw2]; exact heap_old (by simp; omega) (heap_new (by simp; omega))
  have hk6 : w2.heap[b5 + 1 + 1]? = some (.cells #[.slice (some ⟨b5 + 1, 0, none⟩) 1 1] 215 (0, 0)) := by rw [hw2]; exact heap_new (by simp; omega)
  have hbb : Below w1.heap.size w1 w2 := by rw [hw2]; exact (below2 _ _ _).alloc (by simp; omega) _
  have hsz1 := hB1.size
  refine ⟨hB1.call hbb rfl, blkb hgg1 hbb, hk5, ?_, hk6, ⟨⟨_, hkw, by simp, by simp, fun j hj => ?_⟩, rfl, by simp, by omega, by omega⟩, by omega, by omega, by omega, by omega⟩
  ·rw [blkb hko hbb]
   simp [encI]
  ·simp at hj
   match j, hj with
   | 0, _ => rfl
   | 1, _ => rfl
 have hdij : Im.Dij c l s (List.replicate n (-1)) [(s, 0)] (fun _ _ => True) := by
  have := Im.Dij.start (c := c) (l := l) (s := s) (by omega)
  rw [hln] at this
  exact this
 have hun : Im.undone (List.replicate n (-1)) ≤ n := by
  have := List.countP_le_length (p := fun x : Int => decide (x < 0)) (l := List.replicate n (-1))
  rw [List.length_replicate] at this
  exact this
 go_wp2_with fail
 rw [← hgb, ← hb5, ← hw2]
 obtain ⟨b6, hb6⟩ : ∃ b, b = b5 + 1 + 1 := ⟨_, rfl⟩
 rw [← hb6] at htw ⊢
 have hq1 : w.heap.size ≤ b5 ∧ w.heap.size ≤ b6 ∧ w.heap.size ≤ og ∧ w.heap.size = gb ∧ gb < og ∧ og < b5 ∧ b5 < b6 := by have := hB1.size; omega
 have HQ := Lib.hid hq1
 have HST := Lib.hid hst
 have HRD := Lib.hid H
 clear hw2 hb5 hb6 hgg1 hB1 hko hz1 hog2 H hst hgb hq1
 refine wp_loop (fun a' wr => ∃ (Ds : List Nat), (∃ out b off cw wl, Marks w.heap.size Ds wr ∧ TW w wr gb b5 b6 og c r A n cap out b off cw wl ∧ Im.Dij c l s out wl (fun _ _ => True) ∧ 9 * Im.undone out + wl.length ≤ 9 * n + 1 ∧ ∀ e ∈ wl, e.2 ≤ 600 * ((n - Im.undone out : Nat) : Int)) ∧ a' = { tmps := #[.agg #[.int .i64 c, .int .i64 r, .slice A n cap], .int .i64 s, .pointer (some ⟨gb, 0, none⟩), undef, .slice none 0 0, .pointer (some ⟨b5, 0, none⟩), .pointer (some ⟨b6, 0, none⟩), a'.tmps.getD 7 undef, a'.tmps.getD 8 undef, a'.tmps.getD 9 undef, a'.tmps.getD 10 undef, a'.tmps.getD 11 undef, a'.tmps.getD 12 undef, .slice (some ⟨gb + 1, 0, none⟩) 1 1, .pointer (some ⟨gb, 2, none⟩), .slice A n cap, .int .i64 n, .slice (some ⟨og, 0, none⟩) n n, .int .i64 s, .agg #[.int .i64 s, .int .i64 0], .slice (some ⟨b5 + 1, 0, none⟩) 1 1, a'.tmps.getD 21 undef, a'.tmps.getD 22 undef, a'.tmps.getD 23 undef, a'.tmps.getD 24 undef, a'.tmps.getD 25 undef, a'.tmps.getD 26 undef, a'.tmps.getD 27 undef, a'.tmps.getD 28 undef, a'.tmps.getD 29 undef, a'.tmps.getD 30 undef, a'.tmps.getD 31 undef, a'.tmps.getD 32 undef, a'.tmps.getD 33 undef, a'.tmps.getD 34 undef, a'.tmps.getD 35 undef, a'.tmps.getD 36 undef, a'.tmps.getD 37 undef, a'.tmps.getD 38 undef, a'.tmps.getD 39 undef, a'.tmps.getD 40 undef, a'.tmps.getD 41 undef, a'.tmps.getD 42 undef, a'.tmps.getD 43 undef, a'.tmps.getD 44 undef, a'.tmps.getD 45 undef, a'.tmps.getD 46 undef, a'.tmps.getD 47 undef, a'.tmps.getD 48 undef, a'.tmps.getD 49 undef, a'.tmps.getD 50 undef, a'.tmps.getD 51 undef, a'.tmps.getD 52 undef, a'.tmps.getD 53 undef, a'.tmps.getD 54 undef, a'.tmps.getD 55 undef, a'.tmps.getD 56 undef, a'.tmps.getD 57 undef, a'.tmps.getD 58 undef, a'.tmps.getD 59 undef, a'.tmps.getD 60 undef, a'.tmps.getD 61 undef, a'.tmps.getD 62 undef, a'.tmps.getD 63 undef, a'.tmps.getD 64 undef, a'.tmps.getD 65 undef, a'.tmps.getD 66 undef, a'.tmps.getD 67 undef, a'.tmps.getD 68 undef, undef], defers := MarkL Ds }) (fun _ wr => tmeas og b6 wr) ?atStart ?round
 case atStart =>
  refine ⟨[], ⟨_, _, _, _, _, Marks.nil _ _, htw, hdij, by simp; omega, fun e he => ?_⟩, rfl⟩
  simp at he
  subst he
  simp only
  omega
 case round =>
  clear htw hdij hun w1 w2 w0
  rintro a0 wr ⟨Ds, ⟨out, b, off, cw, wl, hM, hT, hD, hlen, hbd⟩, ha0⟩
  obtain ⟨u, hu⟩ : ∃ u : Nat → Value, u = fun k => a0.tmps.getD k undef := ⟨_, rfl⟩
  have ha1 : a0 = { tmps := #[.agg #[.int .i64 c, .int .i64 r, .slice A n cap], .int .i64 s, .pointer (some ⟨gb, 0, none⟩), undef, .slice none 0 0, .pointer (some ⟨b5, 0, none⟩), .pointer (some ⟨b6, 0, none⟩), u 7, u 8, u 9, u 10, u 11, u 12, .slice (some ⟨gb + 1, 0, none⟩) 1 1, .pointer (some ⟨gb, 2, none⟩), .slice A n cap, .int .i64 n, .slice (some ⟨og, 0, none⟩) n n, .int .i64 s, .agg #[.int .i64 s, .int .i64 0], .slice (some ⟨b5 + 1, 0, none⟩) 1 1, u 21, u 22, u 23, u 24, u 25, u 26, u 27, u 28, u 29, u 30, u 31, u 32, u 33, u 34, u 35, u 36, u 37, u 38, u 39, u 40, u 41, u 42, u 43, u 44, u 45, u 46, u 47, u 48, u 49, u 50, u 51, u 52, u 53, u 54, u 55, u 56, u 57, u 58, u 59, u 60, u 61, u 62, u 63, u 64, u 65, u 66, u 67, u 68, undef], defers := MarkL Ds } := by rw [hu]; exact ha0
  clear ha0 hu
  subst ha1
  dsimp only
  have hUn : Im.undone out ≤ n := by
   have := List.countP_le_length (p := fun x : Int => decide (x < 0)) (l := out)
   rw [hD.len, hln] at this
   exact this
  have HT := Lib.hid hT
  have HM := Lib.hid hM
  have HD := Lib.hid hD
  have HME := Lib.hid (tmeas_eq hT)
  have k5 := cell_at hT.k5 (i := 0) (v := .slice (some ⟨og, 0, none⟩) n n) rfl
  have k6 := cell_at hT.k6 (i := 0) (v := .slice (some ⟨b, off, none⟩) wl.length cw) rfl
  cases wl with
  | nil =>
   have h0 : ¬ (0 : Int) < 0 := by omega
   have hIT := hD.done g (by omega)
   have hKO := hT.ko
   have hBL := hT.bel
   have HF := Lib.hid (⟨hIT, hKO, hBL⟩ : _ ∧ _ ∧ _)
   simp only [List.length_nil] at k6
   clear hIT hKO hBL hT hM hD hlen hbd HD HT
   go_wp2
   refine leaves_marks Ds wr wr HM.out (Aft.refl _ _) rfl (fun w' ha => ?_)
   obtain ⟨f1, f2, f3⟩ := HF.out
   refine ⟨.slice (some ⟨og, 0, none⟩) n n, by simp [results, Tryz.results127, go_sem], ?_⟩
   exact ⟨og, rfl, HQ.out.2.2.1, out, ha.1 _ _ f2 rfl, f1, ha.2 w f3.size f3⟩
  | cons x wl =>
   obtain ⟨m1, hm1⟩ : ∃ m, m = (x :: wl).length := ⟨_, rfl⟩
   have hm2 : m1 = wl.length + 1 := by rw [hm1]; rfl
   have hx := hD.ent x List.mem_cons_self
   have hx1 : x.1 < n := by rw [← hln]; exact hx.1
   have hx2 := hx.2.1
   have hxb := hbd x List.mem_cons_self
   have hov := hD.val x.1 hx.1
   have hol : out.length = n := by rw [hD.len, hln]
   rw [← hm1] at k6
   have hncw := hT.wt.nc
   rw [← hm1] at hncw
   have hcm := hT.wt.cm
   have e0 : wr.cell? ⟨b, off, none⟩ = some (.int .i64 (x.1 : Nat)) := by have := hT.wt.cells 0 (.int .i64 (x.1 : Nat)) (by rw [List.flatMap_cons]; rfl); simpa using this
   have e1 : wr.cell? ⟨b, off + 1, none⟩ = some (.int .i64 x.2) := hT.wt.cells 1 (.int .i64 x.2) (by rw [List.flatMap_cons]; rfl)
   have eo : wr.cell? ⟨og, x.1, none⟩ = some (.int .i64 (Im.at0 out x.1)) := by
    refine cell_at hT.ko ?_
    simp [encI, Im.at0, List.getD_eq_getElem?_getD, hol, hx1]
   have f6 : wr.frozen? ⟨b6, 0, none⟩ = false := free_at hT.k6
   have fo : ∀ j, wr.frozen? ⟨og, j, none⟩ = false := fun j => free_at hT.ko
   obtain ⟨off2, cw2, hoff2, hcw2, hwt2⟩ : ∃ off2 cw2, (if cw = 1 then (some ⟨b, off, none⟩ : Option Addr) else some ⟨b, off + 2, none⟩) = some ⟨b, off2, none⟩ ∧ cw2 = cw - 1 ∧ WtE wr w.heap.size b off2 wl.length cw2 wl := by
    have hwt := hT.wt
    rw [← hm1, hm2] at hwt
    by_cases hc1 : cw = 1
    ·have : wl = [] := List.eq_nil_of_length_eq_zero (by omega)
     subst this
     subst hc1
     exact ⟨off, 0, by simp, by simp, hwt.last⟩
    ·obtain ⟨cc, rfl⟩ : ∃ cc, cw = cc + 1 := ⟨cw - 1, by omega⟩
     exact ⟨off + 2, cc, by rw [if_neg hc1], by simp, hwt.tail⟩
   have hm0 : 0 < m1 := by omega
   have hm0i : (0 : Int) < (m1 : Int) := by omega
   have hm1c : (1 : Int) ≤ (m1 : Int) := by omega
   obtain ⟨d1, d2, d3, d4⟩ := hT.d1
   obtain ⟨q1, q2, q3, q4, q5, q6, q7⟩ := HQ.out
   have ltb := hT.wt.lt
   have lt6 := cell_lt k6
   have lto := cell_lt eo
   have lt5 := cell_lt k5
   have hne1 : b6 ≠ og := by omega
   have hne2 : b5 ≠ b6 := by omega
   have HM1 := Lib.hid hm1
   have HM2 := Lib.hid hm2
   clear hm1 hm2 hx hT hM hD
   have g0 : wr.cell? ⟨gb, 0, none⟩ = some (.int .i64 c) := cell_at HT.out.gg rfl
   have g1 : wr.cell? ⟨gb, 1, none⟩ = some (.int .i64 r) := cell_at HT.out.gg rfl
   have g2 : wr.cell? ⟨gb, 2, none⟩ = some (.slice A n cap) := cell_at HT.out.gg rfl
   have ltg := cell_lt g0
   have hne3 : gb ≠ b6 := by omega
   have hne4 : gb ≠ og := by omega
   have hne5 : b5 ≠ og := by omega
   have hcs : cw - 1 = cw2 := hcw2.symm
   have hms : m1 - 1 = wl.length := by rw [HM2.out]; rfl
   have HTS : Hid (TW w (wr.setCell ⟨b6, 0, none⟩ (.slice (some ⟨b, off2, none⟩) wl.length cw2)) gb b5 b6 og c r A n cap out b off2 cw2 wl) := Lib.hid
    (HT.out.next HT.out.bel (fun k hk _ => rfl) hwt2 (.inl rfl) q2 ⟨hne3.symm, hne2.symm, hne1⟩)
   have HMS : Hid (Marks w.heap.size Ds (wr.setCell ⟨b6, 0, none⟩ (.slice (some ⟨b, off2, none⟩) wl.length cw2))) := Lib.hid (HM.out.keep (fun k o hk hc => (set_far _ (fun e => by subst e; have := HT.out.k6; rw [hk] at this; cases this; cases hc)).trans hk))
   clear hwt2 hcw2
   by_cases hdn : 0 ≤ Im.at0 out x.1
   ·have hdd : decide (0 ≤ Im.at0 out x.1) = true := by simpa using hdn
    have HDS := Lib.hid (HD.out.skip hdn)
    have hbl : ∀ W : World, Below W.heap.size W (W.alloc (Obj.cells #[.int .i64 (x.1 : Nat), .int .i64 x.2] 214)) := fun W => (Below.refl _ _).alloc (Nat.le_refl _) _
    have HTN := Lib.hid (HTS.out.below (hbl _))
    have hwk := Lib.hid (HMS.out.below (hbl _))
    clear hbl
    clear hdn
    go_wp2
    refine ⟨⟨Ds, ⟨out, b, off2, cw2, wl, hwk.out, HTN.out, HDS.out, by simp at hlen; omega, fun e he => hbd e (List.mem_cons_of_mem _ he)⟩, rfl⟩, ?_⟩
    show tmeas _ _ _ < tmeas _ _ _
    rw [tmeas_eq HTN.out, HME.out]
    simp
   ·have hdd : decide (0 ≤ Im.at0 out x.1) = false := by simpa using hdn
    have hdn2 : Im.at0 out x.1 < 0 := by omega
    obtain ⟨out1, ho1⟩ : ∃ o, o = out.set x.1 x.2 := ⟨_, rfl⟩
    have hb7 : ∀ W : World, Below W.heap.size W (W.alloc (Obj.cells #[.int .i64 (x.1 : Nat), .int .i64 x.2] 214)) := fun W => (Below.refl _ _).alloc (Nat.le_refl _) _
    obtain ⟨W3, hW3⟩ : ∃ W, W = ((wr.setCell ⟨b6, 0, none⟩ (.slice (some ⟨b, off2, none⟩) wl.length cw2)).setCell ⟨og, x.1, none⟩ (.int .i64 x.2)).alloc (Obj.cells #[.int .i64 (x.1 : Nat), .int .i64 x.2] 214) := ⟨_, rfl⟩
    obtain ⟨b7, hb7e⟩ : ∃ b, b = wr.heap.size := ⟨_, rfl⟩
    have T3 : TW w W3 gb b5 b6 og c r A n cap out1 b off2 cw2 wl := by rw [hW3, ho1]; exact (HTS.out.done q3 ⟨hne4.symm, hne5.symm, hne1.symm⟩).below (hb7 _)
    have M3 : Marks w.heap.size Ds W3 := by
     rw [hW3]
     exact (HMS.out.keep (fun k o hk hc => (set_far _ (fun e => by subst e; have := HTS.out.ko; rw [hk] at this; cases this; cases hc)).trans hk)).below (hb7 _)
    have K7 : W3.heap[b7]? = some (.cells #[.int .i64 (x.1 : Nat), .int .i64 x.2] 214 (0, 0)) := by rw [hW3, hb7e]; exact heap_new (by simp [World.setCell])
    obtain ⟨D3, D4, D5, D6, D7⟩ := HD.out.take g (by omega) hdn2
    rw [← ho1] at D3 D4 D5
    have hun1 := Im.undone_set (out := out) (i := x.1) (x := x.2) (by omega) hdn2 hx2
    rw [← ho1] at hun1
    have hbn7 : b ≠ b7 := by omega
    go_wp2_with fail
    rw [← hW3]
    refine (c128 c r A n cap (x.1 : Nat) W3).mono ?_
    rintro e W4 ⟨rfl, hW4⟩
    have hB4 : Below W3.heap.size W3 W4 := by rw [hW4]; exact below2 _ _ _
    obtain ⟨pg, hpg⟩ : ∃ p, p = W3.heap.size := ⟨_, rfl⟩
    have KG : W4.heap[pg]? = some (.cells #[.int .i64 c, .int .i64 r, .slice A n cap] 35 (0, 0)) := by rw [hW4]; exact heap_old (by simp; omega) (heap_new hpg)
    have KI : W4.heap[pg + 1]? = some (.cells #[.int .i64 (x.1 : Nat)] 3 (0, 0)) := by rw [hW4]; exact heap_new (by simp; omega)
    have hbl3 := T3.wt.lt
    have I0 : TI w Ds gb b5 b6 og b7 (pg + 1) pg c r A n cap l s x out1 wl.length [] W4 := by
     refine ⟨M3.below hB4, blkb K7 hB4, KI, KG, b, off2, cw2, wl, ⟨hbn7, by omega, by omega⟩, T3.below hB4, D3.weak (fun a k _ _ _ he => ?_), by simp, fun e he => ?_⟩
     ·rcases he with he | ⟨e, he, _⟩
      ·exact he
      ·cases he
     ·have := hbd e (List.mem_cons_of_mem _ he)
      omega
    have M4 := M3.below hB4
    have hs4 : w.heap.size ≤ W4.heap.size := (T3.below hB4).bel.size
    rw [← hpg, ← hb7e]
    have HI0 := Lib.hid I0
    have HM4 := Lib.hid M4
    have HS4 := Lib.hid hs4
    have HT4 := Lib.hid (show (∀ b, b < l.length → Im.at0 out1 b ≤ Im.at0 out1 x.1) ∧ Im.at0 out1 x.1 = x.2 ∧ x.1 < l.length ∧ out1.length = n ∧ (∀ b, b < l.length → -1 ≤ Im.at0 out1 b) ∧ 9 * Im.undone out1 + 9 + wl.length + 1 ≤ 9 * n + 1 ∧ x.2 ≤ 600 * ((n - Im.undone out : Nat) : Int) from ⟨fun b hb => by rw [D5]; exact D4 b hb, D5, D6, by rw [D3.len, hln], D3.val, by simp at hlen; omega, hxb⟩)
    have HU := Lib.hid hun1
    clear I0 M4 hs4 KG KI hB4 hW4 M3 K7 T3 D3 D4 D5 D6 D7 hW3 ho1 hb7 hun1 hpg hbl3 hdn hdn2 HTS HMS HT HD HM hbd hlen hxb k5 k6 e0 e1 eo f6 fo ltb lt6 lto lt5 g0 g1 g2 ltg hov
    go_wp2
    try rw [← hb7e]
    refine (wpIn_wide (n := 6)).1 ?_
    refine wpIn_nbs (n := 6) (by omega) (pi := pg + 1) (pg := pg) g hc hr (A := A) (N := n) (cap := cap) (i := x.1) HT4.out.2.2.1 rfl rfl .ret (fun pre W => TI w Ds gb b5 b6 og b7 (pg + 1) pg c r A n cap l s x out1 wl.length pre W) (fun _ => False)
     (fun pre => TI.own HS4.out HM4.out.lt) (fun _ _ _ _ h => h.elim)
     (fun pre W h => by obtain ⟨h1, h2, h3, h4, b, off, cw, wl, hd, ht, _⟩ := h; exact ⟨h3, h4, HRD.out.below ht.bel, HST.out.below ht.bel⟩) HI0.out ?a1 ?assign ?body ?done ?stop
    case assign =>
     intro lr y W K hK
     have HK := Lib.hid hK
     clear hK
     gi_wp2
     exact HK.out
    case stop => exact fun _ _ _ h => h.elim
    case done =>
     intro D W hD hI hK
     obtain ⟨h1, h2, h3, h4, b', off', cw', wl', hd, ht, hDj, hl4, hb4⟩ := hI
     obtain ⟨t1, t2, t3, t4, t5, t6, t7⟩ := HT4.out
     have hn8 := Im.nbs_len c r l x.1
     refine ⟨⟨D :: Ds, ⟨out1, b', off', cw', wl', HM4.out.push h1 HS4.out hD hK, ht, hDj.weak (fun a k ha hk hck _ => ?_), by omega, hb4⟩, rfl⟩, ?_⟩
     ·by_cases hax : a = x.1
      ·subst hax
       exact .inr ⟨_, (Im.nbs_mem g ha).2 ⟨hk, rfl, hck⟩, rfl⟩
      ·exact .inl hax
     ·show tmeas _ _ _ < tmeas _ _ _
      rw [tmeas_eq ht, HME.out]
      have := HU.out
      simp only [List.length_cons]
      omega
    case body =>
     intro lr pre y suf W hnb hsz hI
     have hym := (Im.nbs_mem g HT4.out.2.2.1 (k := y.1) (n := y.2)).1 (by rw [hnb]; simp)
     obtain ⟨hy1, hy2, hy3⟩ := hym
     have HI := Lib.hid hI
     obtain ⟨h1, h2, h3, h4, b', off', cw', wl', hd, ht, hDj, hl4, hb4⟩ := hI
     obtain ⟨t1, t2, t3, t4, t5, t6, t7⟩ := HT4.out
     have hyn : y.1 < n := by omega
     have hyv := t5 y.1 hy1
     have k5 := cell_at ht.k5 (i := 0) (v := .slice (some ⟨og, 0, none⟩) n n) rfl
     have eo : W.cell? ⟨og, y.1, none⟩ = some (.int .i64 (Im.at0 out1 y.1)) := by
      refine cell_at ht.ko ?_
      simp [encI, Im.at0, List.getD_eq_getElem?_getD, t4, hyn]
     have HY := Lib.hid (⟨hy1, hy2, hy3⟩ : _ ∧ _ ∧ _)
     by_cases hdy : 0 ≤ Im.at0 out1 y.1
     ·have hdd : decide (0 ≤ Im.at0 out1 y.1) = true := by simpa using hdy
      have HF := Lib.hid (HI.out.step g t3 hy1 t1 hdy)
      clear hdy h1 h2 h3 h4 ht hDj hb4 hl4 t1 t2 t5 t6 t7 hy2 hy3 hyv hd hnb hsz
      gi_wp2
      exact ⟨KeepsFrom.refl _ _, HF.out⟩
     ·have hdd : decide (0 ≤ Im.at0 out1 y.1) = false := by simpa using hdy
      have hk7 : W.heap[wr.heap.size]? = some (.cells #[.int .i64 (x.1 : Nat), .int .i64 x.2] 214 (0, 0)) := by rw [← hb7e]; exact h2
      have e70 : W.cell? ⟨wr.heap.size, 0, none⟩ = some (.int .i64 (x.1 : Nat)) := cell_at hk7 rfl
      have e71 : W.cell? ⟨wr.heap.size, 1, none⟩ = some (.int .i64 x.2) := cell_at hk7 rfl
      have k6 := cell_at ht.k6 (i := 0) (v := .slice (some ⟨b', off', none⟩) wl'.length cw') rfl
      have f6 : W.frozen? ⟨b6, 0, none⟩ = false := free_at ht.k6
      have lt5 := cell_lt k5
      have lt6 := cell_lt k6
      have lt7 := cell_lt e70
      have ltb := ht.wt.lt
      have hcy := Im.cost_le g t3 hy1
      rw [← hy2] at hcy hy3
      have hwy : IntKind.i64.wrap (x.2 + y.2) = x.2 + y.2 := wrapI (by omega)
      obtain ⟨z, hz⟩ : ∃ z : Nat × Int, z = (y.1, x.2 + y.2) := ⟨_, rfl⟩
      obtain ⟨W5, hW5⟩ : ∃ V, V = W.alloc (Obj.cells #[.int .i64 (y.1 : Nat), .int .i64 (x.2 + y.2)] 214) := ⟨_, rfl⟩
      have hb5' : Below W.heap.size W W5 := by rw [hW5]; exact (Below.refl _ _).alloc (Nat.le_refl _) _
      have hl1000 : wl'.length ≤ 1000000 := by
       have hn8 := Im.nbs_len c r l x.1
       rw [hnb] at hn8
       simp at hn8
       omega
      have H155 := Lib.hid (c155 (some ⟨b', off', none⟩) wl'.length cw' wl' z W5 hl1000 (ht.wt.below hb5').rd hDj.srt)
      rw [hz] at H155
      simp only at H155
      have hpl := Im.place_le wl' z
      obtain ⟨P, hP⟩ : ∃ P, P = Im.place wl' z := ⟨_, rfl⟩
      rw [← hz, ← hP] at H155
      rw [← hP] at hpl
      have kz : W5.heap[W.heap.size]? = some (.cells #[.int .i64 (y.1 : Nat), .int .i64 (x.2 + y.2)] 214 (0, 0)) := by rw [hW5]; exact heap_new rfl
      have htI := Lib.hid ht
      have HDJ := Lib.hid hDj
      have HPQ := Lib.hid hP
      have HZ := Lib.hid hz
      have HL4 := Lib.hid hl4
      have HB4 := Lib.hid hb4
      clear hdy h1 h2 h3 h4 hDj hb4 hl4 t1 t2 t5 t6 t7 hyv hnb hsz hP hz hy2
      gi_wp2_with fail
      rw [← hW5]
      refine ⟨trivial, ?_⟩
      refine (CallsIn.inRound lr (callsIn_wide.2 H155.out)).mono ?_
      rintro e W6 ⟨bb, rfl, hb6⟩
      have hb65 : Below W.heap.size W W6 := hb5'.call hb6 rfl
      have kz6 := blkb kz hb6
      have k66 := blkb htI.out.k6 hb65
      have k6 : W6.cell? ⟨b6, 0, none⟩ = some (.slice (some ⟨b', off', none⟩) wl'.length cw') := cell_at k66 rfl
      have z0 : W6.cell? ⟨W.heap.size, 0, none⟩ = some (.int .i64 (y.1 : Nat)) := cell_at kz6 rfl
      have z1 : W6.cell? ⟨W.heap.size, 1, none⟩ = some (.int .i64 (x.2 + y.2)) := cell_at kz6 rfl
      have lt6 := cell_lt k6
      have ltz := cell_lt z0
      obtain ⟨W7, hW7⟩ : ∃ V, V = W6.alloc (Obj.cells #[.int .i64 (y.1 : Nat), .int .i64 (x.2 + y.2)] 214) := ⟨_, rfl⟩
      have hb76 : Below W6.heap.size W6 W7 := by rw [hW7]; exact (Below.refl _ _).alloc (Nat.le_refl _) _
      have hb75 : Below W.heap.size W W7 := hb65.call hb76 rfl
      have kv7 : W7.heap[W6.heap.size]? = some (.cells #[.int .i64 (z.1 : Nat), .int .i64 z.2] 214 (0, 0)) := by rw [HZ.out, hW7]; exact heap_new rfl
      have hT7 := htI.out.below hb75
      have hs76 := hb65.size
      have H157 := Lib.hid (c157 w.heap.size b' off' wl'.length cw' P W6.heap.size wl' z W7 hT7.wt hl1000 hpl hT7.bel.size (by omega) kv7)
      have hput : Im.put wl' z = wl'.take P ++ z :: wl'.drop P := by unfold Im.put; rw [← HPQ.out]
      rw [← hput] at H157
      have HT7 := Lib.hid hT7
      have hb75' := Lib.hid hb75
      clear kz kz6 k66 hT7 hput kv7 hb76 hb75
      gi_wp2_with fail
      rw [← hW7]
      refine ⟨trivial, ?_⟩
      refine (CallsIn.inRound lr (callsIn_wide.2 H157.out)).mono ?_
      rintro e W8 ⟨b2, of2, c2, rfl, hwt8, hbel8, hkeep, hcase⟩
      have k68 : W8.heap[b6]? = some (.cells #[.slice (some ⟨b', off', none⟩) wl'.length cw'] 215 (0, 0)) := (hkeep _ (Array.getElem?_eq_some_iff.1 HT7.out.k6).1 (Ne.symm HT7.out.d1.2.2.1)).trans HT7.out.k6
      have k6 : W8.cell? ⟨b6, 0, none⟩ = some (.slice (some ⟨b', off', none⟩) wl'.length cw') := cell_at k68 rfl
      have f6 : W8.frozen? ⟨b6, 0, none⟩ = false := free_at k68
      have lt6 := cell_lt k6
      have hF : Hid (NbPost W4.heap.size (fun W => TI w Ds gb b5 b6 og b7 (pg + 1) pg c r A n cap l s x out1 wl.length (pre ++ [y]) W) (fun x => False) Code.ret W Exit.normal { tmps := #[], defers := [] } (W8.setCell ⟨b6, 0, none⟩ (.slice (some ⟨b2, of2, none⟩) (Im.put wl' z).length c2))) := Lib.hid (by
       have h7 := hb75'.out
       have hs7 := h7.size
       have same : ∀ (k : Nat) (o : Obj), W.heap[k]? = some o → k ≠ b' → k ≠ b6 → (W8.setCell ⟨b6, 0, none⟩ (.slice (some ⟨b2, of2, none⟩) (Im.put wl' z).length c2)).heap[k]? = some o := fun k o hk hk1 hk2 =>
        (set_far _ hk2).trans ((hkeep k (by have := (Array.getElem?_eq_some_iff.1 hk).1; omega) hk1).trans (blkb hk h7))
       have noncell : ∀ (k : Nat) (o : Obj), W.heap[k]? = some o → o.isCells = false → k ≠ b' ∧ k ≠ b6 := fun k o hk hc => by
        obtain ⟨cs, hkb, _⟩ := htI.out.wt.blk
        refine ⟨fun e => ?_, fun e => ?_⟩
        ·subst e; rw [hkb] at hk; cases hk; cases hc
        ·subst e; have := htI.out.k6; rw [hk] at this; cases this; cases hc
       obtain ⟨i1, i2, i3, i4, _⟩ := HI.out
       obtain ⟨t1, t2, t3, t4, t5, t6, t7⟩ := HT4.out
       obtain ⟨y1, y2, y3⟩ := HY.out
       have p7 := (Array.getElem?_eq_some_iff.1 i2).1
       have pi1 := (Array.getElem?_eq_some_iff.1 i3).1
       have pg1 := (Array.getElem?_eq_some_iff.1 i4).1
       obtain ⟨hd1, hd2, hd3⟩ := hd
       have hx8 : 0 ≤ Im.at0 out1 x.1 := by rw [t2]; exact hx2
       have hpush := HDJ.out.push g t3 y1 t1 hx8 y3
       rw [t2, ← y2, ← HZ.out] at hpush
       have cellne : ∀ {k : Nat} {cs : Array Value} {t : TypeId} {f : Nat × Nat}, W.heap[k]? = some (.cells cs t f) → t ≠ 215 → k ≠ b6 := fun {k cs t f} hk ht e => by
        subst e; have := htI.out.k6; rw [hk] at this; cases this; exact ht rfl
       refine ⟨⟨?_, fun k o _ hk hc => same k o hk (noncell k o hk hc).1 (noncell k o hk hc).2⟩, ⟨i1.keep (fun k o hk hc => same k o hk (noncell k o hk hc).1 (noncell k o hk hc).2), same _ _ i2 (Ne.symm hd1) (cellne i2 (by decide)), same _ _ i3 (Ne.symm hd2) (cellne i3 (by decide)), same _ _ i4 (Ne.symm hd3) (cellne i4 (by decide)), b2, of2, c2, Im.put wl' z, ?_, HT7.out.next (HT7.out.bel.trans hbel8) hkeep hwt8 hcase q2 ⟨Ne.symm hne3, Ne.symm hne2, hne1⟩, hpush.weak (fun a k _ _ _ he => ?_), ?_, fun e he => ?_⟩⟩
       ·have := hbel8.size
        simp [World.setCell]
        omega
       ·rcases hcase with rfl | hcase
        ·exact ⟨hd1, hd2, hd3⟩
        ·exact ⟨by omega, by omega, by omega⟩
       ·rcases he with he | ⟨e, he, hk⟩
        ·exact .inl (.inl he)
        ·rcases List.mem_append.1 he with he | he
         ·exact .inl (.inr ⟨e, he, hk⟩)
         ·obtain rfl := List.mem_singleton.1 he
          by_cases ha : a = x.1
          ·exact .inr ⟨ha, hk.symm⟩
          ·exact .inl (.inl ha)
       ·rw [Im.put_len, List.length_append]
        have := HL4.out
        simp only [List.length_cons, List.length_nil]
        omega
       ·rcases Im.put_mem.1 he with rfl | he
        ·rw [HZ.out]
         simp only
         have := HU.out
         omega
        ·exact HB4.out e he)
      clear hwt8 hbel8 hkeep hcase k68
      gi_wp2
      exact hF.out
end Go.Proofs.YtdimmlljjmmdbaaGreatDoor
namespace Go.Proofs.YtdimmlljjmmdbaaGreatDoor
open Go.RowKit Go.Shelf
set_option maxHeartbeats 8000000
set_option maxRecDepth 100000
attribute [local go_sem] Oper.semAt_some
/-- blocks of cells, the world behind them, marks, and a plain fact: what loops over functions keep -/
structure BI (w : World) (Ds : List Nat) (bs : List (Nat × Array Value × TypeId)) (P : Prop) (W : World) : Prop where
 mks : Marks w.heap.size Ds W
 blk : ∀ x ∈ bs, W.heap[x.1]? = some (.cells x.2.1 x.2.2 (0, 0))
 bel : Below w.heap.size w W
 prop : P
theorem BI.own {w : World} {Ds : List Nat} {bs : List (Nat × Array Value × TypeId)} {P : Prop} {B : Nat} (hB : w.heap.size ≤ B) (hD : ∀ D ∈ Ds, D < B) : OwnFrom B (fun (_ : Unit) => BI w Ds bs P) := by
 intro _ W W' row h hg hr
 have key : ∀ {k : Nat} {cs : Array Value} {t : TypeId} {f : Nat × Nat}, W.heap[k]? = some (.cells cs t f) → W'.heap[k]? = some (.cells cs t f) := fun {k cs t f} hk => by
  refine (hg.block k (Array.getElem?_eq_some_iff.1 hk).1 (fun e => ?_)).trans hk
  obtain ⟨_, o, ho, hc⟩ := hr k e.symm
  rw [hk] at ho
  cases ho
  cases hc
 refine ⟨⟨h.mks.1, fun D hDs => ⟨(h.mks.2 D hDs).1, ?_⟩⟩, fun x hx => key (h.blk x hx), h.bel.grown hg h.bel.size (fun j hj => by have := (hr j hj).1; omega), h.prop⟩
 refine (hg.block D (h.mks.lt D hDs) (fun e => ?_)).trans (h.mks.2 D hDs).2
 have := (hr D e.symm).1
 have := hD D hDs
 omega
theorem BI.below {w W W' : World} {Ds : List Nat} {bs : List (Nat × Array Value × TypeId)} {P : Prop} (h : BI w Ds bs P W) (hb : Below W.heap.size W W') : BI w Ds bs P W' :=
 ⟨h.mks.below hb, fun x hx => blkb (h.blk x hx) hb, h.bel.call hb rfl |> fun q => q, h.prop⟩
theorem BI.imp {w W : World} {Ds : List Nat} {bs : List (Nat × Array Value × TypeId)} {P Q : Prop} (h : BI w Ds bs P W) (hq : P → Q) : BI w Ds bs Q W := ⟨h.mks, h.blk, h.bel, hq h.prop⟩
/-- a store into the one cell of the block b -/
theorem BI.set {w W : World} {Ds : List Nat} {bs bs' : List (Nat × Array Value × TypeId)} {P : Prop} (h : BI w Ds bs P W) {b : Nat} {cs : Array Value} {t : TypeId} (v : Value) (hb : w.heap.size ≤ b) (hk : W.heap[b]? = some (.cells cs t (0, 0)))
  (hbs : ∀ x ∈ bs', (x.1 = b ∧ x.2.1 = cs.setIfInBounds 0 v ∧ x.2.2 = t) ∨ (x.1 ≠ b ∧ x ∈ bs)) : BI w Ds bs' P (W.setCell ⟨b, 0, none⟩ v) := by
 refine ⟨h.mks.keep (fun k o hk1 hc => (set_far _ (fun e => by subst e; rw [hk] at hk1; cases hk1; cases hc)).trans hk1), fun x hx => ?_, h.bel.setCell (p := ⟨b, 0, none⟩) hb _, h.prop⟩
 rcases hbs x hx with ⟨h1, h2, h3⟩ | ⟨h1, h2⟩
 ·rw [h1, h2, h3]
  exact set_blk (i := 0) hk v
 ·exact (set_far _ h1).trans (h.blk x h2)
/-- what a store into the one cell of b keeps of what is no cells -/
theorem keepsF_set {B : Nat} {W : World} {b : Nat} {cs : Array Value} {t : TypeId} {f : Nat × Nat} (v : Value) (hk : W.heap[b]? = some (.cells cs t f)) : KeepsFrom B W (W.setCell ⟨b, 0, none⟩ v) :=
 ⟨by simp [World.setCell], fun k o _ hk1 hc => (set_far _ (fun e => by subst e; rw [hk] at hk1; cases hk1; cases hc)).trans hk1⟩
theorem keepsF_below {B : Nat} {W W' : World} (h : Below W.heap.size W W') : KeepsFrom B W W' := ⟨h.size, fun k o _ hk _ => blkb hk h⟩
end Go.Proofs.YtdimmlljjmmdbaaGreatDoor
