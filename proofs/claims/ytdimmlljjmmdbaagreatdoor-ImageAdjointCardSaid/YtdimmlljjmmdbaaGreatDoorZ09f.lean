/- A part of the proofs about chapter 7 (image): contracts of functions and plain laws (V26, PUnits, PFit, V28, O2, O3, V29, PMod, V30). -/
import Derived.Test.YtdimmlljjmmdbaaGreatDoorZ09b
import Derived.Test.YtdimmlljjmmdbaaGreatDoorZ09e
set_option linter.all false
namespace Go.Proofs.YtdimmlljjmmdbaaGreatDoor
open Go.RowKit
set_option maxHeartbeats 8000000
set_option maxRecDepth 20000
/-- an owned row of integers (or of others of one cell) -/
def Own (w : World) (B : Nat) (v : Value) (n : Nat) (l : List Value) : Prop := w.ownsRow B 3 1 v n l
theorem Own.below {w w' : World} {B : Nat} {v : Value} {n : Nat} {l : List Value} (h : Own w B v n l) (hb : Below w.heap.size w w') : Own w' B v n l := by
 obtain ⟨h1, h2 | ⟨g, cap, cs, rfl, h3, h4, h5⟩⟩ := h
 ·exact ⟨h1, .inl h2⟩
 ·exact ⟨h1, .inr ⟨g, cap, cs, rfl, h3, blkb h4 hb, h5⟩⟩
theorem own_lower {w : World} {B B' : Nat} {v : Value} {n : Nat} {l : List Value} (h : w.ownsRow B 3 1 v n l) (hb : B' ≤ B) : w.ownsRow B' 3 1 v n l := by
 obtain ⟨h1, h2 | ⟨g, cap, cs, rfl, h3, h4, h5⟩⟩ := h
 ·exact ⟨h1, .inl h2⟩
 ·exact ⟨h1, .inr ⟨g, cap, cs, rfl, Nat.le_trans hb h3, h4, h5⟩⟩
theorem c28_ok (c r : Nat) (A : Option Addr) (n cap : Nat) (l : List Int) (un len most : Int) (P : Option Addr) (np capp : Nat) (ps : List Pr) (j a b : Nat) (hole : Bool) (w : World) (g : Im.Gr c r l) (hc : c ≤ 16) (hr : r ≤ 16) (hu : 1 ≤ un ∧ un ≤ 1000) (hp : np ≤ 1000000) (hS : Mo.surv c r l un len most ps = 0) (hj : ps[j]? = some ⟨a, b, hole⟩) (ha : a < n) (hb0 : b < n) (H : RdI w A n l) (HP : RdP w P np ps) (hst : Steps w) :
  Calls Tryz.prog 28 #[.agg #[.int .i64 c, .int .i64 r, .slice A n cap], .agg #[.int .i64 un, .int .i64 len, .int .i64 most, .slice P np capp], .int .i64 j] w fun en w' => ∃ v, en = .returned (.tuple #[v, .int .i64 0]) ∧ w'.ownsRow w.heap.size 3 1 v n (encI (dlL c l un len most a b hole)) ∧ Below w.heap.size w w' := by
 have hl : n ≤ 1000000 := by have := H.len; have := g.len; have : c * r ≤ 256 := Nat.mul_le_mul hc hr; omega
 have hjn : j < np := by rw [← HP.len]; exact (List.getElem?_eq_some_iff.1 hj).1
 have hj1 : ¬ ((j : Int) < 0) := by omega
 have hj2 : ¬ ((np : Int) ≤ (j : Int)) := by omega
 have hj3 : (j : Int) < (np : Int) := by omega
 have hj4 : (0 : Int) ≤ (j : Int) := by omega
 have HSS := Lib.hid hS
 have HJ := Lib.hid hj
 clear hS hj
 obtain ⟨w0, hW⟩ : ∃ W, W = (w.alloc (Obj.cells #[.int .i64 c, .int .i64 r, .slice A n cap] 35)).alloc (Obj.cells #[.int .i64 un, .int .i64 len, .int .i64 most, .slice P np capp] 39) := ⟨_, rfl⟩
 have hT0 : w0.heap[w.heap.size]? = some (.cells #[.int .i64 c, .int .i64 r, .slice A n cap] 35 (0, 0)) := by rw [hW]; exact heap_old (by simp <;> omega) (heap_new (by simp))
 have hT1 : w0.heap[w.heap.size + 1]? = some (.cells #[.int .i64 un, .int .i64 len, .int .i64 most, .slice P np capp] 39 (0, 0)) := by rw [hW]; exact heap_new (by simp)
 have hB0 : Below w.heap.size w w0 := by rw [hW]; exact (((Below.refl _ _).alloc (by first | omega | (simp <;> omega)) _).alloc (by first | omega | (simp <;> omega)) _)
 replace H := H.below hB0
 replace HP := HP.below hB0
 replace hst := hst.below hB0
 go_enter Tryz.func28, Tryz.ntmps28
 go_wp2_with fail
 rw [← hW]
 clear hW
 have qhT0_0 : w0.cell? ⟨w.heap.size, 0, none⟩ = some (.int .i64 c) := cell_at hT0 rfl
 have qhT0_1 : w0.cell? ⟨w.heap.size, 1, none⟩ = some (.int .i64 r) := cell_at hT0 rfl
 have qhT0_2 : w0.cell? ⟨w.heap.size, 2, none⟩ = some (.slice A n cap) := cell_at hT0 rfl
 have qhT1_0 : w0.cell? ⟨w.heap.size + 1, 0, none⟩ = some (.int .i64 un) := cell_at hT1 rfl
 have qhT1_1 : w0.cell? ⟨w.heap.size + 1, 1, none⟩ = some (.int .i64 len) := cell_at hT1 rfl
 have qhT1_2 : w0.cell? ⟨w.heap.size + 1, 2, none⟩ = some (.int .i64 most) := cell_at hT1 rfl
 have qhT1_3 : w0.cell? ⟨w.heap.size + 1, 3, none⟩ = some (.slice P np capp) := cell_at hT1 rfl
 go_wp2_with fail
 refine (c25 c r A n cap l un len most P np capp ps _ hl hp H HP).mono ?_
 rintro e w1 ⟨rfl, hb⟩
 clear qhT0_0 qhT0_1 qhT0_2 qhT1_0 qhT1_1 qhT1_2 qhT1_3
 have hS := hb
 have hB1 := hB0.call hS rfl
 replace hT0 := blkb hT0 hS
 replace hT1 := blkb hT1 hS
 replace H := H.below hS
 replace HP := HP.below hS
 replace hst := hst.below hS
 clear hS hB0
 have qhT0_0 : w1.cell? ⟨w.heap.size, 0, none⟩ = some (.int .i64 c) := cell_at hT0 rfl
 have qhT0_1 : w1.cell? ⟨w.heap.size, 1, none⟩ = some (.int .i64 r) := cell_at hT0 rfl
 have qhT0_2 : w1.cell? ⟨w.heap.size, 2, none⟩ = some (.slice A n cap) := cell_at hT0 rfl
 have qhT1_0 : w1.cell? ⟨w.heap.size + 1, 0, none⟩ = some (.int .i64 un) := cell_at hT1 rfl
 have qhT1_1 : w1.cell? ⟨w.heap.size + 1, 1, none⟩ = some (.int .i64 len) := cell_at hT1 rfl
 have qhT1_2 : w1.cell? ⟨w.heap.size + 1, 2, none⟩ = some (.int .i64 most) := cell_at hT1 rfl
 have qhT1_3 : w1.cell? ⟨w.heap.size + 1, 3, none⟩ = some (.slice P np capp) := cell_at hT1 rfl
 clear hb
 rw [HSS.out]
 have hd1 : decide ((j : Int) < 0) = false := by simp
 have hd2 : decide (np ≤ j) = false := by simp; omega
 go_wp2_with fail
 refine (c94 false 10 _).mono ?_
 rintro e w' ⟨rfl, rfl⟩
 go_wp2_with fail
 refine (c89 _ 2 2 [0, Mo.when false 10] _ rfl (by omega) (RdS.of_new (cs := encI [0, Mo.when false 10]) rfl rfl)).mono ?_
 rintro e w' ⟨rfl, rfl⟩
 have hF : Mo.first [0, Mo.when false 10] = 0 := rfl
 rw [hF]
 obtain ⟨w2, hwn⟩ : ∃ V, V = w1.alloc (Obj.cells (encI [0, Mo.when false 10]).toArray 32) := ⟨_, rfl⟩
 have hbn : Below w1.heap.size w1 w2 := by rw [hwn]; exact (Below.refl _ _).alloc (Nat.le_refl _) _
 try rw [← hwn]
 clear hwn
 clear qhT0_0 qhT0_1 qhT0_2 qhT1_0 qhT1_1 qhT1_2 qhT1_3
 have hS := hbn
 have hB2 := hB1.call hS rfl
 replace hT0 := blkb hT0 hS
 replace hT1 := blkb hT1 hS
 replace H := H.below hS
 replace HP := HP.below hS
 replace hst := hst.below hS
 clear hS hB1
 have qhT0_0 : w2.cell? ⟨w.heap.size, 0, none⟩ = some (.int .i64 c) := cell_at hT0 rfl
 have qhT0_1 : w2.cell? ⟨w.heap.size, 1, none⟩ = some (.int .i64 r) := cell_at hT0 rfl
 have qhT0_2 : w2.cell? ⟨w.heap.size, 2, none⟩ = some (.slice A n cap) := cell_at hT0 rfl
 have qhT1_0 : w2.cell? ⟨w.heap.size + 1, 0, none⟩ = some (.int .i64 un) := cell_at hT1 rfl
 have qhT1_1 : w2.cell? ⟨w.heap.size + 1, 1, none⟩ = some (.int .i64 len) := cell_at hT1 rfl
 have qhT1_2 : w2.cell? ⟨w.heap.size + 1, 2, none⟩ = some (.int .i64 most) := cell_at hT1 rfl
 have qhT1_3 : w2.cell? ⟨w.heap.size + 1, 3, none⟩ = some (.slice P np capp) := cell_at hT1 rfl
 clear hbn
 go_wp2_with fail
 obtain ⟨pb, po, x, hPe, hx, hpb, p0, p1, p2⟩ := HP.at hjn
 rw [HJ.out] at hx
 obtain rfl : (⟨(a : Int), (b : Int), hole⟩ : Pr) = x := by simpa using hx
 clear hx
 subst hPe
 dsimp only at p0 p1 p2
 refine wp_region_plan [(0, true), (1, true), (2, true), (3, true), (4, true), (5, true), (6, true), (7, false), (8, true), (9, true)] w2.heap.size (by kernel_rfl) (by kernel_rfl) (Nat.le_refl _) (fun _ _ d _ _ h => by cases d <;> exact h) ?_
 have hC : Below w2.heap.size w2 w2 := Below.refl _ _
 have zhT0 : w.heap.size < w2.heap.size := (Array.getElem?_eq_some_iff.1 hT0).1
 have zhT1 : w.heap.size + 1 < w2.heap.size := (Array.getElem?_eq_some_iff.1 hT1).1
 repeat (first | (refine wpPlanA_skip _ rfl (by rfl) ?_; simp only [Act.put, List.setIfInBounds_toArray, List.set_cons_zero, List.set_cons_succ]) | (refine wpPlanA_soft _ ?_ rfl (by rfl) ?_ ?_; rotate_left; (intro wq hq hcq; go_simp; first | exact rfl | exact ⟨rfl, rfl⟩); simp only [Act.put, List.setIfInBounds_toArray, List.set_cons_zero, List.set_cons_succ]))
 refine wpPlanA_hard _ rfl (by rfl) (fun w3 hS K hK => ?_)
 have hB3 := hB2.call hS rfl
 replace hC := hC.call hS rfl
 replace hT0 := blkb hT0 hS
 replace hT1 := blkb hT1 hS
 replace H := H.below hS
 replace HP := HP.below hS
 replace hst := hst.below hS
 clear hS hB2
 go_simp
 refine (c99 c r A n cap l un len most _ np capp a b hole _ g hc hr hu ha hb0 H hst).mono ?_
 rintro e w4 ⟨vd, rfl, hown0, hb⟩
 have HSZ : Hid (w.heap.size ≤ w3.heap.size) := Lib.hid hB3.size
 have hown : Own w4 w3.heap.size vd n (encI (dlL c l un len most a b hole)) := hown0
 clear hown0
 have hB4 := hB3.call hb rfl
 replace hC := hC.call hb rfl
 replace hT0 := blkb hT0 hb
 replace hT1 := blkb hT1 hb
 replace H := H.below hb
 replace HP := HP.below hb
 replace hst := hst.below hb
 clear hb hB3
 refine hK _ _ hC ?_
 clear hK K
 try simp only [Act.put, List.setIfInBounds_toArray, List.set_cons_zero, List.set_cons_succ]
 repeat (first | (refine wpPlanA_skip _ rfl (by rfl) ?_; simp only [Act.put, List.setIfInBounds_toArray, List.set_cons_zero, List.set_cons_succ]) | (refine wpPlanA_soft _ ?_ rfl (by rfl) ?_ ?_; rotate_left; (intro wq hq hcq; go_simp; first | exact rfl | exact ⟨rfl, rfl⟩); simp only [Act.put, List.setIfInBounds_toArray, List.set_cons_zero, List.set_cons_succ]))
 clear qhT0_0 qhT0_1 qhT0_2 qhT1_0 qhT1_1 qhT1_2 qhT1_3
 refine wpPlanA_nil (fun w5 hS => ?_)
 clear hC zhT0 zhT1
 have hB5 := hB4.call hS rfl
 replace hT0 := blkb hT0 hS
 replace hT1 := blkb hT1 hS
 replace H := H.below hS
 replace HP := HP.below hS
 replace hst := hst.below hS
 replace hown := hown.below hS
 clear hS hB4
 have qhT0_0 : w5.cell? ⟨w.heap.size, 0, none⟩ = some (.int .i64 c) := cell_at hT0 rfl
 have qhT0_1 : w5.cell? ⟨w.heap.size, 1, none⟩ = some (.int .i64 r) := cell_at hT0 rfl
 have qhT0_2 : w5.cell? ⟨w.heap.size, 2, none⟩ = some (.slice A n cap) := cell_at hT0 rfl
 have qhT1_0 : w5.cell? ⟨w.heap.size + 1, 0, none⟩ = some (.int .i64 un) := cell_at hT1 rfl
 have qhT1_1 : w5.cell? ⟨w.heap.size + 1, 1, none⟩ = some (.int .i64 len) := cell_at hT1 rfl
 have qhT1_2 : w5.cell? ⟨w.heap.size + 1, 2, none⟩ = some (.int .i64 most) := cell_at hT1 rfl
 have qhT1_3 : w5.cell? ⟨w.heap.size + 1, 3, none⟩ = some (.slice (some ⟨pb, po, none⟩) np capp) := cell_at hT1 rfl
 have HO := Lib.hid (own_lower hown HSZ.out)
 clear hown
 go_wp2
 go_ret2
 exact ⟨vd, rfl, HO.out, hB5⟩
end Go.Proofs.YtdimmlljjmmdbaaGreatDoor
/- Plain laws of chapter 07: unit models and unit traces; the image as a sum of those of unit traces. -/
namespace Im
theorem zeros_at (n k : Nat) : at0 (List.replicate n 0) k = 0 := by
 unfold at0
 rw [List.getD_eq_getElem?_getD, List.getElem?_replicate]
 split <;> rfl
theorem imgFold_at {out ds tr : List Int} {k : Nat} (h : ds.length = out.length) (hk : k < out.length) : at0 (imgFold out ds tr) k = at0 out k + pick tr (at0 ds k) := by
 simp [imgFold, at0, List.getD_eq_getElem?_getD, h, hk]
/-- what an image has in a cell: the sum over the pairs -/
theorem image_fold_at (cell : Nat) : ∀ (xs : List (List Int × List Int)) (out : List Int), cell < out.length → (∀ x, x ∈ xs → x.1.length = out.length) →
  at0 (xs.foldl (fun out x => imgFold out x.1 x.2) out) cell = at0 out cell + (xs.map fun x => pick x.2 (at0 x.1 cell)).sum
 | [], out, _, _ => by simp
 | x :: xs, out, hc, h => by
  rw [List.foldl_cons, image_fold_at cell xs (imgFold out x.1 x.2) (by rw [imgFold_len (h x (by simp))]; exact hc) (fun y hy => by rw [imgFold_len (h x (by simp))]; exact h y (by simp [hy]))]
  rw [imgFold_at (h x (by simp)) hc]
  simp only [List.map_cons, List.sum_cons]
  omega
theorem ext_at {x y : List Int} (hl : x.length = y.length) (h : ∀ i, i < x.length → at0 x i = at0 y i) : x = y := by
 apply List.ext_getElem hl
 intro i h1 h2
 have := h i h1
 unfold at0 at this
 rw [List.getD_eq_getElem?_getD, List.getD_eq_getElem?_getD, List.getElem?_eq_getElem h1, List.getElem?_eq_getElem h2] at this
 exact this
theorem at0_setk {x : List Int} {k i : Nat} {v : Int} (hk : k < x.length) : at0 (x.set k v) i = if i = k then v else at0 x i := by
 unfold at0
 rw [List.getD_eq_getElem?_getD, List.getElem?_set, List.getD_eq_getElem?_getD]
 by_cases h : k = i
 ·subst h; simp [hk]
 ·simp [h, Ne.symm h]
/-- the image by the first i pairs -/
def imgN (n : Nat) (dss data : List (List Int)) (i : Nat) : List Int := ((List.zip dss data).take i).foldl (fun out x => imgFold out x.1 x.2) (List.replicate n 0)
theorem imgN_zero (n : Nat) (dss data : List (List Int)) : imgN n dss data 0 = List.replicate n 0 := rfl
theorem imgN_full {n : Nat} {dss data : List (List Int)} (h : dss.length = data.length) : imgN n dss data dss.length = image n dss data := by
 unfold imgN image
 rw [List.take_of_length_le (by simp; omega)]
theorem imgN_succ {n : Nat} {dss data : List (List Int)} {i : Nat} (h1 : i < dss.length) (h2 : i < data.length) : imgN n dss data (i + 1) = imgFold (imgN n dss data i) (dss.getD i []) (data.getD i []) := by
 unfold imgN
 have h3 : i < (List.zip dss data).length := by simp; omega
 rw [List.take_succ_eq_append_getElem h3, List.foldl_append]
 simp [List.getD_eq_getElem?_getD, h1, h2]
theorem imgN_len {n : Nat} {dss data : List (List Int)} (hn : ∀ ds, ds ∈ dss → ds.length = n) (i : Nat) : (imgN n dss data i).length = n := by
 unfold imgN
 rw [image_fold_len]
 ·simp
 ·intro x hx
  have := List.mem_of_mem_take hx
  rw [hn x.1 (List.of_mem_zip (a := x.1) (b := x.2) this).1]; simp
theorem pick_le {tr : List Int} {B : Int} (h0 : 0 ≤ B) (h : ∀ x, x ∈ tr → -B ≤ x ∧ x ≤ B) (d : Int) : -B ≤ pick tr d ∧ pick tr d ≤ B := by
 unfold pick
 split
 ·unfold at0
  rw [List.getD_eq_getElem?_getD]
  cases hh : tr[d.toNat]? with
  | none => simp; omega
  | some v => simpa using h v (List.mem_of_getElem? hh)
 ·omega
theorem imgN_le {n : Nat} {dss data : List (List Int)} {B : Int} (h0 : 0 ≤ B) (hn : ∀ ds, ds ∈ dss → ds.length = n) (hd : ∀ tr, tr ∈ data → ∀ x, x ∈ tr → -B ≤ x ∧ x ≤ B) (hl : dss.length = data.length) : ∀ i, i ≤ dss.length → ∀ k, k < n → -(i * B) ≤ at0 (imgN n dss data i) k ∧ at0 (imgN n dss data i) k ≤ i * B := by
 intro i
 induction i with
 | zero => intro _ k _; rw [imgN_zero, zeros_at]; simp
 | succ i ih =>
  intro hi k hk
  have h1 : i < dss.length := by omega
  have h2 : i < data.length := by omega
  have hdl : (dss.getD i []).length = (imgN n dss data i).length := by
   rw [imgN_len hn, List.getD_eq_getElem?_getD, List.getElem?_eq_getElem h1]; exact hn _ (List.getElem_mem h1)
  rw [imgN_succ h1 h2, imgFold_at hdl (by rw [imgN_len hn]; exact hk)]
  have := ih (by omega) k hk
  have hp := pick_le (tr := data.getD i []) h0 (fun x hx => by
   rw [List.getD_eq_getElem?_getD, List.getElem?_eq_getElem h2] at hx; exact hd _ (List.getElem_mem h2) x hx) (at0 (dss.getD i []) k)
  have e : ((i + 1 : Nat) : Int) * B = (i : Int) * B + B := by rw [Int.natCast_add, Int.add_mul]; simp
  rw [e]
  omega
end Im
/- Plain laws of chapter 07: the operator and the image over all pairs are adjoint; misfits and bounds. -/
namespace Im
/-- the shape of valid traces: holes are empty, others have the length; delays of holes are -1 -/
def Fits (len n : Nat) : List (Bool × List Int) → List (List Int) → Prop
 | [], [] => True
 | p :: ps, tr :: data => p.2.length = n ∧ (if p.1 = true then tr = [] ∧ ∀ d, d ∈ p.2 → d = -1 else tr.length = len ∧ ∀ d, d ∈ p.2 → d < (len : Int)) ∧ Fits len n ps data
 | _, _ => False
theorem pick_hole (tr ds : List Int) (h : ∀ d, d ∈ ds → d = -1) : ds.map (pick tr) = List.replicate ds.length 0 := by
 apply List.ext_getElem (by simp)
 intro i h1 h2
 have hi : i < ds.length := by simpa using h1
 rw [List.getElem_map, h _ (List.getElem_mem hi)]
 simp [pick]
theorem inner_zero_right (l : List Int) (n : Nat) : inner l (List.replicate n 0) = 0 := by rw [inner_comm, inner_zero]
theorem traces_fits_len {len n : Nat} {m : List Int} : ∀ {ps : List (Bool × List Int)} {data : List (List Int)}, Fits len n ps data → Fits len n ps (traces len ps m)
 | [], [], _ => trivial
 | p :: ps, tr :: data, ⟨h1, h2, h3⟩ => by
  refine ⟨h1, ?_, traces_fits_len h3⟩
  cases hp : p.1
  ·rw [hp] at h2
   simp only [Bool.false_eq_true, if_false] at h2 ⊢
   refine ⟨?_, h2.2⟩
   rw [hp, if_neg (by simp)]; exact trace_len _ _ _
  ·rw [hp] at h2
   simp only [if_true] at h2 ⊢
   refine ⟨?_, h2.2⟩
   rw [hp, if_pos rfl]
 | [], _ :: _, h => h.elim
 | _ :: _, [], h => h.elim
/-- ALL PAIRS: the traces of a model with traces are the model with their image -/
theorem adj_fold {len n : Nat} {m : List Int} (hm : m.length = n) : ∀ {ps : List (Bool × List Int)} {data : List (List Int)}, Fits len n ps data →
  inner (traces len ps m).flatten data.flatten = (((ps.map (·.2)).zip data).map (fun x => inner m (x.1.map (pick x.2)))).foldr (· + ·) 0
 | [], [], _ => rfl
 | p :: ps, tr :: data, ⟨h1, h2, h3⟩ => by
  have ih := adj_fold hm h3
  have e : traces len (p :: ps) m = (if p.1 then [] else trace len p.2 m) :: traces len ps m := rfl
  rw [e, List.flatten_cons, List.flatten_cons]
  simp only [List.map_cons, List.zip_cons_cons, List.foldr_cons]
  cases hp : p.1
  ·rw [hp] at h2
   simp only [Bool.false_eq_true, if_false] at h2 ⊢
   rw [inner_append _ _ _ _ (by rw [trace_len, h2.1]), ih, adj1 (by rw [h1, hm]) h2.1 h2.2]
  ·rw [hp] at h2
   simp only [if_true] at h2 ⊢
   rw [h2.1, pick_hole _ _ h2.2, inner_zero_right, List.nil_append, List.nil_append, ih, Int.zero_add]
 | [], _ :: _, h => h.elim
 | _ :: _, [], h => h.elim
theorem fits_mem {len n : Nat} : ∀ {ps : List (Bool × List Int)} {data : List (List Int)}, Fits len n ps data → ∀ p, p ∈ ps → p.2.length = n
 | p :: ps, tr :: data, ⟨h1, h2, h3⟩, q, hq => by
  rcases List.mem_cons.1 hq with rfl | h
  ·exact h1
  ·exact fits_mem h3 q h
 | [], _, _, q, hq => by cases hq
 | _ :: _, [], h, _, _ => h.elim
theorem adj {len n : Nat} {m : List Int} (hm : m.length = n) {ps : List (Bool × List Int)} {data : List (List Int)} (h : Fits len n ps data) :
  inner (traces len ps m).flatten data.flatten = inner m (image n (ps.map (·.2)) data) := by
 rw [adj_fold hm h]
 unfold image
 rw [inner_image_fold m _ _ (fun x hx => by
  have := (List.of_mem_zip (a := x.1) (b := x.2) hx).1
  obtain ⟨p, hp, e⟩ := List.mem_map.1 this
  rw [← e, fits_mem h p hp]; simp), inner_zero_right, Int.zero_add]
theorem flat_len {len n : Nat} : ∀ {ps : List (Bool × List Int)} {a b : List (List Int)}, Fits len n ps a → Fits len n ps b → a.flatten.length = b.flatten.length
 | [], [], [], _, _ => rfl
 | p :: ps, x :: a, y :: b, ⟨_, h2, h3⟩, ⟨_, k2, k3⟩ => by
  have ih := flat_len h3 k3
  cases hp : p.1
  ·rw [hp] at h2 k2
   simp only [Bool.false_eq_true, if_false] at h2 k2
   simp only [List.flatten_cons, List.length_append, ih, h2.1, k2.1]
  ·rw [hp] at h2 k2
   simp only [if_true] at h2 k2
   simp only [List.flatten_cons, List.length_append, ih, h2.1, k2.1]
 | [], _ :: _, _, h, _ => h.elim
 | _ :: _, [], _, h, _ => h.elim
 | [], _, _ :: _, _, h => h.elim
 | _ :: _, _, [], _, h => h.elim
/-- the sum of squared differences -/
def misfit : List Int → List Int → Int
 | a :: l, b :: m => (a - b) * (a - b) + misfit l m
 | _, _ => 0
theorem sq_nonneg' (x : Int) : 0 ≤ x * x := by
 rcases Int.le_total 0 x with h | h
 ·exact Int.mul_nonneg h h
 ·exact Int.mul_nonneg_of_nonpos_of_nonpos h h
end Im
namespace Go.Proofs.YtdimmlljjmmdbaaGreatDoor
open Go.RowKit
set_option maxHeartbeats 4000000
set_option maxRecDepth 20000
/-- a list of lists of integers at A -/
def RdD (w : World) (A : Option Addr) (n : Nat) (d : List (List Int)) : Prop :=
 ∃ hs : List Value, RdS w 1 A n hs ∧ d.length = n ∧ ∀ (k : Nat) (x : List Int), d[k]? = some x → ∃ a cap, hs[k]? = some (.slice a x.length cap) ∧ RdI w a x.length x
theorem RdD.below {w w' : World} {A : Option Addr} {n : Nat} {d : List (List Int)} (h : RdD w A n d) (hb : Below w.heap.size w w') : RdD w' A n d := by
 obtain ⟨hs, h1, h2, h3⟩ := h
 exact ⟨hs, h1.below hb, h2, fun k x hx => by obtain ⟨a, cap, e, hr⟩ := h3 k x hx; exact ⟨a, cap, e, hr.below hb⟩⟩
theorem RdD.len {w : World} {A : Option Addr} {n : Nat} {d : List (List Int)} (h : RdD w A n d) : d.length = n := by obtain ⟨_, _, h2, _⟩ := h; exact h2
theorem RdD.at {w : World} {A : Option Addr} {n : Nat} {d : List (List Int)} (h : RdD w A n d) {k : Nat} (hk : k < n) :
  ∃ b off x a cap, A = some ⟨b, off, none⟩ ∧ d[k]? = some x ∧ b < w.heap.size ∧ w.cell? ⟨b, off + k, none⟩ = some (.slice a x.length cap) ∧ RdI w a x.length x := by
 obtain ⟨hs, h1, h2, h3⟩ := h
 obtain ⟨b, off, hA, hb, hc⟩ := RdS.at h1 hk
 have hx : k < d.length := by omega
 obtain ⟨a, cap, e, hr⟩ := h3 k d[k] (List.getElem?_eq_getElem hx)
 have h0 := hc 0 (by omega)
 rw [Nat.mul_one, Nat.add_zero, e] at h0
 exact ⟨b, off, d[k], a, cap, hA, List.getElem?_eq_getElem hx, hb, h0, hr⟩
namespace Mo
/-- the shape of traces -/
def okT (len : Int) (p : Pr) (x : List Int) : Prop := if p.h = true then x.length = 0 else (x.length : Int) = len
def Shp (len : Int) (ps : List Pr) (d : List (List Int)) : Prop := ∀ (j : Nat) (p : Pr) (x : List Int), ps[j]? = some p → d[j]? = some x → okT len p x
open Classical in
/-- what is wrong with traces -/
noncomputable def dat (len : Int) (ps : List Pr) (d : List (List Int)) : Int := if d.length = ps.length ∧ Shp len ps d then first (d.map fun x => allw x (-1048576) 1048576) else 2
theorem dat_len {len : Int} {ps : List Pr} {d : List (List Int)} (h : d.length ≠ ps.length) : dat len ps d = 2 := by unfold dat; rw [if_neg (fun hh => h hh.1)]
theorem dat_bad {len : Int} {ps : List Pr} {d : List (List Int)} {j : Nat} {p : Pr} {x : List Int} (hp : ps[j]? = some p) (hx : d[j]? = some x) (h : ¬ okT len p x) : dat len ps d = 2 := by unfold dat; rw [if_neg (fun hh => h (hh.2 j p x hp hx))]
theorem dat_ok {len : Int} {ps : List Pr} {d : List (List Int)} (h : d.length = ps.length) (hs : Shp len ps d) : dat len ps d = first (d.map fun x => allw x (-1048576) 1048576) := by unfold dat; rw [if_pos ⟨h, hs⟩]
theorem dat_zero {len : Int} {ps : List Pr} {d : List (List Int)} (h : dat len ps d = 0) : d.length = ps.length ∧ Shp len ps d ∧ ∀ x, x ∈ d → ∀ y, y ∈ x → -1048576 ≤ y ∧ y ≤ 1048576 := by
 unfold dat at h
 by_cases hh : d.length = ps.length ∧ Shp len ps d
 ·rw [if_pos hh] at h
  refine ⟨hh.1, hh.2, fun x hx y hy => ?_⟩
  have h1 := first_zero h (allw x (-1048576) 1048576) (List.mem_map.2 ⟨x, hx, rfl⟩)
  have := allw_ok.1 h1 y hy
  omega
 ·rw [if_neg hh] at h; cases h
end Mo
theorem c142 (A : Option Addr) (n cap : Nat) (l : List (List Int)) (f : List Int → Int) (w : World) (hl : n ≤ 1000000) (H : RdD w A n l)
  (hcl : ∀ (W : World) (x : List Int) (a : Option Addr) (xc : Nat), x ∈ l → Below w.heap.size w W → RdI W a x.length x →
   Calls Tryz.prog 143 #[.slice a x.length xc] W fun e w' => e = .returned (Value.int .i64 (f x)) ∧ Below W.heap.size W w') :
  Calls Tryz.prog 142 #[.slice A n cap, .func (.func 143) #[] #[]] w fun en w' => ∃ A' cap', en = .returned (.slice A' n cap') ∧ RdI w' A' n (l.map f) ∧ Below w.heap.size w w' := by
 have Hn := Lib.hid H.len
 have Hcl := Lib.hid hcl
 have hmm : encI (l.map f) = l.map fun x => Value.int .i64 (f x) := by simp [encI]
 have Hm := Lib.hid hmm
 clear hcl hmm
 obtain ⟨i0, hi, hz0, hz1, hz2⟩ := info_parts info32
 go_enter Tryz.func142, Tryz.ntmps142
 go_wp2
 go_loopw [5, 10] (fun x i wr => ∃ k : Nat, k ≤ n ∧ i = .int .i64 k ∧ wr.ownsRow w.heap.size 32 1 x k ((l.map fun x => Value.int .i64 (f x)).take k) ∧ Below w.heap.size w wr) (fun _ i _ => n - (intOf i).toNat)
 case atStart => exact ⟨0, Nat.zero_le _, rfl, World.ownsRow_nil _ _ _ _, Below.refl _ _⟩
 case round =>
  obtain ⟨k, hk, rfl, hown, hB⟩ := hrel
  by_cases hlt : k < n
  ·obtain ⟨b, off, x, xa, xc, rfl, hx, hb, h0, hrx⟩ := (H.below hB).at hlt
   have Hx := Lib.hid hx
   have htk : (l.map fun x => Value.int .i64 (f x)).take (k + 1) = (l.map fun x => Value.int .i64 (f x)).take k ++ [Value.int .i64 (f x)] := by rw [List.take_succ, List.getElem?_map, hx]; simp
   have HTK := Lib.hid htk
   clear hx htk
   go_wp2_with fail
   refine (Hcl.out _ x xa xc (List.mem_of_getElem? Hx.out) hB hrx).mono ?_
   rintro e w2 ⟨rfl, hb2⟩
   have hown2 := own_below hown hb2
   have hB2 := fin0 hB hb2
   have hsz := hB2.size
   go_wp2_with (at_builtin; refine wpList_append_own _ rfl _ _ 152 rfl w.heap.size 32 i0 (.int .i64 0) 1 8 Tryz.underlying152 hi hz0 hz1 hz2 rfl (by decide) _ _ _ rfl (hown2.alloc _) ⟨w2.heap.size, 0, none⟩ 1 1 [Value.int .i64 (f x)] rfl rfl ?c1 ?c2 ?c3 ?c4 ?c5 ?_)
   case c1 => exact news_one _ _ rfl
   case c2 => intro x hx; simp at hx; subst hx; rfl
   case c3 => unfold maxLen; omega
   case c4 => omega
   case c5 => simp; omega
   intro x' w3 hown3 hg3 _
   have hB3 : Below w.heap.size w w3 := (hB2.alloc hsz _).grown hg3 (by simp; omega) (fun g hg => (hown2.lt g hg).1)
   rw [← HTK.out] at hown3
   have HO := Lib.hid hown3
   clear hown3 hg3 hown2 hown
   go_wp2
   go_roundw
   case rel => exact ⟨k + 1, by omega, by go_num, HO.out, hB3⟩
   case measure => simp [intOf]; omega
  ·obtain rfl : n = k := by omega
   rw [List.take_of_length_le (by rw [List.length_map, Hn.out]; exact Nat.le_refl _)] at hown
   have HO := Lib.hid hown
   clear hown
   go_wp2
   go_ret
   obtain ⟨A', cap', rfl, hr⟩ := Sl.of_own HO.out
   exact ⟨A', cap', rfl, by unfold RdI; rw [Hm.out]; exact hr, hB⟩
theorem c143 (A : Option Addr) (n cap : Nat) (l : List Int) (w : World) (hl : n ≤ 1000000) (H : RdI w A n l) :
  Calls Tryz.prog 143 #[.slice A n cap] w fun en w' => en = .returned (.int .i64 (Mo.allw l (-1048576) 1048576)) ∧ Below w.heap.size w w' := by
 go_enter Tryz.func143, Tryz.ntmps143
 obtain ⟨w0, hw0⟩ : ∃ W, W = w := ⟨_, rfl⟩
 subst hw0
 have hB0 : Below w0.heap.size w0 w0 := Below.refl _ _
 go_wp2_with fail
 go_wp2_with fail
 refine (c113 A n cap l _ _ _ hl H).mono ?_
 rintro e w1 ⟨rfl, hb⟩
 have hS := hb
 have hB1 := hB0.call hS rfl
 replace H := H.below hS
 clear hS hB0
 clear hb
 go_wp2
 go_ret
 exact ⟨rfl, hB1⟩
theorem c101_ne (un len most : Int) (P : Option Addr) (np capp : Nat) (ps : List Pr) (D : Option Addr) (m capd : Nat) (d : List (List Int)) (w : World) (hmm : ¬ m = np) (hp : np ≤ 1000000) (hd : m ≤ 1000000) (hdl : ∀ x, x ∈ d → x.length ≤ 1000000) (HP : RdP w P np ps) (HD : RdD w D m d) :
  Calls Tryz.prog 101 #[.agg #[.int .i64 un, .int .i64 len, .int .i64 most, .slice P np capp], .slice D m capd] w fun en w' => en = .returned (.int .i64 (Mo.dat len ps d)) ∧ Below w.heap.size w w' := by
 have HPL := Lib.hid HP.len
 have HDL := Lib.hid HD.len
 have Hdl := Lib.hid hdl
 clear hdl
 obtain ⟨V, hV⟩ : ∃ V, V = Mo.dat len ps d := ⟨_, rfl⟩
 rw [← hV]
 have HV := Lib.hid hV
 clear hV
 have hne : ((m : Int) != (np : Int)) = true := by simp; omega
 have HV2 : Hid (V = 2) := Lib.hid (by rw [HV.out]; exact Mo.dat_len (by rw [HPL.out, HDL.out]; exact hmm))
 clear hmm
 obtain ⟨w0, hW⟩ : ∃ W, W = w.alloc (Obj.cells #[.int .i64 un, .int .i64 len, .int .i64 most, .slice P np capp] 39) := ⟨_, rfl⟩
 have hT0 : w0.heap[w.heap.size]? = some (.cells #[.int .i64 un, .int .i64 len, .int .i64 most, .slice P np capp] 39 (0, 0)) := by rw [hW]; exact heap_new (by simp)
 have hB0 : Below w.heap.size w w0 := by rw [hW]; exact ((Below.refl _ _).alloc (by first | omega | (simp <;> omega)) _)
 replace HP := HP.below hB0
 replace HD := HD.below hB0
 go_enter Tryz.func101, Tryz.ntmps101
 go_wp2_with fail
 rw [← hW]
 clear hW
 have qhT0_0 : w0.cell? ⟨w.heap.size, 0, none⟩ = some (.int .i64 un) := cell_at hT0 rfl
 have qhT0_1 : w0.cell? ⟨w.heap.size, 1, none⟩ = some (.int .i64 len) := cell_at hT0 rfl
 have qhT0_2 : w0.cell? ⟨w.heap.size, 2, none⟩ = some (.int .i64 most) := cell_at hT0 rfl
 have qhT0_3 : w0.cell? ⟨w.heap.size, 3, none⟩ = some (.slice P np capp) := cell_at hT0 rfl
 go_wp2
 go_ret
 exact ⟨ret_int HV2.out.symm, hB0⟩
theorem c101_eq (un len most : Int) (P : Option Addr) (m capp : Nat) (ps : List Pr) (D : Option Addr) (capd : Nat) (d : List (List Int)) (w : World) (hd : m ≤ 1000000) (hdl : ∀ x, x ∈ d → x.length ≤ 1000000) (HP : RdP w P m ps) (HD : RdD w D m d) :
  Calls Tryz.prog 101 #[.agg #[.int .i64 un, .int .i64 len, .int .i64 most, .slice P m capp], .slice D m capd] w fun en w' => en = .returned (.int .i64 (Mo.dat len ps d)) ∧ Below w.heap.size w w' := by
 have HPL := Lib.hid HP.len
 have HDL := Lib.hid HD.len
 have Hdl := Lib.hid hdl
 clear hdl
 obtain ⟨V, hV⟩ : ∃ V, V = Mo.dat len ps d := ⟨_, rfl⟩
 rw [← hV]
 have HV := Lib.hid hV
 clear hV
 have hne : ((m : Int) != (m : Int)) = false := by simp
 obtain ⟨w0, hW⟩ : ∃ W, W = w.alloc (Obj.cells #[.int .i64 un, .int .i64 len, .int .i64 most, .slice P m capp] 39) := ⟨_, rfl⟩
 have hT0 : w0.heap[w.heap.size]? = some (.cells #[.int .i64 un, .int .i64 len, .int .i64 most, .slice P m capp] 39 (0, 0)) := by rw [hW]; exact heap_new (by simp)
 have hB0 : Below w.heap.size w w0 := by rw [hW]; exact ((Below.refl _ _).alloc (by first | omega | (simp <;> omega)) _)
 replace HP := HP.below hB0
 replace HD := HD.below hB0
 go_enter Tryz.func101, Tryz.ntmps101
 go_wp2_with fail
 rw [← hW]
 clear hW
 have qhT0_0 : w0.cell? ⟨w.heap.size, 0, none⟩ = some (.int .i64 un) := cell_at hT0 rfl
 have qhT0_1 : w0.cell? ⟨w.heap.size, 1, none⟩ = some (.int .i64 len) := cell_at hT0 rfl
 have qhT0_2 : w0.cell? ⟨w.heap.size, 2, none⟩ = some (.int .i64 most) := cell_at hT0 rfl
 have qhT0_3 : w0.cell? ⟨w.heap.size, 3, none⟩ = some (.slice P m capp) := cell_at hT0 rfl
 have hst0 : Hid (∀ (j : Nat) (p : Pr) (x : List Int), j < 0 → ps[j]? = some p → d[j]? = some x → Mo.okT len p x) := Lib.hid (fun j _ _ h => absurd h (Nat.not_lt_zero j))
 go_loopw [15] (fun i wr => ∃ k : Nat, k ≤ m ∧ i = .int .i64 k ∧ Hid (∀ (j : Nat) (p : Pr) (x : List Int), j < k → ps[j]? = some p → d[j]? = some x → Mo.okT len p x) ∧ Below w0.heap.size w0 wr) (fun i _ => m - (intOf i).toNat)
 case atStart => exact ⟨0, Nat.zero_le _, rfl, hst0, Below.refl _ _⟩
 case round =>
  clear hst0
  obtain ⟨k, hk, rfl, HC, hbr⟩ := hrel
  obtain ⟨w1, hww⟩ : ∃ W, W = wr := ⟨_, rfl⟩
  subst hww
  have hB1 := hB0.call hbr rfl
  replace hT0 := blkb hT0 hbr
  replace HP := HP.below hbr
  replace HD := HD.below hbr
  clear hB0
  have qhT0_0 : w1.cell? ⟨w.heap.size, 0, none⟩ = some (.int .i64 un) := cell_at hT0 rfl
  have qhT0_1 : w1.cell? ⟨w.heap.size, 1, none⟩ = some (.int .i64 len) := cell_at hT0 rfl
  have qhT0_2 : w1.cell? ⟨w.heap.size, 2, none⟩ = some (.int .i64 most) := cell_at hT0 rfl
  have qhT0_3 : w1.cell? ⟨w.heap.size, 3, none⟩ = some (.slice P m capp) := cell_at hT0 rfl
  have hwk : IntKind.i64.wrap ((k : Int) + 1) = ((k + 1 : Nat) : Int) := by rw [wrapI (by omega)]; simp
  by_cases hlt : k < m
  rotate_left
  ·
    obtain rfl : m = k := by omega
    have HVF : Hid (V = Mo.first (d.map fun x => Mo.allw x (-1048576) 1048576)) := Lib.hid (by
     rw [HV.out]
     refine Mo.dat_ok (by rw [HPL.out, HDL.out]) (fun j p x hp hx => HC.out j p x ?_ hp hx)
     have : j < d.length := by
      by_cases h : j < d.length
      ·exact h
      ·rw [List.getElem?_eq_none (by omega)] at hx; cases hx
     rw [HDL.out] at this; exact this)
    go_wp2_with fail
    refine (c142 D m capd d (fun x => Mo.allw x (-1048576) 1048576) _ hd HD (fun W x a xc hx _ hrx => c143 a x.length xc x W (Hdl.out x hx) hrx)).mono ?_
    rintro e w2 ⟨A1, cap1, rfl, hr1, hb⟩
    clear qhT0_0 qhT0_1 qhT0_2 qhT0_3
    have hS := hb
    have hB2 := hB1.call hS rfl
    replace hT0 := blkb hT0 hS
    replace HP := HP.below hS
    replace HD := HD.below hS
    replace hbr := hbr.call hS rfl
    clear hS hB1
    have qhT0_0 : w2.cell? ⟨w.heap.size, 0, none⟩ = some (.int .i64 un) := cell_at hT0 rfl
    have qhT0_1 : w2.cell? ⟨w.heap.size, 1, none⟩ = some (.int .i64 len) := cell_at hT0 rfl
    have qhT0_2 : w2.cell? ⟨w.heap.size, 2, none⟩ = some (.int .i64 most) := cell_at hT0 rfl
    have qhT0_3 : w2.cell? ⟨w.heap.size, 3, none⟩ = some (.slice P m capp) := cell_at hT0 rfl
    clear hb
    go_wp2_with fail
    refine (c89 A1 m cap1 _ _ hr1.len hd hr1).mono ?_
    rintro e w' ⟨rfl, rfl⟩
    go_wp2
    go_ret
    exact ⟨ret_int HVF.out.symm, hB2⟩
  have hkm2 : (k : Int) < (m : Int) := by omega
  have hk02 : (0 : Int) ≤ (k : Int) := by omega
  obtain ⟨db, doff, x, xa, xc, rfl, hx, hdb, hdc, hrx⟩ := HD.at hlt
  obtain ⟨pb, poff, p, rfl, hpx, hpb, hp0, hp1, hp2⟩ := HP.at hlt
  obtain ⟨p0, p1, ph⟩ := p
  have HX := Lib.hid hx
  have HPX := Lib.hid hpx
  clear hx hpx hrx hp0 hp1
  have HN := Lib.hid hbr
  clear hbr
  cases ph
  ·
    by_cases hxl : (x.length : Int) = len
    ·
      have hx1 : ((x.length : Int) != len) = false := by simp [hxl]
      have HXL := Lib.hid hxl
      clear hxl
      have HC2 : Hid (∀ (j : Nat) (p : Pr) (y : List Int), j < k + 1 → ps[j]? = some p → d[j]? = some y → Mo.okT len p y) := Lib.hid (fun j p y hj hp hy => by
       by_cases h : j = k
       ·subst h
        rw [HX.out] at hy; rw [HPX.out] at hp
        cases hy; cases hp
        simp [Mo.okT]; exact HXL.out
       ·exact HC.out j p y (by omega) hp hy)
      go_wp2
      go_roundw
      case rel => exact ⟨k + 1, by omega, rfl, HC2, HN.out⟩
      case measure => simp [intOf]; omega
    ·
      have hx1 : ((x.length : Int) != len) = true := by simpa using hxl
      have HXL := Lib.hid hxl
      clear hxl
      have HV2 : Hid (V = 2) := Lib.hid (by rw [HV.out]; exact Mo.dat_bad HPX.out HX.out (by simp [Mo.okT]; exact HXL.out))
      go_wp2
      go_ret
      exact ⟨ret_int HV2.out.symm, hB1⟩
  ·
    by_cases hxl : x.length = 0
    ·
      have hx1 : decide (0 < x.length) = false := decide_eq_false (by omega)
      have HXL := Lib.hid hxl
      clear hxl
      have HC2 : Hid (∀ (j : Nat) (p : Pr) (y : List Int), j < k + 1 → ps[j]? = some p → d[j]? = some y → Mo.okT len p y) := Lib.hid (fun j p y hj hp hy => by
       by_cases h : j = k
       ·subst h
        rw [HX.out] at hy; rw [HPX.out] at hp
        cases hy; cases hp
        simp only [Mo.okT, if_true]; exact HXL.out
       ·exact HC.out j p y (by omega) hp hy)
      go_wp2
      go_roundw
      case rel => exact ⟨k + 1, by omega, rfl, HC2, HN.out⟩
      case measure => simp [intOf]; omega
    ·
      have hx1 : decide (0 < x.length) = true := decide_eq_true (by omega)
      have HXL := Lib.hid hxl
      clear hxl
      have HV2 : Hid (V = 2) := Lib.hid (by rw [HV.out]; exact Mo.dat_bad HPX.out HX.out (by simp only [Mo.okT, if_true]; exact HXL.out))
      go_wp2
      go_ret
      exact ⟨ret_int HV2.out.symm, hB1⟩
theorem c101 (un len most : Int) (P : Option Addr) (np capp : Nat) (ps : List Pr) (D : Option Addr) (m capd : Nat) (d : List (List Int)) (w : World) (hp : np ≤ 1000000) (hd : m ≤ 1000000) (hdl : ∀ x, x ∈ d → x.length ≤ 1000000) (HP : RdP w P np ps) (HD : RdD w D m d) : Calls Tryz.prog 101 #[.agg #[.int .i64 un, .int .i64 len, .int .i64 most, .slice P np capp], .slice D m capd] w fun en w' => en = .returned (.int .i64 (Mo.dat len ps d)) ∧ Below w.heap.size w w' := by
 by_cases hmm : m = np
 ·subst hmm
  exact c101_eq un len most P m capp ps D capd d w hd hdl HP HD
 ·exact c101_ne un len most P np capp ps D m capd d w hmm hp hd hdl HP HD
theorem c102 (c r : Int) (A : Option Addr) (n cap : Nat) (l : List Int) (un len most : Int) (P : Option Addr) (np capp : Nat) (ps : List Pr) (D : Option Addr) (m capd : Nat) (d : List (List Int)) (w : World) (hl : n ≤ 1000000) (hp : np ≤ 1000000) (hd : m ≤ 1000000) (hdl : ∀ x, x ∈ d → x.length ≤ 1000000) (HP : RdP w P np ps) (HD : RdD w D m d) (H : RdI w A n l) :
  Calls Tryz.prog 102 #[.agg #[.int .i64 c, .int .i64 r, .slice A n cap], .agg #[.int .i64 un, .int .i64 len, .int .i64 most, .slice P np capp], .slice D m capd] w fun en w' => en = .returned (.int .i64 (Mo.first [Mo.surv c r l un len most ps, Mo.dat len ps d])) ∧ Below w.heap.size w w' := by
 obtain ⟨w0, hW⟩ : ∃ W, W = (w.alloc (Obj.cells #[.int .i64 c, .int .i64 r, .slice A n cap] 35)).alloc (Obj.cells #[.int .i64 un, .int .i64 len, .int .i64 most, .slice P np capp] 39) := ⟨_, rfl⟩
 have hT0 : w0.heap[w.heap.size]? = some (.cells #[.int .i64 c, .int .i64 r, .slice A n cap] 35 (0, 0)) := by rw [hW]; exact heap_old (by simp <;> omega) (heap_new (by simp))
 have hT1 : w0.heap[w.heap.size + 1]? = some (.cells #[.int .i64 un, .int .i64 len, .int .i64 most, .slice P np capp] 39 (0, 0)) := by rw [hW]; exact heap_new (by simp)
 have hB0 : Below w.heap.size w w0 := by rw [hW]; exact (((Below.refl _ _).alloc (by first | omega | (simp <;> omega)) _).alloc (by first | omega | (simp <;> omega)) _)
 replace H := H.below hB0
 replace HP := HP.below hB0
 replace HD := HD.below hB0
 go_enter Tryz.func102, Tryz.ntmps102
 go_wp2_with fail
 rw [← hW]
 clear hW
 have qhT0_0 : w0.cell? ⟨w.heap.size, 0, none⟩ = some (.int .i64 c) := cell_at hT0 rfl
 have qhT0_1 : w0.cell? ⟨w.heap.size, 1, none⟩ = some (.int .i64 r) := cell_at hT0 rfl
 have qhT0_2 : w0.cell? ⟨w.heap.size, 2, none⟩ = some (.slice A n cap) := cell_at hT0 rfl
 have qhT1_0 : w0.cell? ⟨w.heap.size + 1, 0, none⟩ = some (.int .i64 un) := cell_at hT1 rfl
 have qhT1_1 : w0.cell? ⟨w.heap.size + 1, 1, none⟩ = some (.int .i64 len) := cell_at hT1 rfl
 have qhT1_2 : w0.cell? ⟨w.heap.size + 1, 2, none⟩ = some (.int .i64 most) := cell_at hT1 rfl
 have qhT1_3 : w0.cell? ⟨w.heap.size + 1, 3, none⟩ = some (.slice P np capp) := cell_at hT1 rfl
 refine wp_region_plan [(0, true), (1, true), (3, true), (4, true), (2, false), (5, false), (6, false), (7, false), (8, true)] w0.heap.size (by kernel_rfl) (by kernel_rfl) (Nat.le_refl _) (fun _ _ d _ _ h => by cases d <;> exact h) ?_
 have hC : Below w0.heap.size w0 w0 := Below.refl _ _
 have zhT0 : w.heap.size < w0.heap.size := (Array.getElem?_eq_some_iff.1 hT0).1
 have zhT1 : w.heap.size + 1 < w0.heap.size := (Array.getElem?_eq_some_iff.1 hT1).1
 repeat (first | (refine wpPlanA_skip _ rfl (by rfl) ?_; simp only [Act.put, List.setIfInBounds_toArray, List.set_cons_zero, List.set_cons_succ]) | (refine wpPlanA_soft _ ?_ rfl (by rfl) ?_ ?_; rotate_left; (intro wq hq hcq; go_simp; first | exact rfl | exact ⟨rfl, rfl⟩); simp only [Act.put, List.setIfInBounds_toArray, List.set_cons_zero, List.set_cons_succ]))
 refine wpPlanA_hard _ rfl (by rfl) (fun w1 hS K hK => ?_)
 have hB1 := hB0.call hS rfl
 replace hC := hC.call hS rfl
 replace hT0 := blkb hT0 hS
 replace hT1 := blkb hT1 hS
 replace H := H.below hS
 replace HP := HP.below hS
 replace HD := HD.below hS
 clear hS hB0
 go_simp
 refine (c25 c r A n cap l un len most P np capp ps _ hl hp H HP).mono ?_
 rintro e w2 ⟨rfl, hb⟩
 have hB2 := hB1.call hb rfl
 replace hC := hC.call hb rfl
 replace hT0 := blkb hT0 hb
 replace hT1 := blkb hT1 hb
 replace H := H.below hb
 replace HP := HP.below hb
 replace HD := HD.below hb
 clear hb hB1
 refine hK _ _ hC ?_
 clear hK K
 try simp only [Act.put, List.setIfInBounds_toArray, List.set_cons_zero, List.set_cons_succ]
 refine wpPlanA_hard _ rfl (by rfl) (fun w3 hS K hK => ?_)
 have hB3 := hB2.call hS rfl
 replace hC := hC.call hS rfl
 replace hT0 := blkb hT0 hS
 replace hT1 := blkb hT1 hS
 replace H := H.below hS
 replace HP := HP.below hS
 replace HD := HD.below hS
 clear hS hB2
 go_simp
 refine (c101 un len most P np capp ps D m capd d _ hp hd hdl HP HD).mono ?_
 rintro e w4 ⟨rfl, hb⟩
 have hB4 := hB3.call hb rfl
 replace hC := hC.call hb rfl
 replace hT0 := blkb hT0 hb
 replace hT1 := blkb hT1 hb
 replace H := H.below hb
 replace HP := HP.below hb
 replace HD := HD.below hb
 clear hb hB3
 refine hK _ _ hC ?_
 clear hK K
 try simp only [Act.put, List.setIfInBounds_toArray, List.set_cons_zero, List.set_cons_succ]
 refine wpPlanA_hard _ rfl (by rfl) (fun w5 hS K hK => ?_)
 have hB5 := hB4.call hS rfl
 replace hC := hC.call hS rfl
 replace hT0 := blkb hT0 hS
 replace hT1 := blkb hT1 hS
 replace H := H.below hS
 replace HP := HP.below hS
 replace HD := HD.below hS
 clear hS hB4
 go_simp
 have hb : Below w5.heap.size w5 (w5.alloc (Obj.cells #[.int .i64 (Mo.surv c r l un len most ps), .int .i64 (Mo.dat len ps d)] 32)) := (Below.refl _ _).alloc (Nat.le_refl _) _
 have k1 : (w5.alloc (Obj.cells #[.int .i64 (Mo.surv c r l un len most ps), .int .i64 (Mo.dat len ps d)] 32)).heap[w5.heap.size]? = some (Obj.cells #[.int .i64 (Mo.surv c r l un len most ps), .int .i64 (Mo.dat len ps d)] 32) := heap_new rfl
 refine hK _ _ (hC.alloc hC.size _) ?_
 clear hK K
 replace hC := hC.call hb rfl
 have hB6 := hB5.call hb rfl
 replace hT0 := blkb hT0 hb
 replace hT1 := blkb hT1 hb
 replace H := H.below hb
 replace HP := HP.below hb
 replace HD := HD.below hb
 clear hb hB5
 generalize hWn : w5.alloc (Obj.cells #[.int .i64 (Mo.surv c r l un len most ps), .int .i64 (Mo.dat len ps d)] 32) = w6 at k1 hC hB6 hT0 hT1 H HP HD ⊢
 clear hWn
 generalize hWn : w5.heap.size = bk1 at k1 ⊢
 clear hWn
 try simp only [Act.put, List.setIfInBounds_toArray, List.set_cons_zero, List.set_cons_succ]
 refine wpPlanA_hard _ rfl (by rfl) (fun w7 hS K hK => ?_)
 have hB7 := hB6.call hS rfl
 replace hC := hC.call hS rfl
 replace hT0 := blkb hT0 hS
 replace hT1 := blkb hT1 hS
 replace H := H.below hS
 replace HP := HP.below hS
 replace HD := HD.below hS
 replace k1 := blkb k1 hS
 clear hS hB6
 go_simp
 refine (c89 _ 2 2 [Mo.surv c r l un len most ps, Mo.dat len ps d] _ rfl (by omega) (RdS.of_block (cs := encI [Mo.surv c r l un len most ps, Mo.dat len ps d]) k1 rfl)).mono ?_
 rintro e w' ⟨rfl, rfl⟩
 refine hK _ _ hC ?_
 clear hK K
 try simp only [Act.put, List.setIfInBounds_toArray, List.set_cons_zero, List.set_cons_succ]
 repeat (first | (refine wpPlanA_skip _ rfl (by rfl) ?_; simp only [Act.put, List.setIfInBounds_toArray, List.set_cons_zero, List.set_cons_succ]) | (refine wpPlanA_soft _ ?_ rfl (by rfl) ?_ ?_; rotate_left; (intro wq hq hcq; go_simp; first | exact rfl | exact ⟨rfl, rfl⟩); simp only [Act.put, List.setIfInBounds_toArray, List.set_cons_zero, List.set_cons_succ]))
 clear k1
 clear qhT0_0 qhT0_1 qhT0_2 qhT1_0 qhT1_1 qhT1_2 qhT1_3
 refine wpPlanA_nil (fun w8 hS => ?_)
 clear hC zhT0 zhT1
 have hB8 := hB7.call hS rfl
 replace hT0 := blkb hT0 hS
 replace hT1 := blkb hT1 hS
 replace H := H.below hS
 replace HP := HP.below hS
 replace HD := HD.below hS
 clear hS hB7
 have qhT0_0 : w8.cell? ⟨w.heap.size, 0, none⟩ = some (.int .i64 c) := cell_at hT0 rfl
 have qhT0_1 : w8.cell? ⟨w.heap.size, 1, none⟩ = some (.int .i64 r) := cell_at hT0 rfl
 have qhT0_2 : w8.cell? ⟨w.heap.size, 2, none⟩ = some (.slice A n cap) := cell_at hT0 rfl
 have qhT1_0 : w8.cell? ⟨w.heap.size + 1, 0, none⟩ = some (.int .i64 un) := cell_at hT1 rfl
 have qhT1_1 : w8.cell? ⟨w.heap.size + 1, 1, none⟩ = some (.int .i64 len) := cell_at hT1 rfl
 have qhT1_2 : w8.cell? ⟨w.heap.size + 1, 2, none⟩ = some (.int .i64 most) := cell_at hT1 rfl
 have qhT1_3 : w8.cell? ⟨w.heap.size + 1, 3, none⟩ = some (.slice P np capp) := cell_at hT1 rfl
 go_wp2
 go_ret
 exact ⟨rfl, hB8⟩
end Go.Proofs.YtdimmlljjmmdbaaGreatDoor
/- From the data of a survey and of traces to plain lists. -/
namespace Go.Proofs.YtdimmlljjmmdbaaGreatDoor
open Go.ChangeShapes Go.WideShapes Go.ChangeAt Go.RowKit
set_option maxHeartbeats 1000000
set_option maxRecDepth 100000
theorem LeafAll.boo {H : Type} {enc : TypeId × Value → H} {w : World} {base : Nat} {spare : Nat → Bool} {held : Bool} {t : TypeId} {ts : List TypeId} {cs : List Value} (ht : Tryz.prog.underlying t = some .bool) (h : LeafAll enc Tryz.prog w base spare held (t :: ts) cs) :
  ∃ b r, cs = .bool b :: r ∧ LeafAll enc Tryz.prog w base spare held ts r := by
 obtain ⟨c, r, rfl, ⟨n, y, hy⟩, h2⟩ := h.head
 obtain ⟨b, hb, _⟩ := DataW.trod_bool ht hy
 cases hb
 exact ⟨b, r, rfl, h2⟩
section
variable {H : Type} {enc : TypeId × Value → H} {W : World} {base : Nat} {v : Value} {d : DataW H} {p : List MemPlace}
/-- a slice: where it lies, its room, and what it holds -/
def sl3 (x : Option Addr × Nat × List Int) : List Value := [.slice x.1 x.2.2.length x.2.1]
theorem slD {n : Nat} {y : DataW H × List MemPlace} (h1 : DataW.trod enc Tryz.prog W 0 (fun _ => true) true n 31 [v] = some y) : ∃ D capd dl, v = .slice D (List.length dl) capd ∧ RdD W D dl.length dl ∧ dl.length ≤ 9223372036854775807 := by
 have hα : ∀ cs, LeafAll enc Tryz.prog W 0 (fun _ => true) true [22] cs → ∃ x : Option Addr × Nat × List Int, cs = sl3 x ∧ RdI W x.1 x.2.2.length x.2.2 := by
  intro cs hc0
  obtain ⟨x0, r0, rfl, ⟨n, y, h3⟩, hc1⟩ := hc0.head
  obtain rfl := hc1.nil
  obtain ⟨A, cap, l, rfl, hr⟩ := sl22 h3
  exact ⟨⟨A, cap, l⟩, rfl, hr⟩
 obtain ⟨A, cap, l, h1, h2, _, h3, h4, hq⟩ := rdl_open (enc' := sl3) (Q := fun x => RdI W x.1 x.2.2.length x.2.2) (ts := [22]) (size := 1) (n := 8) Tryz.underlying31 (by kernel_rfl) (by kernel_rfl) rfl (by decide) hα h1
 refine ⟨A, cap, l.map (·.2.2), by rw [List.length_map]; exact h1, ⟨l.flatMap sl3, by rw [List.length_map]; exact h2, rfl, fun k x hx => ?_⟩, by rw [List.length_map]; unfold maxLen at h4; omega⟩
 rw [List.getElem?_map] at hx
 cases hz : l[k]? with
 | none => rw [hz] at hx; cases hx
 | some z =>
  rw [hz] at hx
  have hxz : z.2.2 = x := by simpa using hx
  subst hxz
  refine ⟨z.1, z.2.1, ?_, hq z (List.mem_of_getElem? hz)⟩
  have := flat_get (size := 1) (enc := sl3) (fun _ => rfl) l k 0 z hz (by decide)
  simpa [sl3] using this
end
end Go.Proofs.YtdimmlljjmmdbaaGreatDoor
/- From the data of a survey and of traces to plain lists, with the room of the slices. -/
namespace Go.Proofs.YtdimmlljjmmdbaaGreatDoor
open Go.ChangeShapes Go.WideShapes Go.ChangeAt Go.RowKit
set_option maxHeartbeats 1000000
set_option maxRecDepth 100000
section
variable {H : Type} {enc : TypeId × Value → H} {W : World} {base : Nat} {v : Value} {d : DataW H} {p : List MemPlace}
theorem slPrC {n : Nat} {y : DataW H × List MemPlace} (h : DataW.trod enc Tryz.prog W 0 (fun _ => true) true n 25 [v] = some y) : ∃ A cap l, v = .slice A (List.length l) cap ∧ RdP W A l.length l ∧ l.length ≤ cap := by
 have hα : ∀ cs, LeafAll enc Tryz.prog W 0 (fun _ => true) true [3, 3, 4] cs → ∃ x : Pr, cs = Pr.enc x ∧ True := by
  intro cs hc0
  obtain ⟨x0, r0, rfl, _, hc1⟩ := hc0.int Tryz.underlying3
  obtain ⟨x1, r1, rfl, _, hc2⟩ := hc1.int Tryz.underlying3
  obtain ⟨x2, r2, rfl, hc3⟩ := LeafAll.boo Tryz.underlying4 hc2
  obtain rfl := hc3.nil
  exact ⟨⟨x0, x1, x2⟩, rfl, trivial⟩
 obtain ⟨A, cap, l, h1, h2, _, h3, _⟩ := rdl_open (enc' := Pr.enc) (Q := fun _ => True) (ts := [3, 3, 4]) (size := 3) (n := 8) Tryz.underlying25 (by kernel_rfl) (by kernel_rfl) rfl (by decide) hα h
 exact ⟨A, cap, l, h1, h2, h3⟩
theorem open_survC (hv : Value.okWide Tryz.prog W .any base 27 v) (h : DataW.Trod enc Tryz.prog W 0 (fun _ => true) true 27 v d p) : ∃ un len most P capp ps, v = .agg #[.int .i64 un, .int .i64 len, .int .i64 most, .slice P (List.length ps) capp] ∧ RdP W P ps.length ps ∧ ps.length ≤ capp := by
 obtain ⟨cs, rfl, hc0⟩ := leaf_arg (ts := [3, 3, 3, 25]) Tryz.underlying27 hv h (by kernel_rfl)
 obtain ⟨x0, r0, rfl, _, hc1⟩ := hc0.int Tryz.underlying3
 obtain ⟨x1, r1, rfl, _, hc2⟩ := hc1.int Tryz.underlying3
 obtain ⟨x2, r2, rfl, _, hc3⟩ := hc2.int Tryz.underlying3
 obtain ⟨x3, r3, rfl, ⟨n, y, h3⟩, hc4⟩ := hc3.head
 obtain rfl := hc4.nil
 obtain ⟨A, cap, l, rfl, hr, hc⟩ := slPrC h3
 exact ⟨x0, x1, x2, A, cap, l, rfl, hr, hc⟩
theorem slDC {n : Nat} {y : DataW H × List MemPlace} (h1 : DataW.trod enc Tryz.prog W 0 (fun _ => true) true n 31 [v] = some y) : ∃ D capd dl, v = .slice D (List.length dl) capd ∧ RdD W D dl.length dl ∧ dl.length ≤ 9223372036854775807 ∧ dl.length ≤ capd := by
 have hα : ∀ cs, LeafAll enc Tryz.prog W 0 (fun _ => true) true [22] cs → ∃ x : Option Addr × Nat × List Int, cs = sl3 x ∧ RdI W x.1 x.2.2.length x.2.2 := by
  intro cs hc0
  obtain ⟨x0, r0, rfl, ⟨n, y, h3⟩, hc1⟩ := hc0.head
  obtain rfl := hc1.nil
  obtain ⟨A, cap, l, rfl, hr⟩ := sl22 h3
  exact ⟨⟨A, cap, l⟩, rfl, hr⟩
 obtain ⟨A, cap, l, h1, h2, _, h3, h4, hq⟩ := rdl_open (enc' := sl3) (Q := fun x => RdI W x.1 x.2.2.length x.2.2) (ts := [22]) (size := 1) (n := 8) Tryz.underlying31 (by kernel_rfl) (by kernel_rfl) rfl (by decide) hα h1
 refine ⟨A, cap, l.map (·.2.2), by rw [List.length_map]; exact h1, ⟨l.flatMap sl3, by rw [List.length_map]; exact h2, rfl, fun k x hx => ?_⟩, by rw [List.length_map]; unfold maxLen at h4; omega, by rw [List.length_map]; exact h3⟩
 rw [List.getElem?_map] at hx
 cases hz : l[k]? with
 | none => rw [hz] at hx; cases hx
 | some z =>
  rw [hz] at hx
  have hxz : z.2.2 = x := by simpa using hx
  subst hxz
  refine ⟨z.1, z.2.1, ?_, hq z (List.mem_of_getElem? hz)⟩
  have := flat_get (size := 1) (enc := sl3) (fun _ => rfl) l k 0 z hz (by decide)
  simpa [sl3] using this
theorem open_recC (hv : Value.okWide Tryz.prog W .any base 55 v) (h : DataW.Trod enc Tryz.prog W 0 (fun _ => true) true 55 v d p) : ∃ D capd dl E cape el M capm ml s f k, v = .agg #[.slice D (List.length dl) capd, .slice E (List.length el) cape, .slice M (List.length ml) capm, .int .i64 s, .int .i64 f, .int .i64 k] ∧ RdD W D dl.length dl ∧ RdD W E el.length el ∧ RdI W M ml.length ml ∧ dl.length ≤ 9223372036854775807 ∧ el.length ≤ 9223372036854775807 ∧ dl.length ≤ capd := by
 obtain ⟨cs, rfl, hc0⟩ := leaf_arg (ts := [31, 31, 22, 3, 3, 3]) Tryz.underlying55 hv h (by kernel_rfl)
 obtain ⟨x0, r0, rfl, ⟨n0, y0, h0⟩, hc1⟩ := hc0.head
 obtain ⟨x1, r1, rfl, ⟨n1, y1, h1⟩, hc2⟩ := hc1.head
 obtain ⟨x2, r2, rfl, ⟨n2, y2, h2⟩, hc3⟩ := hc2.head
 obtain ⟨x3, r3, rfl, _, hc4⟩ := hc3.int Tryz.underlying3
 obtain ⟨x4, r4, rfl, _, hc5⟩ := hc4.int Tryz.underlying3
 obtain ⟨x5, r5, rfl, _, hc6⟩ := hc5.int Tryz.underlying3
 obtain rfl := hc6.nil
 obtain ⟨D, capd, dl, rfl, hd, hdl, hdc⟩ := slDC h0
 obtain ⟨E, cape, el, rfl, he, hel⟩ := slD h1
 obtain ⟨M, capm, ml, rfl, hm⟩ := sl22 h2
 exact ⟨D, capd, dl, E, cape, el, M, capm, ml, x3, x4, x5, rfl, hd, he, hm, hdl, hel, hdc⟩
end
end Go.Proofs.YtdimmlljjmmdbaaGreatDoor
namespace Go.Proofs.YtdimmlljjmmdbaaGreatDoor
open Go.RowKit
set_option maxHeartbeats 4000000
set_option maxRecDepth 20000
/-- equal pairs -/
def eqP (a b : Pr) : Bool := decide (a.s = b.s) && decide (a.r = b.r) && (a.h == b.h)
theorem eqP_eq {a b : Pr} (h : eqP a b = true) : a = b := by
 simp only [eqP, Bool.and_eq_true, decide_eq_true_eq, beq_iff_eq] at h
 cases a; cases b
 simp only [Pr.mk.injEq]
 exact ⟨h.1.1, h.1.2, h.2⟩
theorem eq148 (a b : Pr) (w : World) : (Op.equalIn 10000 148 (.agg #[.int .i64 a.s, .int .i64 a.r, .bool a.h]) (.agg #[.int .i64 b.s, .int .i64 b.r, .bool b.h])).run Tryz.prog w = .ok (eqP a b) w := by
 have u3 := Tryz.underlying3
 have a3 := Tryz.isAgg3
 have z3 := Tryz.sizeOf3
 have u4 := Tryz.underlying4
 have a4 := Tryz.isAgg4
 have z4 := Tryz.sizeOf4
 rw [show (10000 : Nat) = 9999 + 1 from rfl, run_equalIn_struct w 9999 148 _ _ (by unfold Program.fieldsOf; rw [Tryz.underlying148]) (by kernel_rfl)]
 unfold Program.fieldsOf
 rw [Tryz.underlying148]
 simp only [Op.eqFields]
 go_simp
 unfold eqP
 by_cases h0 : a.s = b.s <;> simp [h0]
 by_cases h1 : a.r = b.r <;> simp [h1]
 all_goals (by_cases h2 : a.h = b.h <;> simp [h2])
theorem c147 (a b : Pr) (gb : Nat) (w : World) (hg : w.heap[gb]? = some (.cells #[.int .i64 b.s, .int .i64 b.r, .bool b.h] 148 (0, 0))) :
  Calls Tryz.prog 147 #[.agg #[.int .i64 a.s, .int .i64 a.r, .bool a.h], .pointer (some ⟨gb, 0, none⟩)] w fun en w' => en = .returned (.bool (eqP a b)) ∧ Below w.heap.size w w' := by
 have q0 : w.cell? ⟨gb, 0, none⟩ = some (.int .i64 b.s) := cell_at hg rfl
 have q1 : w.cell? ⟨gb, 1, none⟩ = some (.int .i64 b.r) := cell_at hg rfl
 have q2 : w.cell? ⟨gb, 2, none⟩ = some (.bool b.h) := cell_at hg rfl
 have hgl : gb < w.heap.size := (Array.getElem?_eq_some_iff.1 hg).1
 have E := eq148 a b
 go_enter Tryz.func147, Tryz.ntmps147
 go_wp2
 go_ret
 exact ⟨rfl, (Below.refl _ _).alloc (Nat.le_refl _) _⟩
theorem c146 (A : Option Addr) (n cap : Nat) (l : List Pr) (p0 : Addr) (f : Pr → Bool) (w : World) (hl : n ≤ 1000000) (H : RdP w A n l)
  (hcl : ∀ (W : World) (x : Pr), x ∈ l → Below w.heap.size w W → Calls Tryz.prog 147 #[.agg #[.int .i64 x.s, .int .i64 x.r, .bool x.h], .pointer (some p0)] W fun e w' => e = .returned (.bool (f x)) ∧ Below W.heap.size W w') :
  Calls Tryz.prog 146 #[.slice A n cap, .func (.func 147) #[] #[.pointer (some p0)]] w fun en w' => ∃ r : Int, en = .returned (.int .i64 r) ∧ (r = -1 ∨ ∃ (j : Nat) (x : Pr), r = j ∧ j < n ∧ l[j]? = some x ∧ f x = true) ∧ Below w.heap.size w w' := by
 have Hcl := Lib.hid hcl
 clear hcl
 go_enter Tryz.func146, Tryz.ntmps146
 go_wp2
 go_loopw [8] (fun i wr => ∃ k : Nat, k ≤ n ∧ i = .int .i64 k ∧ Below w.heap.size w wr) (fun i _ => n - (intOf i).toNat)
 case atStart => exact ⟨0, Nat.zero_le _, rfl, Below.refl _ _⟩
 case round =>
  obtain ⟨k, hk, rfl, hB⟩ := hrel
  have hwk : IntKind.i64.wrap ((k : Int) + 1) = ((k + 1 : Nat) : Int) := by rw [wrapI (by omega)]; simp
  by_cases hlt : k < n
  ·obtain ⟨b, off, x, rfl, hx, hb, h0, h1, h2⟩ := (H.below hB).at hlt
   have Hx := Lib.hid hx
   clear hx
   have hkm2 : (k : Int) < (n : Int) := by omega
   have hk02 : (0 : Int) ≤ (k : Int) := by omega
   go_wp2_with fail
   refine (Hcl.out _ x (List.mem_of_getElem? Hx.out) hB).mono ?_
   rintro e w2 ⟨rfl, hb2⟩
   have hB2 := Lib.hid (fin0 hB hb2)
   clear hb2
   cases hf : f x
   ·go_wp2
    go_roundw
    case rel => exact ⟨k + 1, by omega, rfl, hB2.out⟩
    case measure => simp [intOf]; omega
   ·have HF := Lib.hid hf
    go_wp2
    go_ret
    exact ⟨k, rfl, .inr ⟨k, x, rfl, hlt, Hx.out, HF.out⟩, hB2.out⟩
  ·obtain rfl : n = k := by omega
   go_wp2
   go_ret
   exact ⟨-1, rfl, .inl rfl, hB⟩
theorem surv_ok {c r : Int} {l : List Int} {un len most : Int} {ps : List Pr} (h : Mo.surv c r l un len most ps = 0) :
  Mo.ground c r l = 0 ∧ (1 ≤ un ∧ un ≤ 1000) ∧ (1 ≤ len ∧ len ≤ 256) ∧ (0 ≤ most ∧ most ≤ 256) ∧ ps.length ≤ 16 ∧ ∀ p, p ∈ ps → (0 ≤ p.s ∧ p.s < l.length) ∧ (0 ≤ p.r ∧ p.r < l.length) := by
 unfold Mo.surv Mo.surv0 at h
 have h1 := Mo.first_zero h
 have h2 := Mo.first_zero (h1 _ List.mem_cons_self)
 have h3 := Mo.first_zero (h1 _ (List.mem_cons_of_mem _ List.mem_cons_self))
 have e1 := h2 _ List.mem_cons_self
 have e2 := Mo.range_ok.1 (h2 (Mo.range un 1 1000) (by simp))
 have e3 := Mo.range_ok.1 (h2 (Mo.range len 1 256) (by simp))
 have e4 := Mo.range_ok.1 (h2 (Mo.range most 0 256) (by simp))
 have e5 := (Mo.when_zero (by decide)).1 (h2 (Mo.when (decide (16 < (ps.length : Int))) 5) (by simp))
 refine ⟨e1, e2, e3, e4, by simp at e5; omega, fun p hp => ?_⟩
 have h4 := Mo.first_zero (h3 (Mo.pair l.length p) (List.mem_map.2 ⟨p, hp, rfl⟩))
 exact ⟨Mo.cell_ok.1 (h4 _ List.mem_cons_self), Mo.cell_ok.1 (h4 _ (List.mem_cons_of_mem _ List.mem_cons_self))⟩
theorem infoSl : (Tryz.prog.info? 22).map (fun i => (i.zero, i.size, i.bytes)) = some (some (.slice none 0 0), 1, 24) := by kernel_rfl
/-- the samples of the cells for a pair -/
noncomputable def dlp (c : Nat) (l : List Int) (un len most : Int) (p : Pr) : List Int := dlL c l un len most p.s.toNat p.r.toNat p.h
/-- a row of slices of the call's own -/
def OwnD (w : World) (B : Nat) (v : Value) (k : Nat) (vs : List Value) : Prop := w.ownsRow B 22 1 v k vs
theorem OwnD.below {w w' : World} {B : Nat} {v : Value} {n : Nat} {l : List Value} (h : OwnD w B v n l) (hb : Below w.heap.size w w') : OwnD w' B v n l := own_below h hb
theorem RowI.grown {w w' : World} {B B2 g cap n : Nat} {l : List Int} {x : Value} {k : Nat} {xs : List Value} (h : RowI w B g cap n l) (hown : w.ownsRow B2 22 1 x k xs) (hg : w.grownBy w' x.ownBlock) : RowI w' B g cap n l := by
 obtain ⟨cs, h1, h2⟩ := h
 refine ⟨cs, (hg.block g (Array.getElem?_eq_some_iff.1 h1).1 (fun e => ?_)).trans h1, h2⟩
 obtain ⟨hx, ⟨rfl, hn⟩ | ⟨g', cap', cur, rfl, hg', hh, _⟩⟩ := hown
 ·simp [Value.ownBlock] at e
 ·simp only [Value.ownBlock, Option.some.injEq] at e
  subst e
  rw [h1] at hh
  simp at hh
/-- rows of integers, one for each pair -/
def VD (w : World) (B n : Nat) (f : Pr → List Int) (ps : List Pr) (vs : List Value) (k : Nat) : Prop :=
 vs.length = k ∧ ∀ (j : Nat) (p : Pr), j < k → ps[j]? = some p → ∃ g cap, vs[j]? = some (.slice (some ⟨g, 0, none⟩) n cap) ∧ RowI w B g cap n (f p)
theorem VD.below {w w' : World} {B n : Nat} {f : Pr → List Int} {ps : List Pr} {vs : List Value} {k : Nat} (h : VD w B n f ps vs k) (hb : Below w.heap.size w w') : VD w' B n f ps vs k :=
 ⟨h.1, fun j p hj hp => by obtain ⟨g, cap, h1, h2⟩ := h.2 j p hj hp; exact ⟨g, cap, h1, h2.below hb⟩⟩
theorem VD.push {w w' : World} {B B2 n : Nat} {f : Pr → List Int} {ps : List Pr} {vs : List Value} {k g cap : Nat} {p : Pr} {x : Value} {xs : List Value} (h : VD w B n f ps vs k) (hown : w.ownsRow B2 22 1 x k xs) (hg : w.grownBy w' x.ownBlock) (hp : ps[k]? = some p) (hr : RowI w B g cap n (f p)) :
  VD w' B n f ps (vs ++ [.slice (some ⟨g, 0, none⟩) n cap]) (k + 1) := by
 refine ⟨by simp [h.1], fun j q hj hq => ?_⟩
 by_cases e : j = k
 ·subst e
  rw [hp] at hq
  cases hq
  exact ⟨g, cap, by rw [List.getElem?_append_right (by rw [h.1]; exact Nat.le_refl _), h.1]; simp, hr.grown hown hg⟩
 ·obtain ⟨g', cap', h1, h2⟩ := h.2 j q (by omega) hq
  exact ⟨g', cap', by rw [List.getElem?_append_left (by rw [h.1]; omega)]; exact h1, h2.grown hown hg⟩
theorem RdP.take {w : World} {A : Option Addr} {n : Nat} {l : List Pr} (h : RdP w A n l) {k : Nat} (hk : k ≤ n) : RdP w A k (l.take k) := by
 have hl := h.len
 have e : l.flatMap Pr.enc = (l.take k).flatMap Pr.enc ++ (l.drop k).flatMap Pr.enc := by rw [← List.flatMap_append, List.take_append_drop]
 refine ⟨by rw [flat_len Pr.len, List.length_take]; congr 1; omega, fun h0 => ?_⟩
 obtain ⟨b, off, rfl, hb, hc⟩ := h.2 (by omega)
 refine ⟨b, off, rfl, hb, fun j hj => ?_⟩
 rw [hc j (by rw [e, List.length_append]; omega), e, List.getElem?_append_left hj]
theorem RowI.len {w : World} {B g cap n : Nat} {l : List Int} (h : RowI w B g cap n l) : l.length = n := by obtain ⟨cs, _, _, _, _, h4, _⟩ := h; exact h4
/-- lists of integers in memory of the call's own, from block B on -/
def RdDB (w : World) (B : Nat) (A : Option Addr) (n : Nat) (d : List (List Int)) : Prop :=
 ∃ hs : List Value, RdS w 1 A n hs ∧ d.length = n ∧ (0 < n → ∀ b off, A = some ⟨b, off, none⟩ → B ≤ b) ∧ ∀ (k : Nat) (x : List Int), d[k]? = some x → ∃ g cap, hs[k]? = some (.slice (some ⟨g, 0, none⟩) x.length cap) ∧ B ≤ g ∧ g < w.heap.size ∧ RdI w (some ⟨g, 0, none⟩) x.length x
theorem RdDB.rd {w : World} {B : Nat} {A : Option Addr} {n : Nat} {d : List (List Int)} (h : RdDB w B A n d) : RdD w A n d := by
 obtain ⟨hs, h1, h2, h3, h4⟩ := h
 exact ⟨hs, h1, h2, fun k x hx => by obtain ⟨g, cap, e, _, _, hr⟩ := h4 k x hx; exact ⟨_, cap, e, hr⟩⟩
theorem RdDB.keep {w w' : World} {B : Nat} {A : Option Addr} {n : Nat} {d : List (List Int)} (h : RdDB w B A n d) (hs : w.heap.size ≤ w'.heap.size) (hk : ∀ b, B ≤ b → b < w.heap.size → w'.heap[b]? = w.heap[b]?) : RdDB w' B A n d := by
 obtain ⟨hv, ⟨h1, h1'⟩, h2, h3, h4⟩ := h
 have key : ∀ b o, B ≤ b → b < w.heap.size → w'.cell? ⟨b, o, none⟩ = w.cell? ⟨b, o, none⟩ := fun b o hb hl => World.cell?_of_block (a := ⟨b, o, none⟩) (hk b hb hl)
 refine ⟨hv, ⟨h1, fun h0 => ?_⟩, h2, h3, fun k x hx => ?_⟩
 ·obtain ⟨b, off, rfl, hb, hc⟩ := h1' h0
  exact ⟨b, off, rfl, Nat.lt_of_lt_of_le hb hs, fun j hj => (key b (off + j) (h3 h0 b off rfl) hb).trans (hc j hj)⟩
 ·obtain ⟨g, cap, e, hg, hgl, hr1, hr2⟩ := h4 k x hx
  refine ⟨g, cap, e, hg, Nat.lt_of_lt_of_le hgl hs, hr1, fun h0 => ?_⟩
  obtain ⟨b, off, he, hb, hc⟩ := hr2 h0
  cases he
  exact ⟨g, 0, rfl, Nat.lt_of_lt_of_le hgl hs, fun j hj => (key g (0 + j) hg hgl).trans (hc j hj)⟩
theorem RdDB.lowerB {w : World} {B B' : Nat} {A : Option Addr} {n : Nat} {d : List (List Int)} (h : RdDB w B A n d) (hb : B' ≤ B) : RdDB w B' A n d := by
 obtain ⟨hs, h1, h2, h3, h4⟩ := h
 exact ⟨hs, h1, h2, fun h0 b off he => Nat.le_trans hb (h3 h0 b off he), fun k x hx => by obtain ⟨g, cap, e, h5, h6⟩ := h4 k x hx; exact ⟨g, cap, e, Nat.le_trans hb h5, h6⟩⟩
theorem RdDB.at {w : World} {B : Nat} {A : Option Addr} {n : Nat} {d : List (List Int)} (h : RdDB w B A n d) {k : Nat} (hk : k < n) :
  ∃ b off x g cap, A = some ⟨b, off, none⟩ ∧ d[k]? = some x ∧ (b < w.heap.size ∧ B ≤ b) ∧ (g < w.heap.size ∧ B ≤ g) ∧ w.cell? ⟨b, off + k, none⟩ = some (.slice (some ⟨g, 0, none⟩) x.length cap) ∧ RdI w (some ⟨g, 0, none⟩) x.length x := by
 obtain ⟨hs, h1, h2, h4, h3⟩ := h
 obtain ⟨b, off, hA, hb, hc⟩ := RdS.at h1 hk
 have hx : k < d.length := by omega
 obtain ⟨g, cap, e, hgB, hg, hr⟩ := h3 k d[k] (List.getElem?_eq_getElem hx)
 have h0 := hc 0 (by omega)
 rw [Nat.mul_one, Nat.add_zero, e] at h0
 exact ⟨b, off, d[k], g, cap, hA, List.getElem?_eq_getElem hx, ⟨hb, h4 (by omega) b off hA⟩, ⟨hg, hgB⟩, h0, hr⟩
/-- one block written, else new memory -/
theorem gb_below {W w : World} {go B : Nat} (h : W.grownBy w (some go)) (h1 : B ≤ W.heap.size) (h2 : B ≤ go) : Below B W w := (Below.refl B W).grown h h1 (fun j hj => by cases hj; exact h2)
theorem gb_call {W w w' : World} {go : Nat} (h : W.grownBy w (some go)) (hb : Below W.heap.size w w') : W.grownBy w' (some go) :=
 ⟨hb.os.trans h.os, hb.tape.trans h.tape, hb.output.trans h.output, Nat.le_trans h.size hb.size, fun k hk hne => (hb.block k hk).trans (h.block k hk hne)⟩
theorem gb_set {W w : World} {go k : Nat} {v : Value} (h : W.grownBy w (some go)) : W.grownBy (w.setCell ⟨go, k, none⟩ v) (some go) :=
 ⟨((Below.refl 0 w).setCell (p := ⟨go, k, none⟩) (Nat.zero_le _) v).os.trans h.os, ((Below.refl 0 w).setCell (p := ⟨go, k, none⟩) (Nat.zero_le _) v).tape.trans h.tape, ((Below.refl 0 w).setCell (p := ⟨go, k, none⟩) (Nat.zero_le _) v).output.trans h.output, (by simpa using h.size), fun j hj hne => (set_far (p := ⟨go, k, none⟩) v (fun e => hne (by rw [e]))).trans (h.block j hj hne)⟩
theorem RdI.gb {w w' : World} {g n go : Nat} {l : List Int} (h : RdI w (some ⟨g, 0, none⟩) n l) (hg : w.grownBy w' (some go)) (hne : g ≠ go) : RdI w' (some ⟨g, 0, none⟩) n l := by
 refine ⟨h.1, fun h0 => ?_⟩
 obtain ⟨b, off, he, hb, hc⟩ := h.2 h0
 cases he
 exact ⟨g, 0, rfl, Nat.lt_of_lt_of_le hb hg.size, fun j hj => (World.cell?_of_block (a := ⟨g, 0 + j, none⟩) (hg.block g hb (fun e => hne (Option.some.inj e)))).trans (hc j hj)⟩
theorem VD.rdB {w : World} {B n : Nat} {f : Pr → List Int} {ps : List Pr} {vs : List Value} {x : Value} (h : VD w B n f ps vs ps.length) (hown : OwnD w B x ps.length vs) : ∃ A cap, x = .slice A ps.length cap ∧ RdDB w B A ps.length (ps.map f) := by
 obtain ⟨A, cap, rfl, hr⟩ := Sl.of_own hown
 refine ⟨A, cap, rfl, vs, hr, by simp, fun h0 b off he => ?_, fun k x hx => ?_⟩
 ·obtain ⟨_, ⟨h1, h2⟩ | ⟨g', cap', cur, e, hg', _⟩⟩ := hown
  ·omega
  ·cases e; cases he; exact hg'
 rw [List.getElem?_map] at hx
 cases hp : ps[k]? with
 | none => rw [hp] at hx; cases hx
 | some p =>
  rw [hp] at hx
  have hxe : f p = x := by simpa using hx
  have hk : k < ps.length := by
   by_cases h : k < ps.length
   ·exact h
   ·rw [List.getElem?_eq_none (by omega)] at hp; cases hp
  obtain ⟨g, cap, h1, h2⟩ := h.2 k p hk hp
  rw [hxe] at h2
  have hl := h2.len
  obtain ⟨cs, c1, _, _, _, _, _, c7⟩ := h2
  rw [hl]
  have h2 : RowI w B g cap n x := by
   obtain ⟨g2, cap2, h1', h2'⟩ := h.2 k p hk hp
   rw [h1] at h1'
   cases h1'
   rw [hxe] at h2'
   exact h2'
  exact ⟨g, cap, h1, c7, (Array.getElem?_eq_some_iff.1 c1).1, h2.rd⟩
theorem c108 (c r : Nat) (A : Option Addr) (n cap : Nat) (l : List Int) (un len most : Int) (P : Option Addr) (np capp : Nat) (ps : List Pr) (w : World) (g : Im.Gr c r l) (hc : c ≤ 16) (hr : r ≤ 16) (hu : 1 ≤ un ∧ un ≤ 1000) (hnp : np ≤ 16) (hcp : np ≤ capp) (hcells : ∀ p, p ∈ ps → (0 ≤ p.s ∧ p.s < (n : Int)) ∧ (0 ≤ p.r ∧ p.r < (n : Int))) (H : RdI w A n l) (HP : RdP w P np ps) (hst : Steps w) :
  Calls Tryz.prog 108 #[.agg #[.int .i64 c, .int .i64 r, .slice A n cap], .agg #[.int .i64 un, .int .i64 len, .int .i64 most, .slice P np capp]] w fun en w' => ∃ A' cap', en = .returned (.slice A' np cap') ∧ RdDB w' w.heap.size A' np (ps.map (dlp c l un len most)) ∧ Below w.heap.size w w' := by
 have HPL := Lib.hid HP.len
 have HLN := Lib.hid H.len
 have HCE := Lib.hid hcells
 clear hcells
 have hn0 : 0 < n := by
  have h1 := g.c1; have h2 := g.r1; have h3 := g.len
  have : 1 * 1 ≤ c * r := Nat.mul_le_mul h1 h2
  rw [← HLN.out]; omega
 obtain ⟨i0, hi, hz0, hz1, hz2⟩ := info_parts infoSl
 obtain ⟨w0, hW⟩ : ∃ W, W = (w.alloc (Obj.cells #[.int .i64 c, .int .i64 r, .slice A n cap] 35)).alloc (Obj.cells #[.int .i64 un, .int .i64 len, .int .i64 most, .slice P np capp] 39) := ⟨_, rfl⟩
 have hT0 : w0.heap[w.heap.size]? = some (.cells #[.int .i64 c, .int .i64 r, .slice A n cap] 35 (0, 0)) := by rw [hW]; exact heap_old (by simp <;> omega) (heap_new (by simp))
 have hT1 : w0.heap[w.heap.size + 1]? = some (.cells #[.int .i64 un, .int .i64 len, .int .i64 most, .slice P np capp] 39 (0, 0)) := by rw [hW]; exact heap_new (by simp)
 have hB0 : Below w.heap.size w w0 := by rw [hW]; exact (((Below.refl _ _).alloc (by first | omega | (simp <;> omega)) _).alloc (by first | omega | (simp <;> omega)) _)
 replace H := H.below hB0
 replace HP := HP.below hB0
 replace hst := hst.below hB0
 go_enter Tryz.func108, Tryz.ntmps108
 go_wp2_with fail
 rw [← hW]
 clear hW
 have qhT0_0 : w0.cell? ⟨w.heap.size, 0, none⟩ = some (.int .i64 c) := cell_at hT0 rfl
 have qhT0_1 : w0.cell? ⟨w.heap.size, 1, none⟩ = some (.int .i64 r) := cell_at hT0 rfl
 have qhT0_2 : w0.cell? ⟨w.heap.size, 2, none⟩ = some (.slice A n cap) := cell_at hT0 rfl
 have qhT1_0 : w0.cell? ⟨w.heap.size + 1, 0, none⟩ = some (.int .i64 un) := cell_at hT1 rfl
 have qhT1_1 : w0.cell? ⟨w.heap.size + 1, 1, none⟩ = some (.int .i64 len) := cell_at hT1 rfl
 have qhT1_2 : w0.cell? ⟨w.heap.size + 1, 2, none⟩ = some (.int .i64 most) := cell_at hT1 rfl
 have qhT1_3 : w0.cell? ⟨w.heap.size + 1, 3, none⟩ = some (.slice P np capp) := cell_at hT1 rfl
 have HSW : Hid (w.heap.size ≤ w0.heap.size) := Lib.hid hB0.size
 go_wp2_with fail
 have hst0 : Hid (VD w0 w0.heap.size n (dlp c l un len most) ps [] 0) := Lib.hid ⟨rfl, fun j _ h => absurd h (Nat.not_lt_zero j)⟩
 go_loopw [5, 12] (fun x i wr => ∃ (k : Nat) (vs : List Value), k ≤ np ∧ i = .int .i64 k ∧ OwnD wr w0.heap.size x k vs ∧ Hid (VD wr w0.heap.size n (dlp c l un len most) ps vs k) ∧ Below w0.heap.size w0 wr) (fun _ i _ => np - (intOf i).toNat)
 case atStart => exact ⟨0, [], Nat.zero_le _, rfl, World.ownsRow_nil _ _ _ _, hst0, Below.refl _ _⟩
 case round =>
  clear hst0
  obtain ⟨k, vs, hk, rfl, hown, HVD, hbr⟩ := hrel
  have hvd := HVD.out
  clear HVD
  obtain ⟨w1, hww⟩ : ∃ W, W = wr := ⟨_, rfl⟩
  subst hww
  have hB1 := hB0.call hbr rfl
  replace hT0 := blkb hT0 hbr
  replace hT1 := blkb hT1 hbr
  replace H := H.below hbr
  replace HP := HP.below hbr
  replace hst := hst.below hbr
  clear hB0
  have qhT0_0 : w1.cell? ⟨w.heap.size, 0, none⟩ = some (.int .i64 c) := cell_at hT0 rfl
  have qhT0_1 : w1.cell? ⟨w.heap.size, 1, none⟩ = some (.int .i64 r) := cell_at hT0 rfl
  have qhT0_2 : w1.cell? ⟨w.heap.size, 2, none⟩ = some (.slice A n cap) := cell_at hT0 rfl
  have qhT1_0 : w1.cell? ⟨w.heap.size + 1, 0, none⟩ = some (.int .i64 un) := cell_at hT1 rfl
  have qhT1_1 : w1.cell? ⟨w.heap.size + 1, 1, none⟩ = some (.int .i64 len) := cell_at hT1 rfl
  have qhT1_2 : w1.cell? ⟨w.heap.size + 1, 2, none⟩ = some (.int .i64 most) := cell_at hT1 rfl
  have qhT1_3 : w1.cell? ⟨w.heap.size + 1, 3, none⟩ = some (.slice P np capp) := cell_at hT1 rfl
  have hwk : IntKind.i64.wrap ((k : Int) + 1) = ((k + 1 : Nat) : Int) := by rw [wrapI (by omega)]; simp
  by_cases hlt : k < np
  rotate_left
  ·
    obtain rfl : np = k := by omega
    obtain ⟨A', cap', rfl, HF⟩ : ∃ A' cap', u5 = .slice A' np cap' ∧ Hid (RdDB w1 w.heap.size A' np (ps.map (dlp c l un len most))) := by
     have e := HPL.out
     subst e
     obtain ⟨A', cap', h1, h2⟩ := hvd.rdB hown
     exact ⟨A', cap', h1, Lib.hid (h2.lowerB HSW.out)⟩
    go_wp2
    go_ret
    exact ⟨A', cap', rfl, HF.out, hB1⟩
  have hkm2 : (k : Int) < (np : Int) := by omega
  have hk02 : (0 : Int) ≤ (k : Int) := by omega
  have hkc : (k : Int) ≤ (capp : Int) := by omega
  obtain ⟨pb, poff, p, rfl, hpx, hpb, hp0, hp1, hp2⟩ := HP.at hlt
  have hpc := HCE.out p (List.mem_of_getElem? hpx)
  obtain ⟨p0, p1, ph⟩ := p
  dsimp only at hpc hp0 hp1 hp2
  obtain ⟨a, rfl⟩ : ∃ a : Nat, p0 = a := ⟨p0.toNat, by omega⟩
  obtain ⟨b, rfl⟩ : ∃ b : Nat, p1 = b := ⟨p1.toNat, by omega⟩
  have han : a < n := by omega
  have hbn : b < n := by omega
  have HPX := Lib.hid hpx
  clear hpx hpc
  obtain ⟨A5, cap5, rfl, hrd5⟩ := Sl.of_own hown
  have z0 : w.heap.size < w1.heap.size := (Array.getElem?_eq_some_iff.1 hT0).1
  have z1 : w.heap.size + 1 < w1.heap.size := (Array.getElem?_eq_some_iff.1 hT1).1
  go_wp2_with fail
  obtain ⟨w2, hwn⟩ : ∃ V, V = w1.alloc (Obj.cells #[.int .i64 a, .int .i64 b, .bool ph] 148) := ⟨_, rfl⟩
  have hbn0 : Below w1.heap.size w1 w2 := by rw [hwn]; exact (Below.refl _ _).alloc (Nat.le_refl _) _
  obtain ⟨bkp, hbkp⟩ : ∃ b, b = w1.heap.size := ⟨_, rfl⟩
  have kp : w2.heap[bkp]? = some (.cells #[.int .i64 a, .int .i64 b, .bool ph] 148 (0, 0)) := by rw [hwn]; exact heap_new hbkp
  rw [← hbkp, ← hwn]
  clear hwn hbkp hp0 hp1 hp2 z0 z1
  clear qhT0_0 qhT0_1 qhT0_2 qhT1_0 qhT1_1 qhT1_2 qhT1_3
  have hS := hbn0
  have hB2 := hB1.call hS rfl
  replace hT0 := blkb hT0 hS
  replace hT1 := blkb hT1 hS
  replace H := H.below hS
  replace HP := HP.below hS
  replace hst := hst.below hS
  replace hbr := hbr.call hS rfl
  replace hown := hown.below hS
  replace hvd := hvd.below hS
  replace hrd5 := hrd5.below hS
  clear hS hB1
  have qhT0_0 : w2.cell? ⟨w.heap.size, 0, none⟩ = some (.int .i64 c) := cell_at hT0 rfl
  have qhT0_1 : w2.cell? ⟨w.heap.size, 1, none⟩ = some (.int .i64 r) := cell_at hT0 rfl
  have qhT0_2 : w2.cell? ⟨w.heap.size, 2, none⟩ = some (.slice A n cap) := cell_at hT0 rfl
  have qhT1_0 : w2.cell? ⟨w.heap.size + 1, 0, none⟩ = some (.int .i64 un) := cell_at hT1 rfl
  have qhT1_1 : w2.cell? ⟨w.heap.size + 1, 1, none⟩ = some (.int .i64 len) := cell_at hT1 rfl
  have qhT1_2 : w2.cell? ⟨w.heap.size + 1, 2, none⟩ = some (.int .i64 most) := cell_at hT1 rfl
  have qhT1_3 : w2.cell? ⟨w.heap.size + 1, 3, none⟩ = some (.slice (some ⟨pb, poff, none⟩) np capp) := cell_at hT1 rfl
  clear hbn0
  have qkp_0 : w2.cell? ⟨bkp, 0, none⟩ = some (.int .i64 a) := cell_at kp rfl
  have qkp_1 : w2.cell? ⟨bkp, 1, none⟩ = some (.int .i64 b) := cell_at kp rfl
  have qkp_2 : w2.cell? ⟨bkp, 2, none⟩ = some (.bool ph) := cell_at kp rfl
  go_wp2_with fail
  refine (c146 (some ⟨pb, poff, none⟩) k capp (ps.take k) ⟨bkp, 0, none⟩ (fun o => eqP o ⟨a, b, ph⟩) _ (by omega) (RdP.take HP (by omega)) (fun W x _ hW => c147 x ⟨a, b, ph⟩ bkp W (blkb kp hW))).mono ?_
  rintro e w3 ⟨ri, rfl, hri, hb⟩
  clear qhT0_0 qhT0_1 qhT0_2 qhT1_0 qhT1_1 qhT1_2 qhT1_3 qkp_0 qkp_1 qkp_2
  have hS := hb
  have hB3 := hB2.call hS rfl
  replace hT0 := blkb hT0 hS
  replace hT1 := blkb hT1 hS
  replace H := H.below hS
  replace HP := HP.below hS
  replace hst := hst.below hS
  replace hbr := hbr.call hS rfl
  replace hown := hown.below hS
  replace hvd := hvd.below hS
  replace hrd5 := hrd5.below hS
  replace kp := blkb kp hS
  clear hS hB2
  have qhT0_0 : w3.cell? ⟨w.heap.size, 0, none⟩ = some (.int .i64 c) := cell_at hT0 rfl
  have qhT0_1 : w3.cell? ⟨w.heap.size, 1, none⟩ = some (.int .i64 r) := cell_at hT0 rfl
  have qhT0_2 : w3.cell? ⟨w.heap.size, 2, none⟩ = some (.slice A n cap) := cell_at hT0 rfl
  have qhT1_0 : w3.cell? ⟨w.heap.size + 1, 0, none⟩ = some (.int .i64 un) := cell_at hT1 rfl
  have qhT1_1 : w3.cell? ⟨w.heap.size + 1, 1, none⟩ = some (.int .i64 len) := cell_at hT1 rfl
  have qhT1_2 : w3.cell? ⟨w.heap.size + 1, 2, none⟩ = some (.int .i64 most) := cell_at hT1 rfl
  have qhT1_3 : w3.cell? ⟨w.heap.size + 1, 3, none⟩ = some (.slice (some ⟨pb, poff, none⟩) np capp) := cell_at hT1 rfl
  have qkp_0 : w3.cell? ⟨bkp, 0, none⟩ = some (.int .i64 a) := cell_at kp rfl
  have qkp_1 : w3.cell? ⟨bkp, 1, none⟩ = some (.int .i64 b) := cell_at kp rfl
  have qkp_2 : w3.cell? ⟨bkp, 2, none⟩ = some (.bool ph) := cell_at kp rfl
  clear hb
  rcases hri with rfl | ⟨j, xj, rfl, hjk, hxj, hf⟩
  ·
    have hszq : w0.heap.size ≤ w3.heap.size := hbr.size
    go_wp2_with fail
    go_wp2_with fail
    refine (c99 c r A n cap l un len most (some ⟨pb, poff, none⟩) np capp a b ph _ g hc hr hu han hbn H hst).mono ?_
    rintro e w4 ⟨vd, rfl, hownd, hb⟩
    clear qhT0_0 qhT0_1 qhT0_2 qhT1_0 qhT1_1 qhT1_2 qhT1_3 qkp_0 qkp_1 qkp_2
    have hS := hb
    have hB4 := hB3.call hS rfl
    replace hT0 := blkb hT0 hS
    replace hT1 := blkb hT1 hS
    replace H := H.below hS
    replace HP := HP.below hS
    replace hst := hst.below hS
    replace hbr := hbr.call hS rfl
    replace hown := hown.below hS
    replace hvd := hvd.below hS
    replace hrd5 := hrd5.below hS
    replace kp := blkb kp hS
    clear hS hB3
    have qhT0_0 : w4.cell? ⟨w.heap.size, 0, none⟩ = some (.int .i64 c) := cell_at hT0 rfl
    have qhT0_1 : w4.cell? ⟨w.heap.size, 1, none⟩ = some (.int .i64 r) := cell_at hT0 rfl
    have qhT0_2 : w4.cell? ⟨w.heap.size, 2, none⟩ = some (.slice A n cap) := cell_at hT0 rfl
    have qhT1_0 : w4.cell? ⟨w.heap.size + 1, 0, none⟩ = some (.int .i64 un) := cell_at hT1 rfl
    have qhT1_1 : w4.cell? ⟨w.heap.size + 1, 1, none⟩ = some (.int .i64 len) := cell_at hT1 rfl
    have qhT1_2 : w4.cell? ⟨w.heap.size + 1, 2, none⟩ = some (.int .i64 most) := cell_at hT1 rfl
    have qhT1_3 : w4.cell? ⟨w.heap.size + 1, 3, none⟩ = some (.slice (some ⟨pb, poff, none⟩) np capp) := cell_at hT1 rfl
    have qkp_0 : w4.cell? ⟨bkp, 0, none⟩ = some (.int .i64 a) := cell_at kp rfl
    have qkp_1 : w4.cell? ⟨bkp, 1, none⟩ = some (.int .i64 b) := cell_at kp rfl
    have qkp_2 : w4.cell? ⟨bkp, 2, none⟩ = some (.bool ph) := cell_at kp rfl
    clear hb
    obtain ⟨gd, cd, rfl, hrowd⟩ := RowI.of_own hn0 hownd
    clear hownd
    have hrow : RowI w4 w0.heap.size gd cd n (dlp c l un len most ⟨a, b, ph⟩) := hrowd.lower hszq
    have hszn : w0.heap.size ≤ w4.heap.size := hbr.size
    have HBN : Hid (Below w0.heap.size w0 w4) := Lib.hid hbr
    have HVD := Lib.hid hvd
    have HROW := Lib.hid hrow
    have hown' : w4.ownsRow w0.heap.size 22 1 (.slice A5 k cap5) k vs := hown
    have HOWN := Lib.hid hown'
    clear hrow hvd
    go_wp2_with (at_builtin; refine wpList_append_own _ rfl _ _ 31 rfl w0.heap.size 22 i0 (.slice none 0 0) 1 24 Tryz.underlying31 hi hz0 hz1 hz2 rfl (by decide) _ _ _ rfl (hown'.alloc _) ⟨w4.heap.size, 0, none⟩ 1 1 [.slice (some ⟨gd, 0, none⟩) n cd] rfl rfl ?c1 ?c2 ?c3 ?c4 ?c5 ?_)
    case c1 => exact news_one _ _ rfl
    case c2 => intro x hx; simp at hx; subst hx; rfl
    case c3 => unfold maxLen; omega
    case c4 => omega
    case c5 => simp; omega
    intro x' wz hown3 hg3 _
    have hal : Below w4.heap.size w4 (w4.alloc (Obj.cells #[.slice (some ⟨gd, 0, none⟩) n cd] 22)) := (Below.refl _ _).alloc (Nat.le_refl _) _
    have HB3 : Hid (Below w0.heap.size w0 wz) := Lib.hid ((HBN.out.alloc hszn _).grown hg3 (by simp; omega) (fun g hg => (hown'.lt g hg).1))
    have HVD3 : Hid (VD wz w0.heap.size n (dlp c l un len most) ps (vs ++ [.slice (some ⟨gd, 0, none⟩) n cd]) (k + 1)) := Lib.hid ((HVD.out.below hal).push (hown'.alloc _) hg3 HPX.out (HROW.out.below hal))
    have HO : Hid (OwnD wz w0.heap.size x' (k + 1) (vs ++ [.slice (some ⟨gd, 0, none⟩) n cd])) := Lib.hid hown3
    clear hown3 hg3 hal hown' hown hszn hbr
    go_wp2
    go_roundw
    case rel => exact ⟨k + 1, vs ++ [.slice (some ⟨gd, 0, none⟩) n cd], by omega, by go_num, HO.out, HVD3, HB3.out⟩
    case measure => simp [intOf]; omega
  ·
    have hjps : ps[j]? = some xj := by rw [List.getElem?_take, if_pos hjk] at hxj; exact hxj
    have hxe := eqP_eq hf
    obtain ⟨gd, cd, hvj, hrowd⟩ := hvd.2 j xj hjk hjps
    subst hxe
    obtain ⟨gx, ox, hA5, hgx, hcx⟩ := RdS.at hrd5 hjk
    subst hA5
    have hcj := hcx 0 (by omega)
    rw [Nat.mul_one, Nat.add_zero, hvj] at hcj
    have hjd : decide ((0 : Int) ≤ (j : Int)) = true := by simp
    have hj0 : (0 : Int) ≤ (j : Int) := by omega
    have hjk2 : (j : Int) < (k : Int) := by omega
    have hszq : True := trivial
    clear hcx hxj hf hvj hjps
    have hrow : RowI w3 w0.heap.size gd cd n (dlp c l un len most ⟨a, b, ph⟩) := hrowd
    have hszn : w0.heap.size ≤ w3.heap.size := hbr.size
    have HBN : Hid (Below w0.heap.size w0 w3) := Lib.hid hbr
    have HVD := Lib.hid hvd
    have HROW := Lib.hid hrow
    have hown' : w3.ownsRow w0.heap.size 22 1 (.slice (some ⟨gx, ox, none⟩) k cap5) k vs := hown
    have HOWN := Lib.hid hown'
    clear hrow hvd
    go_wp2_with (at_builtin; refine wpList_append_own _ rfl _ _ 31 rfl w0.heap.size 22 i0 (.slice none 0 0) 1 24 Tryz.underlying31 hi hz0 hz1 hz2 rfl (by decide) _ _ _ rfl (hown'.alloc _) ⟨w3.heap.size, 0, none⟩ 1 1 [.slice (some ⟨gd, 0, none⟩) n cd] rfl rfl ?c1 ?c2 ?c3 ?c4 ?c5 ?_)
    case c1 => exact news_one _ _ rfl
    case c2 => intro x hx; simp at hx; subst hx; rfl
    case c3 => unfold maxLen; omega
    case c4 => omega
    case c5 => simp; omega
    intro x' wz hown3 hg3 _
    have hal : Below w3.heap.size w3 (w3.alloc (Obj.cells #[.slice (some ⟨gd, 0, none⟩) n cd] 22)) := (Below.refl _ _).alloc (Nat.le_refl _) _
    have HB3 : Hid (Below w0.heap.size w0 wz) := Lib.hid ((HBN.out.alloc hszn _).grown hg3 (by simp; omega) (fun g hg => (hown'.lt g hg).1))
    have HVD3 : Hid (VD wz w0.heap.size n (dlp c l un len most) ps (vs ++ [.slice (some ⟨gd, 0, none⟩) n cd]) (k + 1)) := Lib.hid ((HVD.out.below hal).push (hown'.alloc _) hg3 HPX.out (HROW.out.below hal))
    have HO : Hid (OwnD wz w0.heap.size x' (k + 1) (vs ++ [.slice (some ⟨gd, 0, none⟩) n cd])) := Lib.hid hown3
    clear hown3 hg3 hal hown' hown hszn hbr
    go_wp2
    go_roundw
    case rel => exact ⟨k + 1, vs ++ [.slice (some ⟨gd, 0, none⟩) n cd], by omega, by go_num, HO.out, HVD3, HB3.out⟩
    case measure => simp [intOf]; omega
end Go.Proofs.YtdimmlljjmmdbaaGreatDoor
/- Plain laws of chapter 07: traces and images on their way. -/
namespace Im
def trk (len : Nat) (ds ms : List Int) (j : Nat) : List Int := ((List.zip ds ms).take j).foldl (fun tr x => addAt tr x.1 x.2) (List.replicate len 0)
theorem trk_zero (len : Nat) (ds ms : List Int) : trk len ds ms 0 = List.replicate len 0 := rfl
theorem trk_full {len : Nat} {ds ms : List Int} {j : Nat} (h1 : ds.length = j) (h2 : ms.length = j) : trk len ds ms j = trace len ds ms := by
 unfold trk trace
 rw [List.take_of_length_le (by simp; omega)]
theorem trk_succ {len : Nat} {ds ms : List Int} {j : Nat} (h1 : j < ds.length) (h2 : j < ms.length) : trk len ds ms (j + 1) = addAt (trk len ds ms j) (at0 ds j) (at0 ms j) := by
 unfold trk
 have h3 : j < (List.zip ds ms).length := by simp; omega
 rw [List.take_succ_eq_append_getElem h3, List.foldl_append]
 simp [at0, List.getD_eq_getElem?_getD, h1, h2]
theorem trk_len (len : Nat) (ds ms : List Int) (j : Nat) : (trk len ds ms j).length = len := by unfold trk; rw [trace_fold_len]; simp
theorem addAt_le {tr : List Int} {d m B C : Int} (hm : -B ≤ m ∧ m ≤ B) (h : ∀ i, -C ≤ at0 tr i ∧ at0 tr i ≤ C) (hB : 0 ≤ B) : ∀ i, -(C + B) ≤ at0 (addAt tr d m) i ∧ at0 (addAt tr d m) i ≤ C + B := by
 intro i
 unfold addAt
 split
 ·by_cases hd : d.toNat < tr.length
  ·rw [at0_setk hd]
   split
   ·have := h d.toNat; omega
   ·have := h i; omega
  ·rw [List.set_eq_of_length_le (by omega)]
   have := h i; omega
 ·have := h i; omega
theorem trk_le {len : Nat} {ds ms : List Int} {B : Int} (hB : 0 ≤ B) (hm : ∀ k, k < ms.length → -B ≤ at0 ms k ∧ at0 ms k ≤ B) (hl : ds.length = ms.length) : ∀ (j : Nat), j ≤ ds.length → ∀ i, -((j : Int) * B) ≤ at0 (trk len ds ms j) i ∧ at0 (trk len ds ms j) i ≤ (j : Int) * B := by
 intro j
 induction j with
 | zero => intro _ i; rw [trk_zero, zeros_at]; simp
 | succ j ih =>
  intro hj i
  rw [trk_succ (by omega) (by omega)]
  have h1 := addAt_le (d := at0 ds j) (hm j (by omega)) (ih (by omega)) hB i
  have e : ((j + 1 : Nat) : Int) * B = (j : Int) * B + B := by rw [Int.natCast_add, Int.add_mul]; simp
  rw [e]; exact h1
/-- a list, the first k places filled -/
def upto (T : List (List Int)) (k : Nat) : List (List Int) := (List.range T.length).map fun j => if j < k then T.getD j [] else []
theorem upto_len (T : List (List Int)) (k : Nat) : (upto T k).length = T.length := by simp [upto]
theorem upto_zero (T : List (List Int)) : upto T 0 = List.replicate T.length [] := by
 apply List.ext_getElem (by simp [upto])
 intro i h1 h2
 simp [upto]
theorem upto_full (T : List (List Int)) : upto T T.length = T := by
 apply List.ext_getElem (by simp [upto])
 intro i h1 h2
 simp [upto, h2, List.getD_eq_getElem?_getD]
theorem upto_set {T : List (List Int)} {k : Nat} {x : List Int} (hx : T[k]? = some x) : (upto T k).set k x = upto T (k + 1) := by
 apply List.ext_getElem (by simp [upto])
 intro i h1 h2
 have hi : i < T.length := by simpa [upto] using h2
 by_cases h3 : k = i
 ·subst h3
  simp [upto, List.getD_eq_getElem?_getD, hx]
 ·rw [List.getElem_set_ne h3]
  simp only [upto, List.getElem_map, List.getElem_range]
  by_cases h4 : i < k
  ·rw [if_pos h4, if_pos (by omega)]
  ·rw [if_neg h4, if_neg (by omega)]
theorem upto_nil {T : List (List Int)} {k : Nat} (hx : T[k]? = some []) : upto T (k + 1) = upto T k := by
 apply List.ext_getElem (by simp [upto])
 intro i h1 h2
 simp only [upto, List.getElem_map, List.getElem_range]
 by_cases h3 : i = k
 ·subst h3
  rw [if_pos (by omega), if_neg (by omega)]
  simp [List.getD_eq_getElem?_getD, hx]
 ·by_cases h4 : i < k
  ·rw [if_pos h4, if_pos (by omega)]
  ·rw [if_neg h4, if_neg (by omega)]
/-- a list on its way to another one -/
def mix (a b : List Int) (j : Nat) : List Int := (List.range a.length).map fun i => if i < j then at0 b i else at0 a i
theorem mix_len (a b : List Int) (j : Nat) : (mix a b j).length = a.length := by simp [mix]
theorem mix_get {a b : List Int} {j i : Nat} (h : i < a.length) : at0 (mix a b j) i = if i < j then at0 b i else at0 a i := at0_map_range _ _ _ h
theorem mix_zero (a b : List Int) : mix a b 0 = a := ext_at (mix_len _ _ _) fun i hi => by
 rw [mix_len] at hi
 rw [mix_get hi, if_neg (Nat.not_lt_zero i)]
theorem mix_full {a b : List Int} (h : b.length = a.length) : mix a b a.length = b := ext_at (by rw [mix_len, h]) fun i hi => by
 rw [mix_len] at hi
 rw [mix_get hi, if_pos hi]
theorem mix_keep {a b : List Int} {j : Nat} (h : at0 b j = at0 a j) : mix a b (j + 1) = mix a b j := ext_at (by simp [mix_len]) fun i hi => by
 rw [mix_len] at hi
 rw [mix_get hi, mix_get hi]
 by_cases e : i = j
 ·subst e
  rw [if_pos (by omega), if_neg (by omega), h]
 ·by_cases h4 : i < j
  ·rw [if_pos h4, if_pos (by omega)]
  ·rw [if_neg h4, if_neg (by omega)]
theorem mix_set {a b : List Int} {j : Nat} (hj : j < a.length) : (mix a b j).set j (at0 b j) = mix a b (j + 1) := ext_at (by simp [mix_len]) fun i hi => by
 have hi : i < a.length := by simpa [mix_len] using hi
 rw [at0_setk (by rw [mix_len]; exact hj), mix_get hi, mix_get hi]
 by_cases e : i = j
 ·subst e
  rw [if_pos rfl, if_pos (by omega)]
 ·rw [if_neg e]
  by_cases h4 : i < j
  ·rw [if_pos h4, if_pos (by omega)]
  ·rw [if_neg h4, if_neg (by omega)]
theorem dly_lt {c : Nat} {l ns : List Int} {len most : Int} {hole : Bool} {i : Nat} (h : 0 ≤ dly c l ns len most hole i) : dly c l ns len most hole i < len := by
 unfold dly at h ⊢
 split
 ·rename_i hh; rw [if_pos hh] at h; omega
 ·rename_i hh
  simp only [Bool.or_eq_true, decide_eq_true_eq, not_or] at hh
  omega
theorem dly_hole (c : Nat) (l ns : List Int) (len most : Int) (i : Nat) : dly c l ns len most true i = -1 := by simp [dly]
end Im
namespace Go.Proofs.YtdimmlljjmmdbaaGreatDoor
open Go.RowKit
set_option maxHeartbeats 4000000
set_option maxRecDepth 20000
/-- a slice of the call's own, or none -/
def RwM (w : World) (B : Nat) (v : Value) (x : List Int) : Prop := (v = .slice none 0 0 ∧ x = []) ∨ ∃ g cp, v = .slice (some ⟨g, 0, none⟩) x.length cp ∧ RowI w B g cp x.length x
theorem RwM.below {w w' : World} {B : Nat} {v : Value} {x : List Int} (h : RwM w B v x) (hb : Below w.heap.size w w') : RwM w' B v x := by
 rcases h with h | ⟨g, cp, h1, h2⟩
 ·exact .inl h
 ·exact .inr ⟨g, cp, h1, h2.below hb⟩
/-- a block of slices of the call's own -/
def OutM (w : World) (B go : Nat) (rows : List (List Int)) : Prop := ∃ cs : Array Value, w.heap[go]? = some (.cells cs 22 (0, 0)) ∧ cs.size = rows.length ∧ ∀ (j : Nat) (x : List Int), rows[j]? = some x → ∃ v, cs[j]? = some v ∧ RwM w B v x
theorem OutM.below {w w' : World} {B go : Nat} {rows : List (List Int)} (h : OutM w B go rows) (hb : Below w.heap.size w w') : OutM w' B go rows := by
 obtain ⟨cs, h1, h2, h3⟩ := h
 exact ⟨cs, blkb h1 hb, h2, fun j x hx => by obtain ⟨v, hv, hr⟩ := h3 j x hx; exact ⟨v, hv, hr.below hb⟩⟩
/-- one row made: its block new, the cell stored, then stores in new memory alone -/
theorem OutM.fill {wM wr : World} {B go k : Nat} {rows : List (List Int)} {o : Obj} {v : Value} {x : List Int} (h : OutM wM B go rows) (hk : k < rows.length) (hb : Below wM.heap.size ((wM.setCell ⟨go, k, none⟩ v).alloc o) wr) (hrow : RwM wr B v x) : OutM wr B go (rows.set k x) := by
 obtain ⟨cs, h1, h2, h3⟩ := h
 have hgo : go < wM.heap.size := (Array.getElem?_eq_some_iff.1 h1).1
 have hs : (wM.setCell ⟨go, k, none⟩ v).heap.size = wM.heap.size := by simp
 have hA : Below wM.heap.size (wM.setCell ⟨go, k, none⟩ v) ((wM.setCell ⟨go, k, none⟩ v).alloc o) := (Below.refl _ _).alloc (by rw [hs]; exact Nat.le_refl _) _
 have e2 : (wM.setCell ⟨go, k, none⟩ v).heap[go]? = some (.cells (cs.setIfInBounds k v) 22 (0, 0)) := set_blk (i := k) h1 v
 have e3 : wr.heap[go]? = some (.cells (cs.setIfInBounds k v) 22 (0, 0)) := ((hb.block go hgo).trans (hA.block go hgo)).trans e2
 refine ⟨cs.setIfInBounds k v, e3, by simp [h2], fun j y hy => ?_⟩
 by_cases hjk : k = j
 ·subst hjk
  have : x = y := by rw [List.getElem?_set] at hy; simpa [hk] using hy
  subst this
  exact ⟨v, by rw [Array.getElem?_setIfInBounds]; simp [h2, hk], hrow⟩
 ·have hy' : rows[j]? = some y := by rw [List.getElem?_set, if_neg hjk] at hy; exact hy
  obtain ⟨u, hu, hr⟩ := h3 j y hy'
  refine ⟨u, by rw [Array.getElem?_setIfInBounds, if_neg hjk]; exact hu, ?_⟩
  rcases hr with hr | ⟨g, cp, hr1, cs2, hr2, hr3⟩
  ·exact .inl hr
  ·have hg : g < wM.heap.size := (Array.getElem?_eq_some_iff.1 hr2).1
   have hne : g ≠ go := fun e => by rw [e, h1] at hr2; simp at hr2
   have f1 : (wM.setCell ⟨go, k, none⟩ v).heap[g]? = some (.cells cs2 3 (0, 0)) := (set_far (p := ⟨go, k, none⟩) v hne).trans hr2
   exact .inr ⟨g, cp, hr1, cs2, ((hb.block g hg).trans (hA.block g hg)).trans f1, hr3⟩
theorem OutM.lower {w : World} {B B' go : Nat} {rows : List (List Int)} (h : OutM w B go rows) (hb : B' ≤ B) : OutM w B' go rows := by
 obtain ⟨cs, h1, h2, h3⟩ := h
 refine ⟨cs, h1, h2, fun j x hx => ?_⟩
 obtain ⟨v, hv, hr⟩ := h3 j x hx
 refine ⟨v, hv, ?_⟩
 rcases hr with hr | ⟨g, cp, e, hr⟩
 ·exact .inl hr
 ·exact .inr ⟨g, cp, e, hr.lower hb⟩
theorem OutM.cell {w : World} {B go k : Nat} {rows : List (List Int)} (h : OutM w B go rows) (hk : k < rows.length) : ∃ v, w.cell? ⟨go, k, none⟩ = some v ∧ w.frozen? ⟨go, k, none⟩ = false := by
 obtain ⟨cs, h1, h2, h3⟩ := h
 obtain ⟨v, hv, _⟩ := h3 k rows[k] (List.getElem?_eq_getElem hk)
 exact ⟨v, cell_at h1 hv, free_at h1⟩
theorem OutM.lt {w : World} {B go : Nat} {rows : List (List Int)} (h : OutM w B go rows) : go < w.heap.size := by
 obtain ⟨cs, h1, _⟩ := h
 exact (Array.getElem?_eq_some_iff.1 h1).1
theorem OutM.rd {w : World} {B go n : Nat} {rows : List (List Int)} (h : OutM w B go rows) (hn : rows.length = n) : RdD w (some ⟨go, 0, none⟩) n rows := by
 obtain ⟨cs, h1, h2, h3⟩ := h
 refine ⟨cs.toList, RdS.of_block (cs := cs.toList) (by simpa using h1) (by simp [h2, hn]), hn, fun k x hx => ?_⟩
 obtain ⟨v, hv, hr⟩ := h3 k x hx
 rw [Array.getElem?_toList]
 rcases hr with ⟨rfl, rfl⟩ | ⟨g, cp, rfl, hr⟩
 ·exact ⟨none, 0, hv, ⟨rfl, fun h => absurd h (Nat.lt_irrefl _)⟩⟩
 ·exact ⟨some ⟨g, 0, none⟩, cp, hv, hr.rd⟩
theorem OutM.start {w : World} {go B np : Nat} {f : Nat → Value} {T : List (List Int)} (h : w.heap[go]? = some (.cells (fillA (.slice none 0 0) f np 0) 22 (0, 0))) (hT : T.length = np) : OutM w B go (Im.upto T 0) := by
 refine ⟨_, h, by rw [fillA_size, Im.upto_len, hT], fun j x hx => ?_⟩
 have hj : j < np := by
  by_cases h : j < np
  ·exact h
  ·rw [List.getElem?_eq_none (by rw [Im.upto_len]; omega)] at hx; cases hx
 refine ⟨.slice none 0 0, by rw [fillA_get _ _ _ _ _ hj, if_neg (Nat.not_lt_zero j)], .inl ⟨rfl, ?_⟩⟩
 rw [Im.upto_zero, List.getElem?_replicate] at hx
 split at hx
 ·exact (Option.some.inj hx).symm
 ·cases hx
/-- the trace of a pair, and all traces, of a model -/
noncomputable def trc (c : Nat) (l : List Int) (un : Int) (ln : Nat) (most : Int) (ms : List Int) (p : Pr) : List Int := if p.h = true then [] else Im.trace ln (dlp c l un ln most p) ms
noncomputable def trcs (c : Nat) (l : List Int) (un : Int) (ln : Nat) (most : Int) (ms : List Int) (ps : List Pr) : List (List Int) := ps.map (trc c l un ln most ms)
theorem dlp_len (c : Nat) (l : List Int) (un len most : Int) (p : Pr) : (dlp c l un len most p).length = l.length := by unfold dlp dlL; exact Im.delays_len _ _ _ _ _ _
theorem dlp_lt {c : Nat} {l : List Int} {un len most : Int} {p : Pr} {j : Nat} (hj : j < l.length) (h : 0 ≤ Im.at0 (dlp c l un len most p) j) : Im.at0 (dlp c l un len most p) j < len := by
 unfold dlp dlL at h ⊢
 rw [Im.delays_at hj] at h ⊢
 exact Im.dly_lt h
theorem c91 (c r : Nat) (A : Option Addr) (n cap : Nat) (l : List Int) (un : Int) (ln : Nat) (most : Int) (P : Option Addr) (np capp : Nat) (ps : List Pr) (M : Option Addr) (capm : Nat) (ms : List Int) (w : World) (g : Im.Gr c r l) (hc : c ≤ 16) (hr : r ≤ 16) (hu : 1 ≤ un ∧ un ≤ 1000) (hln : 1 ≤ ln ∧ ln ≤ 256) (hnp : np ≤ 16) (hcp : np ≤ capp) (hcells : ∀ p, p ∈ ps → (0 ≤ p.s ∧ p.s < (n : Int)) ∧ (0 ≤ p.r ∧ p.r < (n : Int))) (hms : ∀ k, k < n → -1000 ≤ Im.at0 ms k ∧ Im.at0 ms k ≤ 1000) (H : RdI w A n l) (HP : RdP w P np ps) (HM : RdI w M n ms) (hst : Steps w) :
  Calls Tryz.prog 91 #[.agg #[.int .i64 c, .int .i64 r, .slice A n cap], .agg #[.int .i64 un, .int .i64 (ln : Nat), .int .i64 most, .slice P np capp], .slice M n capm] w fun en w' => ∃ go, en = .returned (.slice (some ⟨go, 0, none⟩) np np) ∧ w.heap.size ≤ go ∧ OutM w' w.heap.size go (trcs c l un ln most ms ps) ∧ Below w.heap.size w w' := by
 have HPL := Lib.hid HP.len
 have HLN := Lib.hid H.len
 have HML := Lib.hid HM.len
 have hn0 : 0 < n := by
  have h1 := g.c1; have h2 := g.r1; have h3 := g.len
  have : 1 * 1 ≤ c * r := Nat.mul_le_mul h1 h2
  rw [← HLN.out]; omega
 have hn256 : n ≤ 256 := by
  have h3 := g.len
  have : c * r ≤ 16 * 16 := Nat.mul_le_mul hc hr
  rw [← HLN.out]; omega
 obtain ⟨i0, hi, hz0, hz1, hz2⟩ := info_parts info3
 obtain ⟨i1, hi1, hy0, hy1, hy2⟩ := info_parts infoSl
 have hmk1 := fun W => run_make_fill (P := Tryz.prog) 22 3 i0 (.int .i64 0) (fun _ => .int .i64 0) Tryz.underlying22 hi hz0 hz1 rfl ln (by omega) (by rw [hz2]; omega) W
 have hmk2 := fun W => run_make_fill (P := Tryz.prog) 31 22 i1 (.slice none 0 0) (fun _ => .slice none 0 0) Tryz.underlying31 hi1 hy0 hy1 rfl np (by omega) (by rw [hy2]; omega) W
 have HMK1 := Lib.hid hmk1
 clear hi hz0 hz1 hz2 hi1 hy0 hy1 hy2 hmk1
 have HMS := Lib.hid hms
 clear hms
 obtain ⟨TL, hTL⟩ : ∃ T, T = trcs c l un ln most ms ps := ⟨_, rfl⟩
 rw [← hTL]
 have HTL := Lib.hid hTL
 have HTN : Hid (TL.length = np) := Lib.hid (by rw [hTL]; simp [trcs, HPL.out])
 clear hTL
 obtain ⟨w0, hW⟩ : ∃ W, W = (w.alloc (Obj.cells #[.int .i64 c, .int .i64 r, .slice A n cap] 35)).alloc (Obj.cells #[.int .i64 un, .int .i64 (ln : Nat), .int .i64 most, .slice P np capp] 39) := ⟨_, rfl⟩
 have hT0 : w0.heap[w.heap.size]? = some (.cells #[.int .i64 c, .int .i64 r, .slice A n cap] 35 (0, 0)) := by rw [hW]; exact heap_old (by simp <;> omega) (heap_new (by simp))
 have hT1 : w0.heap[w.heap.size + 1]? = some (.cells #[.int .i64 un, .int .i64 (ln : Nat), .int .i64 most, .slice P np capp] 39 (0, 0)) := by rw [hW]; exact heap_new (by simp)
 have hB0 : Below w.heap.size w w0 := by rw [hW]; exact (((Below.refl _ _).alloc (by first | omega | (simp <;> omega)) _).alloc (by first | omega | (simp <;> omega)) _)
 replace H := H.below hB0
 replace HP := HP.below hB0
 replace HM := HM.below hB0
 replace hst := hst.below hB0
 go_enter Tryz.func91, Tryz.ntmps91
 have HS0 : w0.heap.size = w.heap.size + 1 + 1 := by rw [hW]; simp
 go_wp2_with fail
 rw [← hW]
 clear hW
 have qhT0_0 : w0.cell? ⟨w.heap.size, 0, none⟩ = some (.int .i64 c) := cell_at hT0 rfl
 have qhT0_1 : w0.cell? ⟨w.heap.size, 1, none⟩ = some (.int .i64 r) := cell_at hT0 rfl
 have qhT0_2 : w0.cell? ⟨w.heap.size, 2, none⟩ = some (.slice A n cap) := cell_at hT0 rfl
 have qhT1_0 : w0.cell? ⟨w.heap.size + 1, 0, none⟩ = some (.int .i64 un) := cell_at hT1 rfl
 have qhT1_1 : w0.cell? ⟨w.heap.size + 1, 1, none⟩ = some (.int .i64 (ln : Nat)) := cell_at hT1 rfl
 have qhT1_2 : w0.cell? ⟨w.heap.size + 1, 2, none⟩ = some (.int .i64 most) := cell_at hT1 rfl
 have qhT1_3 : w0.cell? ⟨w.heap.size + 1, 3, none⟩ = some (.slice P np capp) := cell_at hT1 rfl
 have z0 : w.heap.size < w0.heap.size := (Array.getElem?_eq_some_iff.1 hT0).1
 have z1 : w.heap.size + 1 < w0.heap.size := (Array.getElem?_eq_some_iff.1 hT1).1
 go_wp2_with fail
 obtain ⟨w1, hwn⟩ : ∃ V, V = w0.alloc (.cells (fillA (.slice none 0 0) (fun _ => .slice none 0 0) np 0) 22) := ⟨_, rfl⟩
 have hbn0 : Below w0.heap.size w0 w1 := by rw [hwn]; exact (Below.refl _ _).alloc (Nat.le_refl _) _
 obtain ⟨go, hgo'⟩ : ∃ b, b = w.heap.size + 1 + 1 := ⟨_, rfl⟩
 have hgo : go = w0.heap.size := by omega
 have ko : w1.heap[go]? = some (.cells (fillA (.slice none 0 0) (fun _ => .slice none 0 0) np 0) 22 (0, 0)) := by rw [hwn]; exact heap_new hgo
 have HGO : Hid (w0.heap.size ≤ go) := Lib.hid (by omega)
 have hom : OutM w1 w0.heap.size go (Im.upto TL 0) := OutM.start ko HTN.out
 rw [← hgo', ← hwn]
 clear hwn hgo hgo' HS0 hmk2 ko z0 z1
 have KH := Lib.hid H
 have KHP := Lib.hid HP
 have KHM := Lib.hid HM
 have Khst := Lib.hid hst
 have KhT0 := Lib.hid hT0
 have KhT1 := Lib.hid hT1
 have KB := Lib.hid hB0
 clear qhT0_0 qhT0_1 qhT0_2 qhT1_0 qhT1_1 qhT1_2 qhT1_3
 have hS := hbn0
 have hB1 := hB0.call hS rfl
 replace hT0 := blkb hT0 hS
 replace hT1 := blkb hT1 hS
 replace H := H.below hS
 replace HP := HP.below hS
 replace HM := HM.below hS
 replace hst := hst.below hS
 clear hS hB0
 have qhT0_0 : w1.cell? ⟨w.heap.size, 0, none⟩ = some (.int .i64 c) := cell_at hT0 rfl
 have qhT0_1 : w1.cell? ⟨w.heap.size, 1, none⟩ = some (.int .i64 r) := cell_at hT0 rfl
 have qhT0_2 : w1.cell? ⟨w.heap.size, 2, none⟩ = some (.slice A n cap) := cell_at hT0 rfl
 have qhT1_0 : w1.cell? ⟨w.heap.size + 1, 0, none⟩ = some (.int .i64 un) := cell_at hT1 rfl
 have qhT1_1 : w1.cell? ⟨w.heap.size + 1, 1, none⟩ = some (.int .i64 (ln : Nat)) := cell_at hT1 rfl
 have qhT1_2 : w1.cell? ⟨w.heap.size + 1, 2, none⟩ = some (.int .i64 most) := cell_at hT1 rfl
 have qhT1_3 : w1.cell? ⟨w.heap.size + 1, 3, none⟩ = some (.slice P np capp) := cell_at hT1 rfl
 have hbb := hbn0
 clear hbn0
 go_wp2_with fail
 have HOMLT := hom.lt
 refine (c108 c r A n cap l un ln most P np capp ps _ g hc hr hu hnp hcp hcells H HP hst).mono ?_
 rintro e w2 ⟨AL, capL, rfl, hall, hb⟩
 have HSZX := hb.size
 clear qhT0_0 qhT0_1 qhT0_2 qhT1_0 qhT1_1 qhT1_2 qhT1_3
 have hS := hb
 have hB2 := hB1.call hS rfl
 replace hT0 := blkb hT0 hS
 replace hT1 := blkb hT1 hS
 replace H := H.below hS
 replace HP := HP.below hS
 replace HM := HM.below hS
 replace hst := hst.below hS
 replace hom := hom.below hS
 replace hbb := hbb.call hS rfl
 clear hS hB1
 have qhT0_0 : w2.cell? ⟨w.heap.size, 0, none⟩ = some (.int .i64 c) := cell_at hT0 rfl
 have qhT0_1 : w2.cell? ⟨w.heap.size, 1, none⟩ = some (.int .i64 r) := cell_at hT0 rfl
 have qhT0_2 : w2.cell? ⟨w.heap.size, 2, none⟩ = some (.slice A n cap) := cell_at hT0 rfl
 have qhT1_0 : w2.cell? ⟨w.heap.size + 1, 0, none⟩ = some (.int .i64 un) := cell_at hT1 rfl
 have qhT1_1 : w2.cell? ⟨w.heap.size + 1, 1, none⟩ = some (.int .i64 (ln : Nat)) := cell_at hT1 rfl
 have qhT1_2 : w2.cell? ⟨w.heap.size + 1, 2, none⟩ = some (.int .i64 most) := cell_at hT1 rfl
 have qhT1_3 : w2.cell? ⟨w.heap.size + 1, 3, none⟩ = some (.slice P np capp) := cell_at hT1 rfl
 clear hb
 clear qhT0_0 qhT0_1 qhT0_2 qhT1_0 qhT1_1 qhT1_2 qhT1_3
 have HALL := Lib.hid hall
 have HSZ : Hid (go + 1 ≤ w1.heap.size ∧ w1.heap.size ≤ w2.heap.size) := Lib.hid ⟨HOMLT, HSZX⟩
 have HB1 : Hid (Below w0.heap.size w0 w2) := Lib.hid hbb
 have hom0 := Lib.hid hom
 have hgb0 : Hid (w2.grownBy w2 (some go)) := Lib.hid (grownBy_of_below (Below.refl _ _) _)
 clear hom hbb hall H HP HM hst hT0 hT1 hcells
 go_wp2_with fail
 go_loopw [20] (fun i wr => ∃ k : Nat, k ≤ np ∧ i = .int .i64 k ∧ Hid (OutM wr w0.heap.size go (Im.upto TL k)) ∧ Hid (w2.grownBy wr (some go))) (fun i _ => np - (intOf i).toNat)
 case atStart => exact ⟨0, Nat.zero_le _, rfl, hom0, hgb0⟩
 case round =>
  clear hom0 hgb0
  obtain ⟨k, hk, rfl, HOM, HGB⟩ := hrel
  obtain ⟨w3, hww⟩ : ∃ W, W = wr := ⟨_, rfl⟩
  subst hww
  have hbr : Below w0.heap.size w0 w3 := HB1.out.trans (gb_below HGB.out HB1.out.size HGO.out)
  have hB3 := KB.out.call hbr rfl
  have H := KH.out.below hbr
  have HP := KHP.out.below hbr
  have HM := KHM.out.below hbr
  have hst := Khst.out.below hbr
  have hT0 := blkb KhT0.out hbr
  have hT1 := blkb KhT1.out hbr
  have qhT0_0 : w3.cell? ⟨w.heap.size, 0, none⟩ = some (.int .i64 c) := cell_at hT0 rfl
  have qhT0_1 : w3.cell? ⟨w.heap.size, 1, none⟩ = some (.int .i64 r) := cell_at hT0 rfl
  have qhT0_2 : w3.cell? ⟨w.heap.size, 2, none⟩ = some (.slice A n cap) := cell_at hT0 rfl
  have qhT1_0 : w3.cell? ⟨w.heap.size + 1, 0, none⟩ = some (.int .i64 un) := cell_at hT1 rfl
  have qhT1_1 : w3.cell? ⟨w.heap.size + 1, 1, none⟩ = some (.int .i64 (ln : Nat)) := cell_at hT1 rfl
  have qhT1_2 : w3.cell? ⟨w.heap.size + 1, 2, none⟩ = some (.int .i64 most) := cell_at hT1 rfl
  have qhT1_3 : w3.cell? ⟨w.heap.size + 1, 3, none⟩ = some (.slice P np capp) := cell_at hT1 rfl
  have hall := HALL.out.keep HGB.out.size (fun b hb hl => HGB.out.block b hl (fun e => by have := HSZ.out; have e2 : b = go := Option.some.inj e; omega))
  have hwk : IntKind.i64.wrap ((k : Int) + 1) = ((k + 1 : Nat) : Int) := by rw [wrapI (by omega)]; simp
  by_cases hlt : k < np
  rotate_left
  ·obtain rfl : np = k := by omega
   have HF : Hid (OutM w3 w.heap.size go TL) := Lib.hid (by
    have h := HOM.out
    rw [← HTN.out, Im.upto_full] at h
    exact h.lower KB.out.size)
   have HGW : Hid (w.heap.size ≤ go) := Lib.hid (Nat.le_trans KB.out.size HGO.out)
   go_wp2
   go_ret
   exact ⟨go, rfl, HGW.out, HF.out, hB3⟩
  have hkm2 : (k : Int) < (np : Int) := by omega
  have hk02 : (0 : Int) ≤ (k : Int) := by omega
  obtain ⟨pb, poff, p, rfl, hpx, hpb, hp0, hp1, hp2⟩ := HP.at hlt
  obtain ⟨ab, aoff, x, gx, xc, rfl, hx, ⟨hab, habB⟩, ⟨hgx, hgxB⟩, hac, hrx⟩ := hall.at hlt
  have hxd : x = dlp c l un ln most p := by
   rw [List.getElem?_map, hpx] at hx
   simpa using hx.symm
  have hxl : x.length = n := by rw [hxd, dlp_len, HLN.out]
  have HXD := Lib.hid hxd
  have HXL := Lib.hid hxl
  have HPX := Lib.hid hpx
  have HTK : Hid (TL[k]? = some (trc c l un ln most ms p)) := Lib.hid (by rw [HTL.out]; unfold trcs; rw [List.getElem?_map, hpx]; rfl)
  rw [hxl] at hac hrx
  clear hx hxd hxl hpx hp0 hp1 hall
  obtain ⟨p0, p1, ph⟩ := p
  dsimp only at hp2
  have hgol := HOM.out.lt
  cases ph
  rotate_left
  ·have HOM2 : Hid (OutM w3 w0.heap.size go (Im.upto TL (k + 1))) := by
    rw [Im.upto_nil (by rw [HTK.out]; rfl)]; exact HOM
   go_wp2
   go_roundw
   case rel => exact ⟨k + 1, by omega, rfl, HOM2, HGB⟩
   case measure => simp [intOf]; omega
  obtain ⟨vo, hvo, hfo⟩ := HOM.out.cell (k := k) (by rw [Im.upto_len, HTN.out]; exact hlt)
  have hmk1 := HMK1.out
  have z1 : w.heap.size + 1 < w3.heap.size := (Array.getElem?_eq_some_iff.1 hT1).1
  go_wp2_with fail
  obtain ⟨oI, hoI⟩ : ∃ o, o = Obj.cells (fillA (.int .i64 0) (fun _ => .int .i64 0) ln 0) 3 := ⟨_, rfl⟩
  obtain ⟨wI, hwI⟩ : ∃ V, V = (w3.setCell ⟨go, k, none⟩ (.slice (some ⟨w3.heap.size, 0, none⟩) ln ln)).alloc oI := ⟨_, rfl⟩
  have hsI : (w3.setCell ⟨go, k, none⟩ (.slice (some ⟨w3.heap.size, 0, none⟩) ln ln)).heap.size = w3.heap.size := by simp
  obtain ⟨gt, hgt⟩ : ∃ b, b = w3.heap.size := ⟨_, rfl⟩
  have hAI : Below w3.heap.size (w3.setCell ⟨go, k, none⟩ (.slice (some ⟨w3.heap.size, 0, none⟩) ln ln)) ((w3.setCell ⟨go, k, none⟩ (.slice (some ⟨w3.heap.size, 0, none⟩) ln ln)).alloc oI) := (Below.refl _ _).alloc (by rw [hsI]; exact Nat.le_refl _) _
  have HGBI : Hid (w2.grownBy wI (some go)) := Lib.hid (by rw [hwI]; exact gb_call (gb_set HGB.out) (hAI.mono HGB.out.size))
  have hrowI : RowI wI w3.heap.size gt ln ln (Im.trk ln (dlp c l un ln most ⟨p0, p1, false⟩) ms 0) := by
   have h2 : wI.heap[gt]? = some (.cells (fillA (.int .i64 0) (fun _ => .int .i64 0) ln 0) 3 (0, 0)) := by rw [hwI, hoI]; exact heap_new (by rw [hsI]; exact hgt)
   refine ⟨_, h2, fillA_size _ _ _ _, Nat.le_refl _, by omega, by rw [Im.trk_len], ?_, by omega⟩
   rw [Im.trk_zero, List.take_of_length_le (by simp [fillA])]
   apply List.ext_getElem? 
   intro i
   simp [fillA, encI, List.getElem?_replicate, List.getElem?_range]
   by_cases h : i < ln <;> simp [h]
  have hcgo : wI.cell? ⟨go, k, none⟩ = some (.slice (some ⟨gt, 0, none⟩) ln ln) := by
   obtain ⟨cs, h1, h2, _⟩ := HOM.out
   have h3 := set_blk (i := k) h1 (.slice (some ⟨gt, 0, none⟩) ln ln)
   rw [hwI, ← hgt]
   rw [← hgt] at hAI
   refine cell_at (heap_old (Array.getElem?_eq_some_iff.1 h3).1 h3) ?_
   rw [Array.getElem?_setIfInBounds]
   have : k < cs.size := by rw [h2, Im.upto_len, HTN.out]; exact hlt
   simp [this]
  have hgxo : gx ≠ go := by have h1 := HSZ.out; omega
  have HG2 : Hid (w3.grownBy wI (some go)) := Lib.hid (by rw [hwI]; exact gb_call (gb_set (grownBy_of_below (Below.refl _ _) _)) hAI)
  have HWI := Lib.hid hwI
  rw [← hoI, ← hwI, ← hgt]
  have HGT : Hid (gt = w3.heap.size) := Lib.hid hgt
  obtain ⟨D, hD⟩ : ∃ D, D = dlp c l un ln most ⟨p0, p1, false⟩ := ⟨_, rfl⟩
  rw [← hD] at hrowI HXD
  obtain rfl : x = D := HXD.out
  have HD := Lib.hid hD
  have HDL : Hid (∀ j, j < n → 0 ≤ Im.at0 x j → Im.at0 x j < (ln : Int)) := Lib.hid (fun j hj h => by rw [hD] at h ⊢; exact dlp_lt (by rw [HLN.out]; exact hj) h)
  have hrow0 := Lib.hid hrowI
  have HRX := Lib.hid hrx
  have HCG := Lib.hid hcgo
  have HGOL := Lib.hid hgol
  have HGX := Lib.hid (show gx < w3.heap.size from hgx)
  clear hmk1 z1 hAI hsI hwI hgt hoI hrowI hcgo hvo hfo hrx hac hab habB hgx hgxB hp2 hgol hpb hD HXD
  go_loopw [39] (fun i wr => ∃ j : Nat, j ≤ n ∧ i = .int .i64 j ∧ Hid (RowI wr w3.heap.size gt ln ln (Im.trk ln x ms j)) ∧ Below w3.heap.size wI wr) (fun i _ => n - (intOf i).toNat)
  case atStart => exact ⟨0, Nat.zero_le _, rfl, hrow0, Below.refl _ _⟩
  case round =>
   clear hrow0
   obtain ⟨j, hj, rfl, HRW, hbq⟩ := hrel
   have HG5 : Hid (w2.grownBy wr (some go)) := Lib.hid (gb_call HGBI.out (hbq.mono HGB.out.size))
   have HBQ := Lib.hid hbq
   have HG6 : Hid (w3.grownBy wr (some go)) := Lib.hid (gb_call HG2.out hbq)
   clear hbr H HP HM hst hT0 hT1
   clear qhT0_0 qhT0_1 qhT0_2 qhT1_0 qhT1_1 qhT1_2 qhT1_3
   obtain ⟨w4, hww⟩ : ∃ W, W = wr := ⟨_, rfl⟩
   subst hww
   have hbr : Below w0.heap.size w0 w4 := HB1.out.trans (gb_below HG5.out HB1.out.size HGO.out)
   have hB4 := KB.out.call hbr rfl
   have H := KH.out.below hbr
   have HP := KHP.out.below hbr
   have HM := KHM.out.below hbr
   have hst := Khst.out.below hbr
   have hT0 := blkb KhT0.out hbr
   have hT1 := blkb KhT1.out hbr
   clear hbq
   have hwj : IntKind.i64.wrap ((j : Int) + 1) = ((j + 1 : Nat) : Int) := by rw [wrapI (by omega)]; simp
   by_cases hlt2 : j < n
   rotate_left
   ·obtain rfl : n = j := by omega
    have HOM3 : Hid (OutM w4 w0.heap.size go (Im.upto TL (k + 1))) := Lib.hid (by
     have e1 : Im.trk ln x ms n = Im.trace ln x ms := Im.trk_full HXL.out HML.out
     have h0 := HRW.out
     rw [e1] at h0
     have h := HOM.out.fill (wr := w4) (o := oI) (v := .slice (some ⟨w3.heap.size, 0, none⟩) ln ln) (x := Im.trace ln x ms) (by rw [Im.upto_len, HTN.out]; exact hlt) (by rw [← HWI.out]; exact HBQ.out) (.inr ⟨w3.heap.size, ln, by rw [Im.trace_len], by
      rw [Im.trace_len, ← HGT.out]; exact h0.lower (Nat.le_trans HB1.out.size HGB.out.size)⟩)
     rw [Im.upto_set (by rw [HTK.out, HD.out]; rfl)] at h
     exact h)
    go_wp2
    go_roundw
    case rel => exact ⟨k + 1, by omega, rfl, HOM3, HG5⟩
    case measure => simp [intOf]; omega
   have hjn2 : (j : Int) < (n : Int) := by omega
   have hj02 : (0 : Int) ≤ (j : Int) := by omega
   have hdc : w4.cell? ⟨gx, j, none⟩ = some (.int .i64 (Im.at0 x j)) := by
    have h := (HRX.out.gb HG6.out hgxo).get hlt2
    rwa [Nat.zero_add] at h
   have hgx5 : gx < w4.heap.size := Nat.lt_of_lt_of_le HGX.out HG6.out.size
   have HDJ := Lib.hid (HDL.out j hlt2)
   have HTS : Hid (Im.trk ln x ms (j + 1) = Im.addAt (Im.trk ln x ms j) (Im.at0 x j) (Im.at0 ms j)) := Lib.hid (Im.trk_succ (by rw [HXL.out]; exact hlt2) (by rw [HML.out]; exact hlt2))
   generalize hdj : Im.at0 x j = dj at hdc HDJ HTS
   clear hdj
   by_cases hd0 : 0 ≤ dj
   rotate_left
   ·have hdd : decide ((0 : Int) ≤ dj) = false := by simpa using hd0
    have HRW2 : Hid (RowI w4 w3.heap.size gt ln ln (Im.trk ln x ms (j + 1))) := Lib.hid (by
     rw [HTS.out]
     unfold Im.addAt
     rw [if_neg hd0]
     exact HRW.out)
    clear hd0
    go_wp2
    go_roundw
    case rel => exact ⟨j + 1, by omega, rfl, HRW2, HBQ.out⟩
    case measure => simp [intOf]; omega
   have hdl := HDJ.out hd0
   obtain ⟨q, rfl⟩ : ∃ q : Nat, dj = q := ⟨dj.toNat, by omega⟩
   have hq : q < ln := by omega
   have hdd : decide ((0 : Int) ≤ (q : Int)) = true := by simp
   have hql : (q : Int) < (ln : Int) := by omega
   obtain ⟨mb, moff, mx, rfl, hmx, hmb, hmc⟩ := HM.at hlt2
   have hmx2 : Im.at0 ms j = mx := by simp [Im.at0, List.getD_eq_getElem?_getD, hmx]
   have hmr := HMS.out j hlt2
   rw [hmx2] at hmr HTS
   have htl := Im.trk_le (len := ln) (ds := x) (ms := ms) (B := 1000) (by omega) (fun k hk => HMS.out k (by rw [← HML.out]; exact hk)) (by rw [HXL.out, HML.out]) j (by rw [HXL.out]; exact hj) q
   have hrc := (HRW.out.cell hq).1
   have hrf := (HRW.out.cell hq).2.1
   have hgtl := (HRW.out.cell hq).2.2
   generalize hyv : Im.at0 (Im.trk ln x ms j) q = yv at hrc htl
   have HYV := Lib.hid hyv
   have hwy : IntKind.i64.wrap (yv + mx) = yv + mx := wrapI (by omega)
   have hcg5 : w4.cell? ⟨go, k, none⟩ = some (.slice (some ⟨gt, 0, none⟩) ln ln) := (HBQ.out.cell (p := ⟨go, k, none⟩) HGOL.out).trans HCG.out
   have hgo5 : go < w4.heap.size := Nat.lt_of_lt_of_le HGOL.out HG6.out.size
   have HMR := Lib.hid hmr
   clear hmr htl hmx hmx2 hyv hd0 hdl
   have hbq := HBQ.out
   go_wp2
   refine wp_region_splitG 13 (by kernel_rfl) (by kernel_rfl) ?_
   simp only [List.take_succ_cons, List.take_zero, List.drop_succ_cons, List.drop_zero]
   repeat (go_big_quiet_step ((first | fail)))
   refine wpQuiet_nil (gw_out ?_)
   intro wq hbw
   have hrow2 := HRW.out.below hbw
   have hbq2 := hbq.trans (hbw.mono HG6.out.size)
   have qc := (hrow2.cell hq).1
   have qf := (hrow2.cell hq).2.1
   rw [HYV.out] at qc
   have HRW2 : Hid (RowI (wq.setCell ⟨gt, q, none⟩ (.int .i64 (yv + mx))) w3.heap.size gt ln ln (Im.trk ln x ms (j + 1))) := Lib.hid (by
    rw [HTS.out]
    unfold Im.addAt
    rw [if_pos (Int.natCast_nonneg q), Int.toNat_natCast, HYV.out]
    exact hrow2.set q (yv + mx))
   have HBQ2 : Hid (Below w3.heap.size wI (wq.setCell ⟨gt, q, none⟩ (.int .i64 (yv + mx)))) := Lib.hid (hbq2.setCell (p := ⟨gt, q, none⟩) (by show _ ≤ gt; rw [HGT.out]; exact Nat.le_refl _) _)
   clear hrow2 hbq2 hbq hrc hrf hdc hcg5 hmc
   go_wp2
   go_roundw
   case rel => exact ⟨j + 1, by omega, rfl, HRW2, HBQ2.out⟩
   case measure => simp [intOf]; omega
end Go.Proofs.YtdimmlljjmmdbaaGreatDoor
