/- A part of the proofs about chapter 7 (image): contracts of functions and plain laws (V26, PUnits, PFit, V28, O2, PRef, V58, V29, PMod). -/
import Derived.Test.YtdimmlljjmmdbaaGreatDoorZ04b
import Derived.Test.YtdimmlljjmmdbaaGreatDoorZ04c
import Derived.Test.YtdimmlljjmmdbaaGreatDoorZ04e
set_option linter.all false
namespace Go.Proofs.YtdimmlljjmmdbaaGreatDoor
open Go.RowKit
set_option maxHeartbeats 8000000
set_option maxRecDepth 20000
/-- an owned row of integers (or of others of one cell) -/
def Own (w : World) (B : Nat) (v : Value) (n : Nat) (l : List Value) : Prop := w.ownsRow B 3 1 v n l
theorem Own.below {w w' : World} {B : Nat} {v : Value} {n : Nat} {l : List Value} (h : Own w B v n l) (hb : Below w.heap.size w w') : Own w' B v n l := by
 obtain ⟨h1, h2 | ⟨g, cap, cs, rfl, h3, h4, h5⟩⟩ := h
 ·exact ⟨h1, .inl h2⟩
 ·exact ⟨h1, .inr ⟨g, cap, cs, rfl, h3, blkb h4 hb, h5⟩⟩
theorem own_lower {w : World} {B B' : Nat} {v : Value} {n : Nat} {l : List Value} (h : w.ownsRow B 3 1 v n l) (hb : B' ≤ B) : w.ownsRow B' 3 1 v n l := by
 obtain ⟨h1, h2 | ⟨g, cap, cs, rfl, h3, h4, h5⟩⟩ := h
 ·exact ⟨h1, .inl h2⟩
 ·exact ⟨h1, .inr ⟨g, cap, cs, rfl, Nat.le_trans hb h3, h4, h5⟩⟩
theorem c28_ok (c r : Nat) (A : Option Addr) (n cap : Nat) (l : List Int) (un len most : Int) (P : Option Addr) (np capp : Nat) (ps : List Pr) (j a b : Nat) (hole : Bool) (w : World) (g : Im.Gr c r l) (hc : c ≤ 16) (hr : r ≤ 16) (hu : 1 ≤ un ∧ un ≤ 1000) (hp : np ≤ 1000000) (hS : Mo.surv c r l un len most ps = 0) (hj : ps[j]? = some ⟨a, b, hole⟩) (ha : a < n) (hb0 : b < n) (H : RdI w A n l) (HP : RdP w P np ps) (hst : Steps w) :
  Calls Tryz.prog 28 #[.agg #[.int .i64 c, .int .i64 r, .slice A n cap], .agg #[.int .i64 un, .int .i64 len, .int .i64 most, .slice P np capp], .int .i64 j] w fun en w' => ∃ v, en = .returned (.tuple #[v, .int .i64 0]) ∧ w'.ownsRow w.heap.size 3 1 v n (encI (dlL c l un len most a b hole)) ∧ Below w.heap.size w w' := by
 have hl : n ≤ 1000000 := by have := H.len; have := g.len; have : c * r ≤ 256 := Nat.mul_le_mul hc hr; omega
 have hjn : j < np := by rw [← HP.len]; exact (List.getElem?_eq_some_iff.1 hj).1
 have hj1 : ¬ ((j : Int) < 0) := by omega
 have hj2 : ¬ ((np : Int) ≤ (j : Int)) := by omega
 have hj3 : (j : Int) < (np : Int) := by omega
 have hj4 : (0 : Int) ≤ (j : Int) := by omega
 have HSS := Lib.hid hS
 have HJ := Lib.hid hj
 clear hS hj
 obtain ⟨w0, hW⟩ : ∃ W, W = (w.alloc (Obj.cells #[.int .i64 c, .int .i64 r, .slice A n cap] 35)).alloc (Obj.cells #[.int .i64 un, .int .i64 len, .int .i64 most, .slice P np capp] 39) := ⟨_, rfl⟩
 have hT0 : w0.heap[w.heap.size]? = some (.cells #[.int .i64 c, .int .i64 r, .slice A n cap] 35 (0, 0)) := by rw [hW]; exact heap_old (by simp <;> omega) (heap_new (by simp))
 have hT1 : w0.heap[w.heap.size + 1]? = some (.cells #[.int .i64 un, .int .i64 len, .int .i64 most, .slice P np capp] 39 (0, 0)) := by rw [hW]; exact heap_new (by simp)
 have hB0 : Below w.heap.size w w0 := by rw [hW]; exact (((Below.refl _ _).alloc (by first | omega | (simp <;> omega)) _).alloc (by first | omega | (simp <;> omega)) _)
 replace H := H.below hB0
 replace HP := HP.below hB0
 replace hst := hst.below hB0
 go_enter Tryz.func28, Tryz.ntmps28
 go_wp2_with fail
 rw [← hW]
 clear hW
 have qhT0_0 : w0.cell? ⟨w.heap.size, 0, none⟩ = some (.int .i64 c) := cell_at hT0 rfl
 have qhT0_1 : w0.cell? ⟨w.heap.size, 1, none⟩ = some (.int .i64 r) := cell_at hT0 rfl
 have qhT0_2 : w0.cell? ⟨w.heap.size, 2, none⟩ = some (.slice A n cap) := cell_at hT0 rfl
 have qhT1_0 : w0.cell? ⟨w.heap.size + 1, 0, none⟩ = some (.int .i64 un) := cell_at hT1 rfl
 have qhT1_1 : w0.cell? ⟨w.heap.size + 1, 1, none⟩ = some (.int .i64 len) := cell_at hT1 rfl
 have qhT1_2 : w0.cell? ⟨w.heap.size + 1, 2, none⟩ = some (.int .i64 most) := cell_at hT1 rfl
 have qhT1_3 : w0.cell? ⟨w.heap.size + 1, 3, none⟩ = some (.slice P np capp) := cell_at hT1 rfl
 go_wp2_with fail
 refine (c25 c r A n cap l un len most P np capp ps _ hl hp H HP).mono ?_
 rintro e w1 ⟨rfl, hb⟩
 clear qhT0_0 qhT0_1 qhT0_2 qhT1_0 qhT1_1 qhT1_2 qhT1_3
 have hS := hb
 have hB1 := hB0.call hS rfl
 replace hT0 := blkb hT0 hS
 replace hT1 := blkb hT1 hS
 replace H := H.below hS
 replace HP := HP.below hS
 replace hst := hst.below hS
 clear hS hB0
 have qhT0_0 : w1.cell? ⟨w.heap.size, 0, none⟩ = some (.int .i64 c) := cell_at hT0 rfl
 have qhT0_1 : w1.cell? ⟨w.heap.size, 1, none⟩ = some (.int .i64 r) := cell_at hT0 rfl
 have qhT0_2 : w1.cell? ⟨w.heap.size, 2, none⟩ = some (.slice A n cap) := cell_at hT0 rfl
 have qhT1_0 : w1.cell? ⟨w.heap.size + 1, 0, none⟩ = some (.int .i64 un) := cell_at hT1 rfl
 have qhT1_1 : w1.cell? ⟨w.heap.size + 1, 1, none⟩ = some (.int .i64 len) := cell_at hT1 rfl
 have qhT1_2 : w1.cell? ⟨w.heap.size + 1, 2, none⟩ = some (.int .i64 most) := cell_at hT1 rfl
 have qhT1_3 : w1.cell? ⟨w.heap.size + 1, 3, none⟩ = some (.slice P np capp) := cell_at hT1 rfl
 clear hb
 rw [HSS.out]
 have hd1 : decide ((j : Int) < 0) = false := by simp
 have hd2 : decide (np ≤ j) = false := by simp; omega
 go_wp2_with fail
 refine (c94 false 10 _).mono ?_
 rintro e w' ⟨rfl, rfl⟩
 go_wp2_with fail
 refine (c89 _ 2 2 [0, Mo.when false 10] _ rfl (by omega) (RdS.of_new (cs := encI [0, Mo.when false 10]) rfl rfl)).mono ?_
 rintro e w' ⟨rfl, rfl⟩
 have hF : Mo.first [0, Mo.when false 10] = 0 := rfl
 rw [hF]
 obtain ⟨w2, hwn⟩ : ∃ V, V = w1.alloc (Obj.cells (encI [0, Mo.when false 10]).toArray 32) := ⟨_, rfl⟩
 have hbn : Below w1.heap.size w1 w2 := by rw [hwn]; exact (Below.refl _ _).alloc (Nat.le_refl _) _
 try rw [← hwn]
 clear hwn
 clear qhT0_0 qhT0_1 qhT0_2 qhT1_0 qhT1_1 qhT1_2 qhT1_3
 have hS := hbn
 have hB2 := hB1.call hS rfl
 replace hT0 := blkb hT0 hS
 replace hT1 := blkb hT1 hS
 replace H := H.below hS
 replace HP := HP.below hS
 replace hst := hst.below hS
 clear hS hB1
 have qhT0_0 : w2.cell? ⟨w.heap.size, 0, none⟩ = some (.int .i64 c) := cell_at hT0 rfl
 have qhT0_1 : w2.cell? ⟨w.heap.size, 1, none⟩ = some (.int .i64 r) := cell_at hT0 rfl
 have qhT0_2 : w2.cell? ⟨w.heap.size, 2, none⟩ = some (.slice A n cap) := cell_at hT0 rfl
 have qhT1_0 : w2.cell? ⟨w.heap.size + 1, 0, none⟩ = some (.int .i64 un) := cell_at hT1 rfl
 have qhT1_1 : w2.cell? ⟨w.heap.size + 1, 1, none⟩ = some (.int .i64 len) := cell_at hT1 rfl
 have qhT1_2 : w2.cell? ⟨w.heap.size + 1, 2, none⟩ = some (.int .i64 most) := cell_at hT1 rfl
 have qhT1_3 : w2.cell? ⟨w.heap.size + 1, 3, none⟩ = some (.slice P np capp) := cell_at hT1 rfl
 clear hbn
 go_wp2_with fail
 obtain ⟨pb, po, x, hPe, hx, hpb, p0, p1, p2⟩ := HP.at hjn
 rw [HJ.out] at hx
 obtain rfl : (⟨(a : Int), (b : Int), hole⟩ : Pr) = x := by simpa using hx
 clear hx
 subst hPe
 dsimp only at p0 p1 p2
 refine wp_region_plan [(0, true), (1, true), (2, true), (3, true), (4, true), (5, true), (6, true), (7, false), (8, true), (9, true)] w2.heap.size (by kernel_rfl) (by kernel_rfl) (Nat.le_refl _) (fun _ _ d _ _ h => by cases d <;> exact h) ?_
 have hC : Below w2.heap.size w2 w2 := Below.refl _ _
 have zhT0 : w.heap.size < w2.heap.size := (Array.getElem?_eq_some_iff.1 hT0).1
 have zhT1 : w.heap.size + 1 < w2.heap.size := (Array.getElem?_eq_some_iff.1 hT1).1
 repeat (first | (refine wpPlanA_skip _ rfl (by rfl) ?_; simp only [Act.put, List.setIfInBounds_toArray, List.set_cons_zero, List.set_cons_succ]) | (refine wpPlanA_soft _ ?_ rfl (by rfl) ?_ ?_; rotate_left; (intro wq hq hcq; go_simp; first | exact rfl | exact ⟨rfl, rfl⟩); simp only [Act.put, List.setIfInBounds_toArray, List.set_cons_zero, List.set_cons_succ]))
 refine wpPlanA_hard _ rfl (by rfl) (fun w3 hS K hK => ?_)
 have hB3 := hB2.call hS rfl
 replace hC := hC.call hS rfl
 replace hT0 := blkb hT0 hS
 replace hT1 := blkb hT1 hS
 replace H := H.below hS
 replace HP := HP.below hS
 replace hst := hst.below hS
 clear hS hB2
 go_simp
 refine (c99 c r A n cap l un len most _ np capp a b hole _ g hc hr hu ha hb0 H hst).mono ?_
 rintro e w4 ⟨vd, rfl, hown0, hb⟩
 have HSZ : Hid (w.heap.size ≤ w3.heap.size) := Lib.hid hB3.size
 have hown : Own w4 w3.heap.size vd n (encI (dlL c l un len most a b hole)) := hown0
 clear hown0
 have hB4 := hB3.call hb rfl
 replace hC := hC.call hb rfl
 replace hT0 := blkb hT0 hb
 replace hT1 := blkb hT1 hb
 replace H := H.below hb
 replace HP := HP.below hb
 replace hst := hst.below hb
 clear hb hB3
 refine hK _ _ hC ?_
 clear hK K
 try simp only [Act.put, List.setIfInBounds_toArray, List.set_cons_zero, List.set_cons_succ]
 repeat (first | (refine wpPlanA_skip _ rfl (by rfl) ?_; simp only [Act.put, List.setIfInBounds_toArray, List.set_cons_zero, List.set_cons_succ]) | (refine wpPlanA_soft _ ?_ rfl (by rfl) ?_ ?_; rotate_left; (intro wq hq hcq; go_simp; first | exact rfl | exact ⟨rfl, rfl⟩); simp only [Act.put, List.setIfInBounds_toArray, List.set_cons_zero, List.set_cons_succ]))
 clear qhT0_0 qhT0_1 qhT0_2 qhT1_0 qhT1_1 qhT1_2 qhT1_3
 refine wpPlanA_nil (fun w5 hS => ?_)
 clear hC zhT0 zhT1
 have hB5 := hB4.call hS rfl
 replace hT0 := blkb hT0 hS
 replace hT1 := blkb hT1 hS
 replace H := H.below hS
 replace HP := HP.below hS
 replace hst := hst.below hS
 replace hown := hown.below hS
 clear hS hB4
 have qhT0_0 : w5.cell? ⟨w.heap.size, 0, none⟩ = some (.int .i64 c) := cell_at hT0 rfl
 have qhT0_1 : w5.cell? ⟨w.heap.size, 1, none⟩ = some (.int .i64 r) := cell_at hT0 rfl
 have qhT0_2 : w5.cell? ⟨w.heap.size, 2, none⟩ = some (.slice A n cap) := cell_at hT0 rfl
 have qhT1_0 : w5.cell? ⟨w.heap.size + 1, 0, none⟩ = some (.int .i64 un) := cell_at hT1 rfl
 have qhT1_1 : w5.cell? ⟨w.heap.size + 1, 1, none⟩ = some (.int .i64 len) := cell_at hT1 rfl
 have qhT1_2 : w5.cell? ⟨w.heap.size + 1, 2, none⟩ = some (.int .i64 most) := cell_at hT1 rfl
 have qhT1_3 : w5.cell? ⟨w.heap.size + 1, 3, none⟩ = some (.slice (some ⟨pb, po, none⟩) np capp) := cell_at hT1 rfl
 have HO := Lib.hid (own_lower hown HSZ.out)
 clear hown
 go_wp2
 go_ret2
 exact ⟨vd, rfl, HO.out, hB5⟩
end Go.Proofs.YtdimmlljjmmdbaaGreatDoor
/- Plain laws of chapter 07: unit models and unit traces; the image as a sum of those of unit traces. -/
namespace Im
theorem zeros_at (n k : Nat) : at0 (List.replicate n 0) k = 0 := by
 unfold at0
 rw [List.getD_eq_getElem?_getD, List.getElem?_replicate]
 split <;> rfl
theorem imgFold_at {out ds tr : List Int} {k : Nat} (h : ds.length = out.length) (hk : k < out.length) : at0 (imgFold out ds tr) k = at0 out k + pick tr (at0 ds k) := by
 simp [imgFold, at0, List.getD_eq_getElem?_getD, h, hk]
theorem ext_at {x y : List Int} (hl : x.length = y.length) (h : ∀ i, i < x.length → at0 x i = at0 y i) : x = y := by
 apply List.ext_getElem hl
 intro i h1 h2
 have := h i h1
 unfold at0 at this
 rw [List.getD_eq_getElem?_getD, List.getD_eq_getElem?_getD, List.getElem?_eq_getElem h1, List.getElem?_eq_getElem h2] at this
 exact this
theorem at0_setk {x : List Int} {k i : Nat} {v : Int} (hk : k < x.length) : at0 (x.set k v) i = if i = k then v else at0 x i := by
 unfold at0
 rw [List.getD_eq_getElem?_getD, List.getElem?_set, List.getD_eq_getElem?_getD]
 by_cases h : k = i
 ·subst h; simp [hk]
 ·simp [h, Ne.symm h]
/-- the image by the first i pairs -/
def imgN (n : Nat) (dss data : List (List Int)) (i : Nat) : List Int := ((List.zip dss data).take i).foldl (fun out x => imgFold out x.1 x.2) (List.replicate n 0)
theorem imgN_zero (n : Nat) (dss data : List (List Int)) : imgN n dss data 0 = List.replicate n 0 := rfl
theorem imgN_full {n : Nat} {dss data : List (List Int)} (h : dss.length = data.length) : imgN n dss data dss.length = image n dss data := by
 unfold imgN image
 rw [List.take_of_length_le (by simp; omega)]
theorem imgN_succ {n : Nat} {dss data : List (List Int)} {i : Nat} (h1 : i < dss.length) (h2 : i < data.length) : imgN n dss data (i + 1) = imgFold (imgN n dss data i) (dss.getD i []) (data.getD i []) := by
 unfold imgN
 have h3 : i < (List.zip dss data).length := by simp; omega
 rw [List.take_succ_eq_append_getElem h3, List.foldl_append]
 simp [List.getD_eq_getElem?_getD, h1, h2]
theorem imgN_len {n : Nat} {dss data : List (List Int)} (hn : ∀ ds, ds ∈ dss → ds.length = n) (i : Nat) : (imgN n dss data i).length = n := by
 unfold imgN
 rw [image_fold_len]
 ·simp
 ·intro x hx
  have := List.mem_of_mem_take hx
  rw [hn x.1 (List.of_mem_zip (a := x.1) (b := x.2) this).1]; simp
theorem pick_le {tr : List Int} {B : Int} (h0 : 0 ≤ B) (h : ∀ x, x ∈ tr → -B ≤ x ∧ x ≤ B) (d : Int) : -B ≤ pick tr d ∧ pick tr d ≤ B := by
 unfold pick
 split
 ·unfold at0
  rw [List.getD_eq_getElem?_getD]
  cases hh : tr[d.toNat]? with
  | none => simp; omega
  | some v => simpa using h v (List.mem_of_getElem? hh)
 ·omega
theorem imgN_le {n : Nat} {dss data : List (List Int)} {B : Int} (h0 : 0 ≤ B) (hn : ∀ ds, ds ∈ dss → ds.length = n) (hd : ∀ tr, tr ∈ data → ∀ x, x ∈ tr → -B ≤ x ∧ x ≤ B) (hl : dss.length = data.length) : ∀ i, i ≤ dss.length → ∀ k, k < n → -(i * B) ≤ at0 (imgN n dss data i) k ∧ at0 (imgN n dss data i) k ≤ i * B := by
 intro i
 induction i with
 | zero => intro _ k _; rw [imgN_zero, zeros_at]; simp
 | succ i ih =>
  intro hi k hk
  have h1 : i < dss.length := by omega
  have h2 : i < data.length := by omega
  have hdl : (dss.getD i []).length = (imgN n dss data i).length := by
   rw [imgN_len hn, List.getD_eq_getElem?_getD, List.getElem?_eq_getElem h1]; exact hn _ (List.getElem_mem h1)
  rw [imgN_succ h1 h2, imgFold_at hdl (by rw [imgN_len hn]; exact hk)]
  have := ih (by omega) k hk
  have hp := pick_le (tr := data.getD i []) h0 (fun x hx => by
   rw [List.getD_eq_getElem?_getD, List.getElem?_eq_getElem h2] at hx; exact hd _ (List.getElem_mem h2) x hx) (at0 (dss.getD i []) k)
  have e : ((i + 1 : Nat) : Int) * B = (i : Int) * B + B := by rw [Int.natCast_add, Int.add_mul]; simp
  rw [e]
  omega
end Im
/- Plain laws of chapter 07: the operator and the image over all pairs are adjoint; misfits and bounds. -/
namespace Im
/-- the shape of valid traces: holes are empty, others have the length; delays of holes are -1 -/
def Fits (len n : Nat) : List (Bool × List Int) → List (List Int) → Prop
 | [], [] => True
 | p :: ps, tr :: data => p.2.length = n ∧ (if p.1 = true then tr = [] ∧ ∀ d, d ∈ p.2 → d = -1 else tr.length = len ∧ ∀ d, d ∈ p.2 → d < (len : Int)) ∧ Fits len n ps data
 | _, _ => False
theorem traces_fits_len {len n : Nat} {m : List Int} : ∀ {ps : List (Bool × List Int)} {data : List (List Int)}, Fits len n ps data → Fits len n ps (traces len ps m)
 | [], [], _ => trivial
 | p :: ps, tr :: data, ⟨h1, h2, h3⟩ => by
  refine ⟨h1, ?_, traces_fits_len h3⟩
  cases hp : p.1
  ·rw [hp] at h2
   simp only [Bool.false_eq_true, if_false] at h2 ⊢
   refine ⟨?_, h2.2⟩
   rw [hp, if_neg (by simp)]; exact trace_len _ _ _
  ·rw [hp] at h2
   simp only [if_true] at h2 ⊢
   refine ⟨?_, h2.2⟩
   rw [hp, if_pos rfl]
 | [], _ :: _, h => h.elim
 | _ :: _, [], h => h.elim
theorem flat_len {len n : Nat} : ∀ {ps : List (Bool × List Int)} {a b : List (List Int)}, Fits len n ps a → Fits len n ps b → a.flatten.length = b.flatten.length
 | [], [], [], _, _ => rfl
 | p :: ps, x :: a, y :: b, ⟨_, h2, h3⟩, ⟨_, k2, k3⟩ => by
  have ih := flat_len h3 k3
  cases hp : p.1
  ·rw [hp] at h2 k2
   simp only [Bool.false_eq_true, if_false] at h2 k2
   simp only [List.flatten_cons, List.length_append, ih, h2.1, k2.1]
  ·rw [hp] at h2 k2
   simp only [if_true] at h2 k2
   simp only [List.flatten_cons, List.length_append, ih, h2.1, k2.1]
 | [], _ :: _, _, h, _ => h.elim
 | _ :: _, [], _, h, _ => h.elim
 | [], _, _ :: _, _, h => h.elim
 | _ :: _, _, [], _, h => h.elim
/-- the sum of squared differences -/
def misfit : List Int → List Int → Int
 | a :: l, b :: m => (a - b) * (a - b) + misfit l m
 | _, _ => 0
theorem sq_nonneg' (x : Int) : 0 ≤ x * x := by
 rcases Int.le_total 0 x with h | h
 ·exact Int.mul_nonneg h h
 ·exact Int.mul_nonneg_of_nonpos_of_nonpos h h
end Im
namespace Go.Proofs.YtdimmlljjmmdbaaGreatDoor
open Go.RowKit
set_option maxHeartbeats 4000000
set_option maxRecDepth 20000
/-- a list of lists of integers at A -/
def RdD (w : World) (A : Option Addr) (n : Nat) (d : List (List Int)) : Prop :=
 ∃ hs : List Value, RdS w 1 A n hs ∧ d.length = n ∧ ∀ (k : Nat) (x : List Int), d[k]? = some x → ∃ a cap, hs[k]? = some (.slice a x.length cap) ∧ RdI w a x.length x
theorem RdD.below {w w' : World} {A : Option Addr} {n : Nat} {d : List (List Int)} (h : RdD w A n d) (hb : Below w.heap.size w w') : RdD w' A n d := by
 obtain ⟨hs, h1, h2, h3⟩ := h
 exact ⟨hs, h1.below hb, h2, fun k x hx => by obtain ⟨a, cap, e, hr⟩ := h3 k x hx; exact ⟨a, cap, e, hr.below hb⟩⟩
theorem RdD.len {w : World} {A : Option Addr} {n : Nat} {d : List (List Int)} (h : RdD w A n d) : d.length = n := by obtain ⟨_, _, h2, _⟩ := h; exact h2
theorem RdD.at {w : World} {A : Option Addr} {n : Nat} {d : List (List Int)} (h : RdD w A n d) {k : Nat} (hk : k < n) :
  ∃ b off x a cap, A = some ⟨b, off, none⟩ ∧ d[k]? = some x ∧ b < w.heap.size ∧ w.cell? ⟨b, off + k, none⟩ = some (.slice a x.length cap) ∧ RdI w a x.length x := by
 obtain ⟨hs, h1, h2, h3⟩ := h
 obtain ⟨b, off, hA, hb, hc⟩ := RdS.at h1 hk
 have hx : k < d.length := by omega
 obtain ⟨a, cap, e, hr⟩ := h3 k d[k] (List.getElem?_eq_getElem hx)
 have h0 := hc 0 (by omega)
 rw [Nat.mul_one, Nat.add_zero, e] at h0
 exact ⟨b, off, d[k], a, cap, hA, List.getElem?_eq_getElem hx, hb, h0, hr⟩
namespace Mo
/-- the shape of traces -/
def okT (len : Int) (p : Pr) (x : List Int) : Prop := if p.h = true then x.length = 0 else (x.length : Int) = len
def Shp (len : Int) (ps : List Pr) (d : List (List Int)) : Prop := ∀ (j : Nat) (p : Pr) (x : List Int), ps[j]? = some p → d[j]? = some x → okT len p x
open Classical in
/-- what is wrong with traces -/
noncomputable def dat (len : Int) (ps : List Pr) (d : List (List Int)) : Int := if d.length = ps.length ∧ Shp len ps d then first (d.map fun x => allw x (-1048576) 1048576) else 2
theorem dat_len {len : Int} {ps : List Pr} {d : List (List Int)} (h : d.length ≠ ps.length) : dat len ps d = 2 := by unfold dat; rw [if_neg (fun hh => h hh.1)]
theorem dat_bad {len : Int} {ps : List Pr} {d : List (List Int)} {j : Nat} {p : Pr} {x : List Int} (hp : ps[j]? = some p) (hx : d[j]? = some x) (h : ¬ okT len p x) : dat len ps d = 2 := by unfold dat; rw [if_neg (fun hh => h (hh.2 j p x hp hx))]
theorem dat_ok {len : Int} {ps : List Pr} {d : List (List Int)} (h : d.length = ps.length) (hs : Shp len ps d) : dat len ps d = first (d.map fun x => allw x (-1048576) 1048576) := by unfold dat; rw [if_pos ⟨h, hs⟩]
theorem dat_zero {len : Int} {ps : List Pr} {d : List (List Int)} (h : dat len ps d = 0) : d.length = ps.length ∧ Shp len ps d ∧ ∀ x, x ∈ d → ∀ y, y ∈ x → -1048576 ≤ y ∧ y ≤ 1048576 := by
 unfold dat at h
 by_cases hh : d.length = ps.length ∧ Shp len ps d
 ·rw [if_pos hh] at h
  refine ⟨hh.1, hh.2, fun x hx y hy => ?_⟩
  have h1 := first_zero h (allw x (-1048576) 1048576) (List.mem_map.2 ⟨x, hx, rfl⟩)
  have := allw_ok.1 h1 y hy
  omega
 ·rw [if_neg hh] at h; cases h
end Mo
theorem c142 (A : Option Addr) (n cap : Nat) (l : List (List Int)) (f : List Int → Int) (w : World) (hl : n ≤ 1000000) (H : RdD w A n l)
  (hcl : ∀ (W : World) (x : List Int) (a : Option Addr) (xc : Nat), x ∈ l → Below w.heap.size w W → RdI W a x.length x →
   Calls Tryz.prog 143 #[.slice a x.length xc] W fun e w' => e = .returned (Value.int .i64 (f x)) ∧ Below W.heap.size W w') :
  Calls Tryz.prog 142 #[.slice A n cap, .func (.func 143) #[] #[]] w fun en w' => ∃ A' cap', en = .returned (.slice A' n cap') ∧ RdI w' A' n (l.map f) ∧ Below w.heap.size w w' := by
 have Hn := Lib.hid H.len
 have Hcl := Lib.hid hcl
 have hmm : encI (l.map f) = l.map fun x => Value.int .i64 (f x) := by simp [encI]
 have Hm := Lib.hid hmm
 clear hcl hmm
 obtain ⟨i0, hi, hz0, hz1, hz2⟩ := info_parts info32
 go_enter Tryz.func142, Tryz.ntmps142
 go_wp2
 go_loopw [5, 10] (fun x i wr => ∃ k : Nat, k ≤ n ∧ i = .int .i64 k ∧ wr.ownsRow w.heap.size 32 1 x k ((l.map fun x => Value.int .i64 (f x)).take k) ∧ Below w.heap.size w wr) (fun _ i _ => n - (intOf i).toNat)
 case atStart => exact ⟨0, Nat.zero_le _, rfl, World.ownsRow_nil _ _ _ _, Below.refl _ _⟩
 case round =>
  obtain ⟨k, hk, rfl, hown, hB⟩ := hrel
  by_cases hlt : k < n
  ·obtain ⟨b, off, x, xa, xc, rfl, hx, hb, h0, hrx⟩ := (H.below hB).at hlt
   have Hx := Lib.hid hx
   have htk : (l.map fun x => Value.int .i64 (f x)).take (k + 1) = (l.map fun x => Value.int .i64 (f x)).take k ++ [Value.int .i64 (f x)] := by rw [List.take_succ, List.getElem?_map, hx]; simp
   have HTK := Lib.hid htk
   clear hx htk
   go_wp2_with fail
   refine (Hcl.out _ x xa xc (List.mem_of_getElem? Hx.out) hB hrx).mono ?_
   rintro e w2 ⟨rfl, hb2⟩
   have hown2 := own_below hown hb2
   have hB2 := fin0 hB hb2
   have hsz := hB2.size
   go_wp2_with (at_builtin; refine wpList_append_own _ rfl _ _ 152 rfl w.heap.size 32 i0 (.int .i64 0) 1 8 Tryz.underlying152 hi hz0 hz1 hz2 rfl (by decide) _ _ _ rfl (hown2.alloc _) ⟨w2.heap.size, 0, none⟩ 1 1 [Value.int .i64 (f x)] rfl rfl ?c1 ?c2 ?c3 ?c4 ?c5 ?_)
   case c1 => exact news_one _ _ rfl
   case c2 => intro x hx; simp at hx; subst hx; rfl
   case c3 => unfold maxLen; omega
   case c4 => omega
   case c5 => simp; omega
   intro x' w3 hown3 hg3 _
   have hB3 : Below w.heap.size w w3 := (hB2.alloc hsz _).grown hg3 (by simp; omega) (fun g hg => (hown2.lt g hg).1)
   rw [← HTK.out] at hown3
   have HO := Lib.hid hown3
   clear hown3 hg3 hown2 hown
   go_wp2
   go_roundw
   case rel => exact ⟨k + 1, by omega, by go_num, HO.out, hB3⟩
   case measure => simp [intOf]; omega
  ·obtain rfl : n = k := by omega
   rw [List.take_of_length_le (by rw [List.length_map, Hn.out]; exact Nat.le_refl _)] at hown
   have HO := Lib.hid hown
   clear hown
   go_wp2
   go_ret
   obtain ⟨A', cap', rfl, hr⟩ := Sl.of_own HO.out
   exact ⟨A', cap', rfl, by unfold RdI; rw [Hm.out]; exact hr, hB⟩
theorem c143 (A : Option Addr) (n cap : Nat) (l : List Int) (w : World) (hl : n ≤ 1000000) (H : RdI w A n l) :
  Calls Tryz.prog 143 #[.slice A n cap] w fun en w' => en = .returned (.int .i64 (Mo.allw l (-1048576) 1048576)) ∧ Below w.heap.size w w' := by
 go_enter Tryz.func143, Tryz.ntmps143
 obtain ⟨w0, hw0⟩ : ∃ W, W = w := ⟨_, rfl⟩
 subst hw0
 have hB0 : Below w0.heap.size w0 w0 := Below.refl _ _
 go_wp2_with fail
 go_wp2_with fail
 refine (c113 A n cap l _ _ _ hl H).mono ?_
 rintro e w1 ⟨rfl, hb⟩
 have hS := hb
 have hB1 := hB0.call hS rfl
 replace H := H.below hS
 clear hS hB0
 clear hb
 go_wp2
 go_ret
 exact ⟨rfl, hB1⟩
theorem c101_ne (un len most : Int) (P : Option Addr) (np capp : Nat) (ps : List Pr) (D : Option Addr) (m capd : Nat) (d : List (List Int)) (w : World) (hmm : ¬ m = np) (hp : np ≤ 1000000) (hd : m ≤ 1000000) (hdl : ∀ x, x ∈ d → x.length ≤ 1000000) (HP : RdP w P np ps) (HD : RdD w D m d) :
  Calls Tryz.prog 101 #[.agg #[.int .i64 un, .int .i64 len, .int .i64 most, .slice P np capp], .slice D m capd] w fun en w' => en = .returned (.int .i64 (Mo.dat len ps d)) ∧ Below w.heap.size w w' := by
 have HPL := Lib.hid HP.len
 have HDL := Lib.hid HD.len
 have Hdl := Lib.hid hdl
 clear hdl
 obtain ⟨V, hV⟩ : ∃ V, V = Mo.dat len ps d := ⟨_, rfl⟩
 rw [← hV]
 have HV := Lib.hid hV
 clear hV
 have hne : ((m : Int) != (np : Int)) = true := by simp; omega
 have HV2 : Hid (V = 2) := Lib.hid (by rw [HV.out]; exact Mo.dat_len (by rw [HPL.out, HDL.out]; exact hmm))
 clear hmm
 obtain ⟨w0, hW⟩ : ∃ W, W = w.alloc (Obj.cells #[.int .i64 un, .int .i64 len, .int .i64 most, .slice P np capp] 39) := ⟨_, rfl⟩
 have hT0 : w0.heap[w.heap.size]? = some (.cells #[.int .i64 un, .int .i64 len, .int .i64 most, .slice P np capp] 39 (0, 0)) := by rw [hW]; exact heap_new (by simp)
 have hB0 : Below w.heap.size w w0 := by rw [hW]; exact ((Below.refl _ _).alloc (by first | omega | (simp <;> omega)) _)
 replace HP := HP.below hB0
 replace HD := HD.below hB0
 go_enter Tryz.func101, Tryz.ntmps101
 go_wp2_with fail
 rw [← hW]
 clear hW
 have qhT0_0 : w0.cell? ⟨w.heap.size, 0, none⟩ = some (.int .i64 un) := cell_at hT0 rfl
 have qhT0_1 : w0.cell? ⟨w.heap.size, 1, none⟩ = some (.int .i64 len) := cell_at hT0 rfl
 have qhT0_2 : w0.cell? ⟨w.heap.size, 2, none⟩ = some (.int .i64 most) := cell_at hT0 rfl
 have qhT0_3 : w0.cell? ⟨w.heap.size, 3, none⟩ = some (.slice P np capp) := cell_at hT0 rfl
 go_wp2
 go_ret
 exact ⟨ret_int HV2.out.symm, hB0⟩
theorem c101_eq (un len most : Int) (P : Option Addr) (m capp : Nat) (ps : List Pr) (D : Option Addr) (capd : Nat) (d : List (List Int)) (w : World) (hd : m ≤ 1000000) (hdl : ∀ x, x ∈ d → x.length ≤ 1000000) (HP : RdP w P m ps) (HD : RdD w D m d) :
  Calls Tryz.prog 101 #[.agg #[.int .i64 un, .int .i64 len, .int .i64 most, .slice P m capp], .slice D m capd] w fun en w' => en = .returned (.int .i64 (Mo.dat len ps d)) ∧ Below w.heap.size w w' := by
 have HPL := Lib.hid HP.len
 have HDL := Lib.hid HD.len
 have Hdl := Lib.hid hdl
 clear hdl
 obtain ⟨V, hV⟩ : ∃ V, V = Mo.dat len ps d := ⟨_, rfl⟩
 rw [← hV]
 have HV := Lib.hid hV
 clear hV
 have hne : ((m : Int) != (m : Int)) = false := by simp
 obtain ⟨w0, hW⟩ : ∃ W, W = w.alloc (Obj.cells #[.int .i64 un, .int .i64 len, .int .i64 most, .slice P m capp] 39) := ⟨_, rfl⟩
 have hT0 : w0.heap[w.heap.size]? = some (.cells #[.int .i64 un, .int .i64 len, .int .i64 most, .slice P m capp] 39 (0, 0)) := by rw [hW]; exact heap_new (by simp)
 have hB0 : Below w.heap.size w w0 := by rw [hW]; exact ((Below.refl _ _).alloc (by first | omega | (simp <;> omega)) _)
 replace HP := HP.below hB0
 replace HD := HD.below hB0
 go_enter Tryz.func101, Tryz.ntmps101
 go_wp2_with fail
 rw [← hW]
 clear hW
 have qhT0_0 : w0.cell? ⟨w.heap.size, 0, none⟩ = some (.int .i64 un) := cell_at hT0 rfl
 have qhT0_1 : w0.cell? ⟨w.heap.size, 1, none⟩ = some (.int .i64 len) := cell_at hT0 rfl
 have qhT0_2 : w0.cell? ⟨w.heap.size, 2, none⟩ = some (.int .i64 most) := cell_at hT0 rfl
 have qhT0_3 : w0.cell? ⟨w.heap.size, 3, none⟩ = some (.slice P m capp) := cell_at hT0 rfl
 have hst0 : Hid (∀ (j : Nat) (p : Pr) (x : List Int), j < 0 → ps[j]? = some p → d[j]? = some x → Mo.okT len p x) := Lib.hid (fun j _ _ h => absurd h (Nat.not_lt_zero j))
 go_loopw [15] (fun i wr => ∃ k : Nat, k ≤ m ∧ i = .int .i64 k ∧ Hid (∀ (j : Nat) (p : Pr) (x : List Int), j < k → ps[j]? = some p → d[j]? = some x → Mo.okT len p x) ∧ Below w0.heap.size w0 wr) (fun i _ => m - (intOf i).toNat)
 case atStart => exact ⟨0, Nat.zero_le _, rfl, hst0, Below.refl _ _⟩
 case round =>
  clear hst0
  obtain ⟨k, hk, rfl, HC, hbr⟩ := hrel
  obtain ⟨w1, hww⟩ : ∃ W, W = wr := ⟨_, rfl⟩
  subst hww
  have hB1 := hB0.call hbr rfl
  replace hT0 := blkb hT0 hbr
  replace HP := HP.below hbr
  replace HD := HD.below hbr
  clear hB0
  have qhT0_0 : w1.cell? ⟨w.heap.size, 0, none⟩ = some (.int .i64 un) := cell_at hT0 rfl
  have qhT0_1 : w1.cell? ⟨w.heap.size, 1, none⟩ = some (.int .i64 len) := cell_at hT0 rfl
  have qhT0_2 : w1.cell? ⟨w.heap.size, 2, none⟩ = some (.int .i64 most) := cell_at hT0 rfl
  have qhT0_3 : w1.cell? ⟨w.heap.size, 3, none⟩ = some (.slice P m capp) := cell_at hT0 rfl
  have hwk : IntKind.i64.wrap ((k : Int) + 1) = ((k + 1 : Nat) : Int) := by rw [wrapI (by omega)]; simp
  by_cases hlt : k < m
  rotate_left
  ·
    obtain rfl : m = k := by omega
    have HVF : Hid (V = Mo.first (d.map fun x => Mo.allw x (-1048576) 1048576)) := Lib.hid (by
     rw [HV.out]
     refine Mo.dat_ok (by rw [HPL.out, HDL.out]) (fun j p x hp hx => HC.out j p x ?_ hp hx)
     have : j < d.length := by
      by_cases h : j < d.length
      ·exact h
      ·rw [List.getElem?_eq_none (by omega)] at hx; cases hx
     rw [HDL.out] at this; exact this)
    go_wp2_with fail
    refine (c142 D m capd d (fun x => Mo.allw x (-1048576) 1048576) _ hd HD (fun W x a xc hx _ hrx => c143 a x.length xc x W (Hdl.out x hx) hrx)).mono ?_
    rintro e w2 ⟨A1, cap1, rfl, hr1, hb⟩
    clear qhT0_0 qhT0_1 qhT0_2 qhT0_3
    have hS := hb
    have hB2 := hB1.call hS rfl
    replace hT0 := blkb hT0 hS
    replace HP := HP.below hS
    replace HD := HD.below hS
    replace hbr := hbr.call hS rfl
    clear hS hB1
    have qhT0_0 : w2.cell? ⟨w.heap.size, 0, none⟩ = some (.int .i64 un) := cell_at hT0 rfl
    have qhT0_1 : w2.cell? ⟨w.heap.size, 1, none⟩ = some (.int .i64 len) := cell_at hT0 rfl
    have qhT0_2 : w2.cell? ⟨w.heap.size, 2, none⟩ = some (.int .i64 most) := cell_at hT0 rfl
    have qhT0_3 : w2.cell? ⟨w.heap.size, 3, none⟩ = some (.slice P m capp) := cell_at hT0 rfl
    clear hb
    go_wp2_with fail
    refine (c89 A1 m cap1 _ _ hr1.len hd hr1).mono ?_
    rintro e w' ⟨rfl, rfl⟩
    go_wp2
    go_ret
    exact ⟨ret_int HVF.out.symm, hB2⟩
  have hkm2 : (k : Int) < (m : Int) := by omega
  have hk02 : (0 : Int) ≤ (k : Int) := by omega
  obtain ⟨db, doff, x, xa, xc, rfl, hx, hdb, hdc, hrx⟩ := HD.at hlt
  obtain ⟨pb, poff, p, rfl, hpx, hpb, hp0, hp1, hp2⟩ := HP.at hlt
  obtain ⟨p0, p1, ph⟩ := p
  have HX := Lib.hid hx
  have HPX := Lib.hid hpx
  clear hx hpx hrx hp0 hp1
  have HN := Lib.hid hbr
  clear hbr
  cases ph
  ·
    by_cases hxl : (x.length : Int) = len
    ·
      have hx1 : ((x.length : Int) != len) = false := by simp [hxl]
      have HXL := Lib.hid hxl
      clear hxl
      have HC2 : Hid (∀ (j : Nat) (p : Pr) (y : List Int), j < k + 1 → ps[j]? = some p → d[j]? = some y → Mo.okT len p y) := Lib.hid (fun j p y hj hp hy => by
       by_cases h : j = k
       ·subst h
        rw [HX.out] at hy; rw [HPX.out] at hp
        cases hy; cases hp
        simp [Mo.okT]; exact HXL.out
       ·exact HC.out j p y (by omega) hp hy)
      go_wp2
      go_roundw
      case rel => exact ⟨k + 1, by omega, rfl, HC2, HN.out⟩
      case measure => simp [intOf]; omega
    ·
      have hx1 : ((x.length : Int) != len) = true := by simpa using hxl
      have HXL := Lib.hid hxl
      clear hxl
      have HV2 : Hid (V = 2) := Lib.hid (by rw [HV.out]; exact Mo.dat_bad HPX.out HX.out (by simp [Mo.okT]; exact HXL.out))
      go_wp2
      go_ret
      exact ⟨ret_int HV2.out.symm, hB1⟩
  ·
    by_cases hxl : x.length = 0
    ·
      have hx1 : decide (0 < x.length) = false := decide_eq_false (by omega)
      have HXL := Lib.hid hxl
      clear hxl
      have HC2 : Hid (∀ (j : Nat) (p : Pr) (y : List Int), j < k + 1 → ps[j]? = some p → d[j]? = some y → Mo.okT len p y) := Lib.hid (fun j p y hj hp hy => by
       by_cases h : j = k
       ·subst h
        rw [HX.out] at hy; rw [HPX.out] at hp
        cases hy; cases hp
        simp only [Mo.okT, if_true]; exact HXL.out
       ·exact HC.out j p y (by omega) hp hy)
      go_wp2
      go_roundw
      case rel => exact ⟨k + 1, by omega, rfl, HC2, HN.out⟩
      case measure => simp [intOf]; omega
    ·
      have hx1 : decide (0 < x.length) = true := decide_eq_true (by omega)
      have HXL := Lib.hid hxl
      clear hxl
      have HV2 : Hid (V = 2) := Lib.hid (by rw [HV.out]; exact Mo.dat_bad HPX.out HX.out (by simp only [Mo.okT, if_true]; exact HXL.out))
      go_wp2
      go_ret
      exact ⟨ret_int HV2.out.symm, hB1⟩
theorem c101 (un len most : Int) (P : Option Addr) (np capp : Nat) (ps : List Pr) (D : Option Addr) (m capd : Nat) (d : List (List Int)) (w : World) (hp : np ≤ 1000000) (hd : m ≤ 1000000) (hdl : ∀ x, x ∈ d → x.length ≤ 1000000) (HP : RdP w P np ps) (HD : RdD w D m d) : Calls Tryz.prog 101 #[.agg #[.int .i64 un, .int .i64 len, .int .i64 most, .slice P np capp], .slice D m capd] w fun en w' => en = .returned (.int .i64 (Mo.dat len ps d)) ∧ Below w.heap.size w w' := by
 by_cases hmm : m = np
 ·subst hmm
  exact c101_eq un len most P m capp ps D capd d w hd hdl HP HD
 ·exact c101_ne un len most P np capp ps D m capd d w hmm hp hd hdl HP HD
theorem c102 (c r : Int) (A : Option Addr) (n cap : Nat) (l : List Int) (un len most : Int) (P : Option Addr) (np capp : Nat) (ps : List Pr) (D : Option Addr) (m capd : Nat) (d : List (List Int)) (w : World) (hl : n ≤ 1000000) (hp : np ≤ 1000000) (hd : m ≤ 1000000) (hdl : ∀ x, x ∈ d → x.length ≤ 1000000) (HP : RdP w P np ps) (HD : RdD w D m d) (H : RdI w A n l) :
  Calls Tryz.prog 102 #[.agg #[.int .i64 c, .int .i64 r, .slice A n cap], .agg #[.int .i64 un, .int .i64 len, .int .i64 most, .slice P np capp], .slice D m capd] w fun en w' => en = .returned (.int .i64 (Mo.first [Mo.surv c r l un len most ps, Mo.dat len ps d])) ∧ Below w.heap.size w w' := by
 obtain ⟨w0, hW⟩ : ∃ W, W = (w.alloc (Obj.cells #[.int .i64 c, .int .i64 r, .slice A n cap] 35)).alloc (Obj.cells #[.int .i64 un, .int .i64 len, .int .i64 most, .slice P np capp] 39) := ⟨_, rfl⟩
 have hT0 : w0.heap[w.heap.size]? = some (.cells #[.int .i64 c, .int .i64 r, .slice A n cap] 35 (0, 0)) := by rw [hW]; exact heap_old (by simp <;> omega) (heap_new (by simp))
 have hT1 : w0.heap[w.heap.size + 1]? = some (.cells #[.int .i64 un, .int .i64 len, .int .i64 most, .slice P np capp] 39 (0, 0)) := by rw [hW]; exact heap_new (by simp)
 have hB0 : Below w.heap.size w w0 := by rw [hW]; exact (((Below.refl _ _).alloc (by first | omega | (simp <;> omega)) _).alloc (by first | omega | (simp <;> omega)) _)
 replace H := H.below hB0
 replace HP := HP.below hB0
 replace HD := HD.below hB0
 go_enter Tryz.func102, Tryz.ntmps102
 go_wp2_with fail
 rw [← hW]
 clear hW
 have qhT0_0 : w0.cell? ⟨w.heap.size, 0, none⟩ = some (.int .i64 c) := cell_at hT0 rfl
 have qhT0_1 : w0.cell? ⟨w.heap.size, 1, none⟩ = some (.int .i64 r) := cell_at hT0 rfl
 have qhT0_2 : w0.cell? ⟨w.heap.size, 2, none⟩ = some (.slice A n cap) := cell_at hT0 rfl
 have qhT1_0 : w0.cell? ⟨w.heap.size + 1, 0, none⟩ = some (.int .i64 un) := cell_at hT1 rfl
 have qhT1_1 : w0.cell? ⟨w.heap.size + 1, 1, none⟩ = some (.int .i64 len) := cell_at hT1 rfl
 have qhT1_2 : w0.cell? ⟨w.heap.size + 1, 2, none⟩ = some (.int .i64 most) := cell_at hT1 rfl
 have qhT1_3 : w0.cell? ⟨w.heap.size + 1, 3, none⟩ = some (.slice P np capp) := cell_at hT1 rfl
 refine wp_region_plan [(0, true), (1, true), (3, true), (4, true), (2, false), (5, false), (6, false), (7, false), (8, true)] w0.heap.size (by kernel_rfl) (by kernel_rfl) (Nat.le_refl _) (fun _ _ d _ _ h => by cases d <;> exact h) ?_
 have hC : Below w0.heap.size w0 w0 := Below.refl _ _
 have zhT0 : w.heap.size < w0.heap.size := (Array.getElem?_eq_some_iff.1 hT0).1
 have zhT1 : w.heap.size + 1 < w0.heap.size := (Array.getElem?_eq_some_iff.1 hT1).1
 repeat (first | (refine wpPlanA_skip _ rfl (by rfl) ?_; simp only [Act.put, List.setIfInBounds_toArray, List.set_cons_zero, List.set_cons_succ]) | (refine wpPlanA_soft _ ?_ rfl (by rfl) ?_ ?_; rotate_left; (intro wq hq hcq; go_simp; first | exact rfl | exact ⟨rfl, rfl⟩); simp only [Act.put, List.setIfInBounds_toArray, List.set_cons_zero, List.set_cons_succ]))
 refine wpPlanA_hard _ rfl (by rfl) (fun w1 hS K hK => ?_)
 have hB1 := hB0.call hS rfl
 replace hC := hC.call hS rfl
 replace hT0 := blkb hT0 hS
 replace hT1 := blkb hT1 hS
 replace H := H.below hS
 replace HP := HP.below hS
 replace HD := HD.below hS
 clear hS hB0
 go_simp
 refine (c25 c r A n cap l un len most P np capp ps _ hl hp H HP).mono ?_
 rintro e w2 ⟨rfl, hb⟩
 have hB2 := hB1.call hb rfl
 replace hC := hC.call hb rfl
 replace hT0 := blkb hT0 hb
 replace hT1 := blkb hT1 hb
 replace H := H.below hb
 replace HP := HP.below hb
 replace HD := HD.below hb
 clear hb hB1
 refine hK _ _ hC ?_
 clear hK K
 try simp only [Act.put, List.setIfInBounds_toArray, List.set_cons_zero, List.set_cons_succ]
 refine wpPlanA_hard _ rfl (by rfl) (fun w3 hS K hK => ?_)
 have hB3 := hB2.call hS rfl
 replace hC := hC.call hS rfl
 replace hT0 := blkb hT0 hS
 replace hT1 := blkb hT1 hS
 replace H := H.below hS
 replace HP := HP.below hS
 replace HD := HD.below hS
 clear hS hB2
 go_simp
 refine (c101 un len most P np capp ps D m capd d _ hp hd hdl HP HD).mono ?_
 rintro e w4 ⟨rfl, hb⟩
 have hB4 := hB3.call hb rfl
 replace hC := hC.call hb rfl
 replace hT0 := blkb hT0 hb
 replace hT1 := blkb hT1 hb
 replace H := H.below hb
 replace HP := HP.below hb
 replace HD := HD.below hb
 clear hb hB3
 refine hK _ _ hC ?_
 clear hK K
 try simp only [Act.put, List.setIfInBounds_toArray, List.set_cons_zero, List.set_cons_succ]
 refine wpPlanA_hard _ rfl (by rfl) (fun w5 hS K hK => ?_)
 have hB5 := hB4.call hS rfl
 replace hC := hC.call hS rfl
 replace hT0 := blkb hT0 hS
 replace hT1 := blkb hT1 hS
 replace H := H.below hS
 replace HP := HP.below hS
 replace HD := HD.below hS
 clear hS hB4
 go_simp
 have hb : Below w5.heap.size w5 (w5.alloc (Obj.cells #[.int .i64 (Mo.surv c r l un len most ps), .int .i64 (Mo.dat len ps d)] 32)) := (Below.refl _ _).alloc (Nat.le_refl _) _
 have k1 : (w5.alloc (Obj.cells #[.int .i64 (Mo.surv c r l un len most ps), .int .i64 (Mo.dat len ps d)] 32)).heap[w5.heap.size]? = some (Obj.cells #[.int .i64 (Mo.surv c r l un len most ps), .int .i64 (Mo.dat len ps d)] 32) := heap_new rfl
 refine hK _ _ (hC.alloc hC.size _) ?_
 clear hK K
 replace hC := hC.call hb rfl
 have hB6 := hB5.call hb rfl
 replace hT0 := blkb hT0 hb
 replace hT1 := blkb hT1 hb
 replace H := H.below hb
 replace HP := HP.below hb
 replace HD := HD.below hb
 clear hb hB5
 generalize hWn : w5.alloc (Obj.cells #[.int .i64 (Mo.surv c r l un len most ps), .int .i64 (Mo.dat len ps d)] 32) = w6 at k1 hC hB6 hT0 hT1 H HP HD ⊢
 clear hWn
 generalize hWn : w5.heap.size = bk1 at k1 ⊢
 clear hWn
 try simp only [Act.put, List.setIfInBounds_toArray, List.set_cons_zero, List.set_cons_succ]
 refine wpPlanA_hard _ rfl (by rfl) (fun w7 hS K hK => ?_)
 have hB7 := hB6.call hS rfl
 replace hC := hC.call hS rfl
 replace hT0 := blkb hT0 hS
 replace hT1 := blkb hT1 hS
 replace H := H.below hS
 replace HP := HP.below hS
 replace HD := HD.below hS
 replace k1 := blkb k1 hS
 clear hS hB6
 go_simp
 refine (c89 _ 2 2 [Mo.surv c r l un len most ps, Mo.dat len ps d] _ rfl (by omega) (RdS.of_block (cs := encI [Mo.surv c r l un len most ps, Mo.dat len ps d]) k1 rfl)).mono ?_
 rintro e w' ⟨rfl, rfl⟩
 refine hK _ _ hC ?_
 clear hK K
 try simp only [Act.put, List.setIfInBounds_toArray, List.set_cons_zero, List.set_cons_succ]
 repeat (first | (refine wpPlanA_skip _ rfl (by rfl) ?_; simp only [Act.put, List.setIfInBounds_toArray, List.set_cons_zero, List.set_cons_succ]) | (refine wpPlanA_soft _ ?_ rfl (by rfl) ?_ ?_; rotate_left; (intro wq hq hcq; go_simp; first | exact rfl | exact ⟨rfl, rfl⟩); simp only [Act.put, List.setIfInBounds_toArray, List.set_cons_zero, List.set_cons_succ]))
 clear k1
 clear qhT0_0 qhT0_1 qhT0_2 qhT1_0 qhT1_1 qhT1_2 qhT1_3
 refine wpPlanA_nil (fun w8 hS => ?_)
 clear hC zhT0 zhT1
 have hB8 := hB7.call hS rfl
 replace hT0 := blkb hT0 hS
 replace hT1 := blkb hT1 hS
 replace H := H.below hS
 replace HP := HP.below hS
 replace HD := HD.below hS
 clear hS hB7
 have qhT0_0 : w8.cell? ⟨w.heap.size, 0, none⟩ = some (.int .i64 c) := cell_at hT0 rfl
 have qhT0_1 : w8.cell? ⟨w.heap.size, 1, none⟩ = some (.int .i64 r) := cell_at hT0 rfl
 have qhT0_2 : w8.cell? ⟨w.heap.size, 2, none⟩ = some (.slice A n cap) := cell_at hT0 rfl
 have qhT1_0 : w8.cell? ⟨w.heap.size + 1, 0, none⟩ = some (.int .i64 un) := cell_at hT1 rfl
 have qhT1_1 : w8.cell? ⟨w.heap.size + 1, 1, none⟩ = some (.int .i64 len) := cell_at hT1 rfl
 have qhT1_2 : w8.cell? ⟨w.heap.size + 1, 2, none⟩ = some (.int .i64 most) := cell_at hT1 rfl
 have qhT1_3 : w8.cell? ⟨w.heap.size + 1, 3, none⟩ = some (.slice P np capp) := cell_at hT1 rfl
 go_wp2
 go_ret
 exact ⟨rfl, hB8⟩
end Go.Proofs.YtdimmlljjmmdbaaGreatDoor
/- From the data of a survey and of traces to plain lists. -/
namespace Go.Proofs.YtdimmlljjmmdbaaGreatDoor
open Go.ChangeShapes Go.WideShapes Go.ChangeAt Go.RowKit
set_option maxHeartbeats 1000000
set_option maxRecDepth 100000
theorem LeafAll.boo {H : Type} {enc : TypeId × Value → H} {w : World} {base : Nat} {spare : Nat → Bool} {held : Bool} {t : TypeId} {ts : List TypeId} {cs : List Value} (ht : Tryz.prog.underlying t = some .bool) (h : LeafAll enc Tryz.prog w base spare held (t :: ts) cs) :
  ∃ b r, cs = .bool b :: r ∧ LeafAll enc Tryz.prog w base spare held ts r := by
 obtain ⟨c, r, rfl, ⟨n, y, hy⟩, h2⟩ := h.head
 obtain ⟨b, hb, _⟩ := DataW.trod_bool ht hy
 cases hb
 exact ⟨b, r, rfl, h2⟩
section
variable {H : Type} {enc : TypeId × Value → H} {W : World} {base : Nat} {v : Value} {d : DataW H} {p : List MemPlace}
theorem slPr {n : Nat} {y : DataW H × List MemPlace} (h : DataW.trod enc Tryz.prog W 0 (fun _ => true) true n 25 [v] = some y) : ∃ A cap l, v = .slice A (List.length l) cap ∧ RdP W A l.length l := by
 have hα : ∀ cs, LeafAll enc Tryz.prog W 0 (fun _ => true) true [3, 3, 4] cs → ∃ x : Pr, cs = Pr.enc x ∧ True := by
  intro cs hc0
  obtain ⟨x0, r0, rfl, _, hc1⟩ := hc0.int Tryz.underlying3
  obtain ⟨x1, r1, rfl, _, hc2⟩ := hc1.int Tryz.underlying3
  obtain ⟨x2, r2, rfl, hc3⟩ := LeafAll.boo Tryz.underlying4 hc2
  obtain rfl := hc3.nil
  exact ⟨⟨x0, x1, x2⟩, rfl, trivial⟩
 obtain ⟨A, cap, l, h1, h2, _⟩ := rdl_open (enc' := Pr.enc) (Q := fun _ => True) (ts := [3, 3, 4]) (size := 3) (n := 8) Tryz.underlying25 (by kernel_rfl) (by kernel_rfl) rfl (by decide) hα h
 exact ⟨A, cap, l, h1, h2⟩
theorem open_surv (hv : Value.okWide Tryz.prog W .any base 27 v) (h : DataW.Trod enc Tryz.prog W 0 (fun _ => true) true 27 v d p) : ∃ un len most P capp ps, v = .agg #[.int .i64 un, .int .i64 len, .int .i64 most, .slice P (List.length ps) capp] ∧ RdP W P ps.length ps := by
 obtain ⟨cs, rfl, hc0⟩ := leaf_arg (ts := [3, 3, 3, 25]) Tryz.underlying27 hv h (by kernel_rfl)
 obtain ⟨x0, r0, rfl, _, hc1⟩ := hc0.int Tryz.underlying3
 obtain ⟨x1, r1, rfl, _, hc2⟩ := hc1.int Tryz.underlying3
 obtain ⟨x2, r2, rfl, _, hc3⟩ := hc2.int Tryz.underlying3
 obtain ⟨x3, r3, rfl, ⟨n, y, h3⟩, hc4⟩ := hc3.head
 obtain rfl := hc4.nil
 obtain ⟨A, cap, l, rfl, hr⟩ := slPr h3
 exact ⟨x0, x1, x2, A, cap, l, rfl, hr⟩
/-- a slice: where it lies, its room, and what it holds -/
def sl3 (x : Option Addr × Nat × List Int) : List Value := [.slice x.1 x.2.2.length x.2.1]
theorem slD {n : Nat} {y : DataW H × List MemPlace} (h1 : DataW.trod enc Tryz.prog W 0 (fun _ => true) true n 31 [v] = some y) : ∃ D capd dl, v = .slice D (List.length dl) capd ∧ RdD W D dl.length dl ∧ dl.length ≤ 9223372036854775807 := by
 have hα : ∀ cs, LeafAll enc Tryz.prog W 0 (fun _ => true) true [22] cs → ∃ x : Option Addr × Nat × List Int, cs = sl3 x ∧ RdI W x.1 x.2.2.length x.2.2 := by
  intro cs hc0
  obtain ⟨x0, r0, rfl, ⟨n, y, h3⟩, hc1⟩ := hc0.head
  obtain rfl := hc1.nil
  obtain ⟨A, cap, l, rfl, hr⟩ := sl22 h3
  exact ⟨⟨A, cap, l⟩, rfl, hr⟩
 obtain ⟨A, cap, l, h1, h2, _, h3, h4, hq⟩ := rdl_open (enc' := sl3) (Q := fun x => RdI W x.1 x.2.2.length x.2.2) (ts := [22]) (size := 1) (n := 8) Tryz.underlying31 (by kernel_rfl) (by kernel_rfl) rfl (by decide) hα h1
 refine ⟨A, cap, l.map (·.2.2), by rw [List.length_map]; exact h1, ⟨l.flatMap sl3, by rw [List.length_map]; exact h2, rfl, fun k x hx => ?_⟩, by rw [List.length_map]; unfold maxLen at h4; omega⟩
 rw [List.getElem?_map] at hx
 cases hz : l[k]? with
 | none => rw [hz] at hx; cases hx
 | some z =>
  rw [hz] at hx
  have hxz : z.2.2 = x := by simpa using hx
  subst hxz
  refine ⟨z.1, z.2.1, ?_, hq z (List.mem_of_getElem? hz)⟩
  have := flat_get (size := 1) (enc := sl3) (fun _ => rfl) l k 0 z hz (by decide)
  simpa [sl3] using this
theorem open_rec (hv : Value.okWide Tryz.prog W .any base 55 v) (h : DataW.Trod enc Tryz.prog W 0 (fun _ => true) true 55 v d p) : ∃ D capd dl E cape el M capm ml s f k, v = .agg #[.slice D (List.length dl) capd, .slice E (List.length el) cape, .slice M (List.length ml) capm, .int .i64 s, .int .i64 f, .int .i64 k] ∧ RdD W D dl.length dl ∧ RdD W E el.length el ∧ RdI W M ml.length ml ∧ dl.length ≤ 9223372036854775807 ∧ el.length ≤ 9223372036854775807 := by
 obtain ⟨cs, rfl, hc0⟩ := leaf_arg (ts := [31, 31, 22, 3, 3, 3]) Tryz.underlying55 hv h (by kernel_rfl)
 obtain ⟨x0, r0, rfl, ⟨n0, y0, h0⟩, hc1⟩ := hc0.head
 obtain ⟨x1, r1, rfl, ⟨n1, y1, h1⟩, hc2⟩ := hc1.head
 obtain ⟨x2, r2, rfl, ⟨n2, y2, h2⟩, hc3⟩ := hc2.head
 obtain ⟨x3, r3, rfl, _, hc4⟩ := hc3.int Tryz.underlying3
 obtain ⟨x4, r4, rfl, _, hc5⟩ := hc4.int Tryz.underlying3
 obtain ⟨x5, r5, rfl, _, hc6⟩ := hc5.int Tryz.underlying3
 obtain rfl := hc6.nil
 obtain ⟨D, capd, dl, rfl, hd, hdl⟩ := slD h0
 obtain ⟨E, cape, el, rfl, he, hel⟩ := slD h1
 obtain ⟨M, capm, ml, rfl, hm⟩ := sl22 h2
 exact ⟨D, capd, dl, E, cape, el, M, capm, ml, x3, x4, x5, rfl, hd, he, hm, hdl, hel⟩
end
end Go.Proofs.YtdimmlljjmmdbaaGreatDoor
/- Plain laws of chapter 07: the rounds of the reference's times. -/
namespace Im
/-- where a pass over all pairs stands: at a, b; ag tells whether something became shorter -/
structure Rnd (c : Nat) (l : List Int) (s : Nat) (t0 t : List Int) (a b : Nat) (ag : Bool) : Prop where
 rlx : Rlx c l s t
 yes : ag = true → sum t < sum t0
 no : ag = false → t = t0 ∧ ∀ x y, (x < a ∨ x = a ∧ y < b) → x < l.length → y < l.length → 0 < cost c l x y → at0 t y ≤ at0 t x + cost c l x y
theorem Rnd.start {c : Nat} {l : List Int} {s : Nat} {t : List Int} (h : Rlx c l s t) : Rnd c l s t t 0 0 false :=
 ⟨h, (fun e => by cases e), fun _ => ⟨rfl, fun x y h => by omega⟩⟩
theorem Rnd.skip {c : Nat} {l : List Int} {s : Nat} {t0 t : List Int} {a b : Nat} {ag : Bool} (h : Rnd c l s t0 t a b ag) (hs : ¬ (0 < cost c l a b ∧ at0 t a + cost c l a b < at0 t b)) : Rnd c l s t0 t a (b + 1) ag := by
 refine ⟨h.rlx, h.yes, fun e => ?_⟩
 obtain ⟨h1, h2⟩ := h.no e
 refine ⟨h1, fun x y hxy hx hy hc => ?_⟩
 by_cases hn : x < a ∨ x = a ∧ y < b
 ·exact h2 x y hn hx hy hc
 ·have hxa : x = a ∧ y = b := by omega
  obtain ⟨rfl, rfl⟩ := hxa
  exact Int.not_lt.1 fun hl => hs ⟨hc, hl⟩
theorem Rnd.take {c r : Nat} {l : List Int} {s : Nat} {t0 t : List Int} {a b : Nat} {ag : Bool} (g : Gr c r l) (h : Rnd c l s t0 t a b ag) (ha : a < l.length) (hb : b < l.length) (hc : 0 < cost c l a b) (hlt : at0 t a + cost c l a b < at0 t b) :
  Rnd c l s t0 (t.set b (at0 t a + cost c l a b)) a (b + 1) true := by
 refine ⟨h.rlx.step g ha hb hc hlt, fun _ => ?_, fun e => by cases e⟩
 rw [sum_set _ _ _ (by rw [h.rlx.len]; exact hb)]
 cases ag with
 | true => have := h.yes rfl; omega
 | false => obtain ⟨rfl, _⟩ := h.no rfl; omega
theorem Rnd.row {c : Nat} {l : List Int} {s : Nat} {t0 t : List Int} {a b : Nat} {ag : Bool} (h : Rnd c l s t0 t a b ag) (hb : l.length ≤ b) : Rnd c l s t0 t (a + 1) 0 ag := by
 refine ⟨h.rlx, h.yes, fun e => ?_⟩
 obtain ⟨h1, h2⟩ := h.no e
 refine ⟨h1, fun x y hxy hx hy hc => h2 x y ?_ hx hy hc⟩
 omega
theorem Rnd.done {c r : Nat} {l : List Int} {s : Nat} {t0 t : List Int} {a b : Nat} (g : Gr c r l) (hc : c ≤ 16) (hr : r ≤ 16) (hs : s < l.length) (h : Rnd c l s t0 t a b false) (ha : l.length ≤ a) : IsT c l s t :=
 h.rlx.done g hc hr hs fun x y hx hy hxy => (h.no rfl).2 x y (.inl (by omega)) hx hy hxy
/-- the measure of the outer loop -/
def rmeas (t : List Int) (ag : Bool) : Nat := 2 * (sum t).toNat + (if ag then 1 else 0)
theorem Rnd.less {c : Nat} {l : List Int} {s : Nat} {t0 t : List Int} {a b : Nat} {ag : Bool} (h0 : Rlx c l s t0) (h : Rnd c l s t0 t a b ag) : rmeas t ag < rmeas t0 true := by
 have n0 := sum_nonneg t0 fun b hb => (h0.nn b (by rw [← h0.len]; exact hb)).1
 have n1 := sum_nonneg t fun b hb => (h.rlx.nn b (by rw [← h.rlx.len]; exact hb)).1
 unfold rmeas
 cases ag with
 | true => have := h.yes rfl; simp; omega
 | false => obtain ⟨rfl, _⟩ := h.no rfl; simp
theorem Rlx.bd {c : Nat} {l : List Int} {s : Nat} {t : List Int} (h : Rlx c l s t) (b : Nat) : 0 ≤ at0 t b ∧ at0 t b ≤ 1099511627776 := by
 by_cases hb : b < l.length
 ·exact h.nn b hb
 ·have e : at0 t b = 0 := by
   unfold at0
   rw [List.getD_eq_getElem?_getD, List.getElem?_eq_none (by rw [h.len]; omega)]
   rfl
  rw [e]; omega
end Im
namespace Go.Proofs.YtdimmlljjmmdbaaGreatDoor
open Go.RowKit Go.Shelf
set_option maxHeartbeats 8000000
set_option maxRecDepth 100000
/-- the sum of a block's integers, read off the world -/
def rowMeas (g n : Nat) (w : World) : Nat := match w.heap[g]? with
 | some (.cells cs _ _) => (Im.sum ((cs.toList.take n).map intOf)).toNat
 | _ => 0
def boolN (v : Value) : Nat := match v with
 | .bool true => 1
 | _ => 0
theorem rowMeas_eq {w : World} {B g cap n : Nat} {l : List Int} (h : RowI w B g cap n l) : rowMeas g n w = (Im.sum l).toNat := by
 obtain ⟨cs, h1, _, _, _, _, h5, _⟩ := h
 unfold rowMeas
 rw [h1]
 simp only [h5, encI, List.map_map]
 congr 2
 exact (List.map_congr_left (fun _ _ => rfl)).trans (List.map_id _)
theorem rmeas_eq {w : World} {B g cap n : Nat} {l : List Int} (ag : Bool) (h : RowI w B g cap n l) : 2 * rowMeas g n w + boolN (.bool ag) = Im.rmeas l ag := by
 rw [rowMeas_eq h]
 unfold Im.rmeas
 cases ag <;> rfl
theorem c63 (c r : Nat) (A : Option Addr) (n cap : Nat) (l : List Int) (s : Nat) (w : World) (g : Im.Gr c r l) (hc : c ≤ 16) (hr : r ≤ 16) (hs : s < n) (H : RdI w A n l) :
  Calls Tryz.prog 63 #[.agg #[.int .i64 c, .int .i64 r, .slice A n cap], .int .i64 s] w fun en w' => ∃ og cp t, en = .returned (.slice (some ⟨og, 0, none⟩) n cp) ∧ RowI w' w.heap.size og cp n t ∧ Im.IsT c l s t ∧ Below w.heap.size w w' := by
 have hn0 : 0 < n := by omega
 have hn256 : n ≤ 256 := by have := H.len; have := g.len; have : c * r ≤ 256 := Nat.mul_le_mul hc hr; omega
 have HLN : Hid (l.length = n) := Lib.hid H.len
 have HG := Lib.hid g
 obtain ⟨i0, hi, hz0, hz1, hz2⟩ := info_parts info3
 obtain ⟨w0, hW⟩ : ∃ W, W = w.alloc (Obj.cells #[.int .i64 c, .int .i64 r, .slice A n cap] 24) := ⟨_, rfl⟩
 have hT0 : w0.heap[w.heap.size]? = some (.cells #[.int .i64 c, .int .i64 r, .slice A n cap] 24 (0, 0)) := by rw [hW]; exact heap_new (by simp)
 have hB0 : Below w.heap.size w w0 := by rw [hW]; exact (Below.refl _ _).alloc (Nat.le_refl _) _
 have HH := Lib.hid (H.below hB0)
 have HB0 := Lib.hid hB0
 have HT0 := Lib.hid hT0
 clear H hT0
 go_enter Tryz.func63, Tryz.ntmps63
 go_wp2_with fail
 rw [← hW]
 clear hW hB0 g
 go_loopw [6, 7] (fun x i wr => ∃ k : Nat, k ≤ n ∧ i = .int .i64 k ∧ wr.ownsRow w0.heap.size 3 1 x k (encI (List.replicate k 1099511627776)) ∧ Below w0.heap.size w0 wr) (fun _ i _ => n - (intOf i).toNat)
 case atStart => exact ⟨0, Nat.zero_le _, rfl, World.ownsRow_nil _ _ _ _, Below.refl _ _⟩
 case round =>
  obtain ⟨k, hk, rfl, hown, hB⟩ := hrel
  have q2 : wr.cell? ⟨w.heap.size, 2, none⟩ = some (.slice A n cap) := cell_at (blkb HT0.out hB) rfl
  have z2 := cell_lt q2
  have hwk : IntKind.i64.wrap ((k : Int) + 1) = ((k + 1 : Nat) : Int) := by rw [wrapI (by omega)]; simp
  by_cases hlt : k < n
  ·have hk2 : (k : Int) < (n : Int) := by omega
   have hsz := hB.size
   go_wp2_with (at_builtin; refine wpList_append_own _ rfl _ _ 22 rfl w0.heap.size 3 i0 (.int .i64 0) 1 8 Tryz.underlying22 hi hz0 hz1 hz2 rfl (by decide) _ _ _ rfl (hown.alloc _) ⟨wr.heap.size, 0, none⟩ 1 1 [Value.int .i64 1099511627776] rfl rfl (news_one _ _ rfl) (fun x hx => by rw [List.mem_singleton.1 hx]; rfl) (by unfold maxLen; omega) (by omega) (by simp; omega) ?_)
   intro x' w3 hown3 hg3 _
   have hB3 : Below w0.heap.size w0 w3 := (hB.alloc hsz _).grown hg3 (by simp; omega) (fun g hg => (hown.lt g hg).1)
   have HO : Hid (w3.ownsRow w0.heap.size 3 1 x' (k + 1) (encI (List.replicate (k + 1) 1099511627776))) := Lib.hid (by
    rw [List.replicate_succ']
    simp only [encI, List.map_append, List.map_cons, List.map_nil] at hown3 ⊢
    exact hown3)
   clear hown3 hg3 hown hB q2 z2
   go_wp2
   go_roundw
   case rel => exact ⟨k + 1, by omega, by go_num, HO.out, hB3⟩
   case measure => simp [intOf]; omega
  ·obtain rfl : n = k := by omega
   obtain ⟨og, cp, rfl, hrow⟩ := RowI.of_own hn0 hown
   have HR0 : Hid (Im.Rlx c l s ((List.replicate n (1099511627776 : Int)).set s 0)) := Lib.hid (by
    rw [← HLN.out]; exact Im.Rlx.start (by rw [HLN.out]; exact hs))
   have hs2 : (s : Int) < (n : Int) := by omega
   have hs0 : (0 : Int) ≤ (s : Int) := by omega
   have qc := (hrow.cell hs).1
   have qf := (hrow.cell hs).2.1
   have HROW1 : Hid (RowI (wr.setCell ⟨og, s, none⟩ (.int .i64 0)) w0.heap.size og cp n ((List.replicate n (1099511627776 : Int)).set s 0)) := Lib.hid (hrow.set s 0)
   have hogb : w0.heap.size ≤ og := hrow.choose_spec.2.2.2.2.2.2
   have HOGB := Lib.hid hogb
   have HB1 : Hid (Below w0.heap.size w0 (wr.setCell ⟨og, s, none⟩ (.int .i64 0))) := Lib.hid (hB.setCell (p := ⟨og, s, none⟩) hogb _)
   generalize (List.replicate n (1099511627776 : Int)).set s 0 = t0 at HR0 HROW1
   clear hown hrow hB
   go_wp2_with fail
   obtain ⟨w1, hw1⟩ : ∃ W, W = wr.setCell ⟨og, s, none⟩ (.int .i64 0) := ⟨_, rfl⟩
   rw [← hw1] at HROW1 HB1 ⊢
   clear hw1 qc qf q2 z2 hogb
   go_loopw [8] (fun x wr => ∃ (ag : Bool) (t : List Int), x = .bool ag ∧ Hid (RowI wr w0.heap.size og cp n t) ∧ Hid (Im.Rlx c l s t) ∧ Hid (ag = false → Im.IsT c l s t) ∧ Below w0.heap.size w0 wr) (fun x wr => 2 * rowMeas og n wr + boolN x)
   case atStart => exact ⟨true, t0, rfl, HROW1, HR0, Lib.hid (fun h => by cases h), HB1.out⟩
   case round =>
    clear HROW1 HR0 HB1
    obtain ⟨ag, t0, rfl, HROW0, HR0, HT, hB⟩ := hrel
    cases ag
    ·have HIT := Lib.hid (HT.out rfl)
     have HRW := HROW0
     have HBB := Lib.hid (HB0.out.call hB rfl)
     have HLW := Lib.hid (HB0.out.size)
     clear HT HROW0 HR0 hB
     go_wp2
     go_ret
     exact ⟨og, cp, t0, rfl, HRW.out.lower HLW.out, HIT.out, HBB.out⟩
    have HM0 : Hid (2 * rowMeas og n wr + boolN (.bool true) = Im.rmeas t0 true) := Lib.hid (rmeas_eq true HROW0.out)
    obtain ⟨M, hM⟩ : ∃ M, M = Im.rmeas t0 true := ⟨_, rfl⟩
    rw [← hM] at HM0
    have HM := Lib.hid hM
    have HRN : Hid (Im.Rnd c l s t0 t0 0 0 false) := Lib.hid (Im.Rnd.start HR0.out)
    have HBr := Lib.hid hB
    clear hM hB HT
    go_wp2_with fail
    go_loopw [8, 9] (fun x i wr => ∃ (k : Nat) (ag : Bool) (t : List Int), k ≤ n ∧ i = .int .i64 k ∧ x = .bool ag ∧ Hid (RowI wr w0.heap.size og cp n t) ∧ Hid (Im.Rnd c l s t0 t k 0 ag) ∧ Below w0.heap.size w0 wr) (fun _ i _ => n - (intOf i).toNat)
    case atStart => exact ⟨0, false, t0, Nat.zero_le _, rfl, rfl, HROW0, HRN, HBr.out⟩
    case round =>
     clear HROW0 HRN HBr
     obtain ⟨a, ag, t, ha, rfl, rfl, HROW, HRN, hB⟩ := hrel
     by_cases hlt : a < n
     rotate_left
     ·obtain rfl : n = a := by omega
      have HL := Lib.hid (HRN.out.less HR0.out)
      have HRX := Lib.hid HRN.out.rlx
      have HDN : Hid (ag = false → Im.IsT c l s t) := Lib.hid (fun e => by
       subst e
       exact Im.Rnd.done HG.out hc hr (by rw [HLN.out]; exact hs) HRN.out (by rw [HLN.out]; exact Nat.le_refl _))
      have HRW := HROW
      have HBB := Lib.hid hB
      clear HROW HRN hB
      go_wp2
      go_roundw
      case rel => exact ⟨ag, t, rfl, HRW, HRX, HDN, HBB.out⟩
      case measure =>
       have h1 := rmeas_eq ag HRW.out
       have h2 := HL.out
       have h3 := HM0.out
       have h4 := HM.out
       omega
     have hwa : IntKind.i64.wrap ((a : Int) + 1) = ((a + 1 : Nat) : Int) := by rw [wrapI (by omega)]; simp
     have ha2 : (a : Int) < (n : Int) := by omega
     have ha0 : (0 : Int) ≤ (a : Int) := by omega
     have HBr := Lib.hid hB
     clear hB
     go_wp2_with fail
     go_loopw [8, 10] (fun x i wr => ∃ (k : Nat) (ag : Bool) (t : List Int), k ≤ n ∧ i = .int .i64 k ∧ x = .bool ag ∧ Hid (RowI wr w0.heap.size og cp n t) ∧ Hid (Im.Rnd c l s t0 t a k ag) ∧ Below w0.heap.size w0 wr) (fun _ i _ => n - (intOf i).toNat)
     case atStart => exact ⟨0, ag, t, Nat.zero_le _, rfl, rfl, HROW, HRN, HBr.out⟩
     case round =>
      clear HROW HRN HBr
      obtain ⟨b, ag, t, hb, rfl, rfl, HROW, HRN, hB⟩ := hrel
      by_cases hlb : b < n
      rotate_left
      ·obtain rfl : n = b := by omega
       have HNX : Hid (Im.Rnd c l s t0 t (a + 1) 0 ag) := Lib.hid (HRN.out.row (by rw [HLN.out]; exact Nat.le_refl _))
       have HRW := HROW
       have HBB := Lib.hid hB
       clear HROW HRN hB
       go_wp2
       go_roundw
       case rel => exact ⟨a + 1, ag, t, by omega, by go_num, rfl, HRW, HNX, HBB.out⟩
       case measure => simp [intOf]; omega
      have hwb : IntKind.i64.wrap ((b : Int) + 1) = ((b + 1 : Nat) : Int) := by rw [wrapI (by omega)]; simp
      have hb2 : (b : Int) < (n : Int) := by omega
      have hb0 : (0 : Int) ≤ (b : Int) := by omega
      have q0 : wr.cell? ⟨w.heap.size, 0, none⟩ = some (.int .i64 c) := cell_at (blkb HT0.out hB) rfl
      have q1 : wr.cell? ⟨w.heap.size, 1, none⟩ = some (.int .i64 r) := cell_at (blkb HT0.out hB) rfl
      have q2 : wr.cell? ⟨w.heap.size, 2, none⟩ = some (.slice A n cap) := cell_at (blkb HT0.out hB) rfl
      have z2 := cell_lt q2
      have h61 := c61 c r A n cap l a b wr HG.out (by omega) hc hlt hlb (HH.out.below hB)
      have HCN : Hid (0 ≤ Im.cost c l a b ∧ Im.cost c l a b ≤ 600) := Lib.hid ⟨Im.cost_nonneg HG.out (by rw [HLN.out]; exact hlt) (by rw [HLN.out]; exact hlb), Im.cost_le HG.out (by rw [HLN.out]; exact hlt) (by rw [HLN.out]; exact hlb)⟩
      have HSK := Lib.hid (HRN.out.skip (a := a) (b := b))
      have HTK := Lib.hid (HRN.out.take HG.out (a := a) (b := b) (by rw [HLN.out]; exact hlt) (by rw [HLN.out]; exact hlb))
      have HBA := Lib.hid (HRN.out.rlx.bd a)
      have HBB := Lib.hid (HRN.out.rlx.bd b)
      generalize Im.cost c l a b = V at h61 HCN HSK HTK
      have H61 := Lib.hid h61
      have HBR := Lib.hid hB
      clear h61 hB HRN
      go_wp2_with fail
      refine H61.out.mono ?_
      rintro e w2 ⟨rfl, hb9⟩
      have HROW2 := Lib.hid (HROW.out.below hb9)
      have HBR2 := Lib.hid (HBR.out.call hb9 rfl)
      clear hb9 q0 q1 q2 z2 H61 HROW HBR
      have HGET : Hid (∀ W, RowI W w0.heap.size og cp n t → W.cell? ⟨og, a, none⟩ = some (.int .i64 (Im.at0 t a)) ∧ W.cell? ⟨og, b, none⟩ = some (.int .i64 (Im.at0 t b)) ∧ W.frozen? ⟨og, b, none⟩ = false ∧ og < W.heap.size) := Lib.hid (fun W h => ⟨(h.cell hlt).1, (h.cell hlb).1, (h.cell hlb).2.1, (h.cell hlb).2.2⟩)
      generalize Im.at0 t a = x at HGET HSK HTK HBA
      generalize Im.at0 t b = y at HGET HSK HTK HBB
      obtain ⟨qa, qb, _, zo⟩ := HGET.out w2 HROW2.out
      by_cases hV : 0 < V
      rotate_left
      ·have hd1 : decide (0 < V) = false := by simpa using hV
       have HS := Lib.hid (HSK.out (fun h => hV h.1))
       clear hV
       go_wp2
       refine wp_region_growG (by kernel_rfl) (by kernel_rfl) ?_
       repeat (go_big_quiet_step ((first | fail)))
       refine wpQuiet_nil (gw_out ?_)
       intro w3 hb3
       have HROW3 := Lib.hid (HROW2.out.below hb3)
       have HBR3 := Lib.hid (HBR2.out.call hb3 rfl)
       clear hb3 qa qb zo
       go_wp2
       go_roundw
       case rel => exact ⟨b + 1, ag, t, by omega, by go_num, rfl, HROW3, HS, HBR3.out⟩
       case measure => simp [intOf]; omega
      have hd1 : decide (0 < V) = true := by simpa using hV
      have hwx : IntKind.i64.wrap (x + V) = x + V := wrapI (by have := HCN.out; have := HBA.out; omega)
      by_cases hxy : x + V < y
      rotate_left
      ·have hd2 : decide (x + V < y) = false := by simpa using hxy
       have HS := Lib.hid (HSK.out (fun h => hxy h.2))
       clear hV hxy
       go_wp2
       refine wp_region_growG (by kernel_rfl) (by kernel_rfl) ?_
       repeat (go_big_quiet_step ((first | fail)))
       refine wpQuiet_nil (gw_out ?_)
       intro w3 hb3
       have HROW3 := Lib.hid (HROW2.out.below hb3)
       have HBR3 := Lib.hid (HBR2.out.call hb3 rfl)
       clear hb3 qa qb zo
       go_wp2
       go_roundw
       case rel => exact ⟨b + 1, ag, t, by omega, by go_num, rfl, HROW3, HS, HBR3.out⟩
       case measure => simp [intOf]; omega
      have hd2 : decide (x + V < y) = true := by simpa using hxy
      have HS := Lib.hid (HTK.out hV hxy)
      clear hV hxy
      go_wp2
      refine wp_region_growG (by kernel_rfl) (by kernel_rfl) ?_
      repeat (go_big_quiet_step ((first | fail)))
      refine wpQuiet_nil (gw_out ?_)
      intro w3 hb3
      have HROW3 := Lib.hid (HROW2.out.below hb3)
      have HBR3 := Lib.hid (HBR2.out.call hb3 rfl)
      clear hb3 qa qb zo
      obtain ⟨qa, qb, qf, zo⟩ := HGET.out w3 HROW3.out
      have HROW4 := Lib.hid (HROW3.out.set b (x + V))
      have HB4 := Lib.hid (HBR3.out.setCell (p := ⟨og, b, none⟩) HOGB.out (.int .i64 (x + V)))
      go_wp2
      go_roundw
      case rel => exact ⟨b + 1, true, t.set b (x + V), by omega, by go_num, rfl, HROW4, HS, HB4.out⟩
      case measure => simp [intOf]; omega
end Go.Proofs.YtdimmlljjmmdbaaGreatDoor
namespace Go.Proofs.YtdimmlljjmmdbaaGreatDoor
open Go.RowKit
set_option maxHeartbeats 4000000
set_option maxRecDepth 20000
/-- equal pairs -/
def eqP (a b : Pr) : Bool := decide (a.s = b.s) && decide (a.r = b.r) && (a.h == b.h)
theorem eqP_eq {a b : Pr} (h : eqP a b = true) : a = b := by
 simp only [eqP, Bool.and_eq_true, decide_eq_true_eq, beq_iff_eq] at h
 cases a; cases b
 simp only [Pr.mk.injEq]
 exact ⟨h.1.1, h.1.2, h.2⟩
theorem eq148 (a b : Pr) (w : World) : (Op.equalIn 10000 148 (.agg #[.int .i64 a.s, .int .i64 a.r, .bool a.h]) (.agg #[.int .i64 b.s, .int .i64 b.r, .bool b.h])).run Tryz.prog w = .ok (eqP a b) w := by
 have u3 := Tryz.underlying3
 have a3 := Tryz.isAgg3
 have z3 := Tryz.sizeOf3
 have u4 := Tryz.underlying4
 have a4 := Tryz.isAgg4
 have z4 := Tryz.sizeOf4
 rw [show (10000 : Nat) = 9999 + 1 from rfl, run_equalIn_struct w 9999 148 _ _ (by unfold Program.fieldsOf; rw [Tryz.underlying148]) (by kernel_rfl)]
 unfold Program.fieldsOf
 rw [Tryz.underlying148]
 simp only [Op.eqFields]
 go_simp
 unfold eqP
 by_cases h0 : a.s = b.s <;> simp [h0]
 by_cases h1 : a.r = b.r <;> simp [h1]
 all_goals (by_cases h2 : a.h = b.h <;> simp [h2])
theorem c147 (a b : Pr) (gb : Nat) (w : World) (hg : w.heap[gb]? = some (.cells #[.int .i64 b.s, .int .i64 b.r, .bool b.h] 148 (0, 0))) :
  Calls Tryz.prog 147 #[.agg #[.int .i64 a.s, .int .i64 a.r, .bool a.h], .pointer (some ⟨gb, 0, none⟩)] w fun en w' => en = .returned (.bool (eqP a b)) ∧ Below w.heap.size w w' := by
 have q0 : w.cell? ⟨gb, 0, none⟩ = some (.int .i64 b.s) := cell_at hg rfl
 have q1 : w.cell? ⟨gb, 1, none⟩ = some (.int .i64 b.r) := cell_at hg rfl
 have q2 : w.cell? ⟨gb, 2, none⟩ = some (.bool b.h) := cell_at hg rfl
 have hgl : gb < w.heap.size := (Array.getElem?_eq_some_iff.1 hg).1
 have E := eq148 a b
 go_enter Tryz.func147, Tryz.ntmps147
 go_wp2
 go_ret
 exact ⟨rfl, (Below.refl _ _).alloc (Nat.le_refl _) _⟩
theorem c146 (A : Option Addr) (n cap : Nat) (l : List Pr) (p0 : Addr) (f : Pr → Bool) (w : World) (hl : n ≤ 1000000) (H : RdP w A n l)
  (hcl : ∀ (W : World) (x : Pr), x ∈ l → Below w.heap.size w W → Calls Tryz.prog 147 #[.agg #[.int .i64 x.s, .int .i64 x.r, .bool x.h], .pointer (some p0)] W fun e w' => e = .returned (.bool (f x)) ∧ Below W.heap.size W w') :
  Calls Tryz.prog 146 #[.slice A n cap, .func (.func 147) #[] #[.pointer (some p0)]] w fun en w' => ∃ r : Int, en = .returned (.int .i64 r) ∧ (r = -1 ∨ ∃ (j : Nat) (x : Pr), r = j ∧ j < n ∧ l[j]? = some x ∧ f x = true) ∧ Below w.heap.size w w' := by
 have Hcl := Lib.hid hcl
 clear hcl
 go_enter Tryz.func146, Tryz.ntmps146
 go_wp2
 go_loopw [8] (fun i wr => ∃ k : Nat, k ≤ n ∧ i = .int .i64 k ∧ Below w.heap.size w wr) (fun i _ => n - (intOf i).toNat)
 case atStart => exact ⟨0, Nat.zero_le _, rfl, Below.refl _ _⟩
 case round =>
  obtain ⟨k, hk, rfl, hB⟩ := hrel
  have hwk : IntKind.i64.wrap ((k : Int) + 1) = ((k + 1 : Nat) : Int) := by rw [wrapI (by omega)]; simp
  by_cases hlt : k < n
  ·obtain ⟨b, off, x, rfl, hx, hb, h0, h1, h2⟩ := (H.below hB).at hlt
   have Hx := Lib.hid hx
   clear hx
   have hkm2 : (k : Int) < (n : Int) := by omega
   have hk02 : (0 : Int) ≤ (k : Int) := by omega
   go_wp2_with fail
   refine (Hcl.out _ x (List.mem_of_getElem? Hx.out) hB).mono ?_
   rintro e w2 ⟨rfl, hb2⟩
   have hB2 := Lib.hid (fin0 hB hb2)
   clear hb2
   cases hf : f x
   ·go_wp2
    go_roundw
    case rel => exact ⟨k + 1, by omega, rfl, hB2.out⟩
    case measure => simp [intOf]; omega
   ·have HF := Lib.hid hf
    go_wp2
    go_ret
    exact ⟨k, rfl, .inr ⟨k, x, rfl, hlt, Hx.out, HF.out⟩, hB2.out⟩
  ·obtain rfl : n = k := by omega
   go_wp2
   go_ret
   exact ⟨-1, rfl, .inl rfl, hB⟩
theorem surv_ok {c r : Int} {l : List Int} {un len most : Int} {ps : List Pr} (h : Mo.surv c r l un len most ps = 0) :
  Mo.ground c r l = 0 ∧ (1 ≤ un ∧ un ≤ 1000) ∧ (1 ≤ len ∧ len ≤ 256) ∧ (0 ≤ most ∧ most ≤ 256) ∧ ps.length ≤ 16 ∧ ∀ p, p ∈ ps → (0 ≤ p.s ∧ p.s < l.length) ∧ (0 ≤ p.r ∧ p.r < l.length) := by
 unfold Mo.surv Mo.surv0 at h
 have h1 := Mo.first_zero h
 have h2 := Mo.first_zero (h1 _ List.mem_cons_self)
 have h3 := Mo.first_zero (h1 _ (List.mem_cons_of_mem _ List.mem_cons_self))
 have e1 := h2 _ List.mem_cons_self
 have e2 := Mo.range_ok.1 (h2 (Mo.range un 1 1000) (by simp))
 have e3 := Mo.range_ok.1 (h2 (Mo.range len 1 256) (by simp))
 have e4 := Mo.range_ok.1 (h2 (Mo.range most 0 256) (by simp))
 have e5 := (Mo.when_zero (by decide)).1 (h2 (Mo.when (decide (16 < (ps.length : Int))) 5) (by simp))
 refine ⟨e1, e2, e3, e4, by simp at e5; omega, fun p hp => ?_⟩
 have h4 := Mo.first_zero (h3 (Mo.pair l.length p) (List.mem_map.2 ⟨p, hp, rfl⟩))
 exact ⟨Mo.cell_ok.1 (h4 _ List.mem_cons_self), Mo.cell_ok.1 (h4 _ (List.mem_cons_of_mem _ List.mem_cons_self))⟩
theorem infoSl : (Tryz.prog.info? 22).map (fun i => (i.zero, i.size, i.bytes)) = some (some (.slice none 0 0), 1, 24) := by kernel_rfl
/-- the samples of the cells for a pair -/
noncomputable def dlp (c : Nat) (l : List Int) (un len most : Int) (p : Pr) : List Int := dlL c l un len most p.s.toNat p.r.toNat p.h
/-- a row of slices of the call's own -/
def OwnD (w : World) (B : Nat) (v : Value) (k : Nat) (vs : List Value) : Prop := w.ownsRow B 22 1 v k vs
theorem OwnD.below {w w' : World} {B : Nat} {v : Value} {n : Nat} {l : List Value} (h : OwnD w B v n l) (hb : Below w.heap.size w w') : OwnD w' B v n l := own_below h hb
theorem RowI.grown {w w' : World} {B B2 g cap n : Nat} {l : List Int} {x : Value} {k : Nat} {xs : List Value} (h : RowI w B g cap n l) (hown : w.ownsRow B2 22 1 x k xs) (hg : w.grownBy w' x.ownBlock) : RowI w' B g cap n l := by
 obtain ⟨cs, h1, h2⟩ := h
 refine ⟨cs, (hg.block g (Array.getElem?_eq_some_iff.1 h1).1 (fun e => ?_)).trans h1, h2⟩
 obtain ⟨hx, ⟨rfl, hn⟩ | ⟨g', cap', cur, rfl, hg', hh, _⟩⟩ := hown
 ·simp [Value.ownBlock] at e
 ·simp only [Value.ownBlock, Option.some.injEq] at e
  subst e
  rw [h1] at hh
  simp at hh
/-- rows of integers, one for each pair -/
def VD (w : World) (B n : Nat) (f : Pr → List Int) (ps : List Pr) (vs : List Value) (k : Nat) : Prop :=
 vs.length = k ∧ ∀ (j : Nat) (p : Pr), j < k → ps[j]? = some p → ∃ g cap, vs[j]? = some (.slice (some ⟨g, 0, none⟩) n cap) ∧ RowI w B g cap n (f p)
theorem VD.below {w w' : World} {B n : Nat} {f : Pr → List Int} {ps : List Pr} {vs : List Value} {k : Nat} (h : VD w B n f ps vs k) (hb : Below w.heap.size w w') : VD w' B n f ps vs k :=
 ⟨h.1, fun j p hj hp => by obtain ⟨g, cap, h1, h2⟩ := h.2 j p hj hp; exact ⟨g, cap, h1, h2.below hb⟩⟩
theorem VD.push {w w' : World} {B B2 n : Nat} {f : Pr → List Int} {ps : List Pr} {vs : List Value} {k g cap : Nat} {p : Pr} {x : Value} {xs : List Value} (h : VD w B n f ps vs k) (hown : w.ownsRow B2 22 1 x k xs) (hg : w.grownBy w' x.ownBlock) (hp : ps[k]? = some p) (hr : RowI w B g cap n (f p)) :
  VD w' B n f ps (vs ++ [.slice (some ⟨g, 0, none⟩) n cap]) (k + 1) := by
 refine ⟨by simp [h.1], fun j q hj hq => ?_⟩
 by_cases e : j = k
 ·subst e
  rw [hp] at hq
  cases hq
  exact ⟨g, cap, by rw [List.getElem?_append_right (by rw [h.1]; exact Nat.le_refl _), h.1]; simp, hr.grown hown hg⟩
 ·obtain ⟨g', cap', h1, h2⟩ := h.2 j q (by omega) hq
  exact ⟨g', cap', by rw [List.getElem?_append_left (by rw [h.1]; omega)]; exact h1, h2.grown hown hg⟩
theorem RdP.take {w : World} {A : Option Addr} {n : Nat} {l : List Pr} (h : RdP w A n l) {k : Nat} (hk : k ≤ n) : RdP w A k (l.take k) := by
 have hl := h.len
 have e : l.flatMap Pr.enc = (l.take k).flatMap Pr.enc ++ (l.drop k).flatMap Pr.enc := by rw [← List.flatMap_append, List.take_append_drop]
 refine ⟨by rw [flat_len Pr.len, List.length_take]; congr 1; omega, fun h0 => ?_⟩
 obtain ⟨b, off, rfl, hb, hc⟩ := h.2 (by omega)
 refine ⟨b, off, rfl, hb, fun j hj => ?_⟩
 rw [hc j (by rw [e, List.length_append]; omega), e, List.getElem?_append_left hj]
theorem RowI.len {w : World} {B g cap n : Nat} {l : List Int} (h : RowI w B g cap n l) : l.length = n := by obtain ⟨cs, _, _, _, _, h4, _⟩ := h; exact h4
/-- lists of integers in memory of the call's own, from block B on -/
def RdDB (w : World) (B : Nat) (A : Option Addr) (n : Nat) (d : List (List Int)) : Prop :=
 ∃ hs : List Value, RdS w 1 A n hs ∧ d.length = n ∧ (0 < n → ∀ b off, A = some ⟨b, off, none⟩ → B ≤ b) ∧ ∀ (k : Nat) (x : List Int), d[k]? = some x → ∃ g cap, hs[k]? = some (.slice (some ⟨g, 0, none⟩) x.length cap) ∧ B ≤ g ∧ g < w.heap.size ∧ RdI w (some ⟨g, 0, none⟩) x.length x
theorem RdDB.rd {w : World} {B : Nat} {A : Option Addr} {n : Nat} {d : List (List Int)} (h : RdDB w B A n d) : RdD w A n d := by
 obtain ⟨hs, h1, h2, h3, h4⟩ := h
 exact ⟨hs, h1, h2, fun k x hx => by obtain ⟨g, cap, e, _, _, hr⟩ := h4 k x hx; exact ⟨_, cap, e, hr⟩⟩
theorem RdDB.keep {w w' : World} {B : Nat} {A : Option Addr} {n : Nat} {d : List (List Int)} (h : RdDB w B A n d) (hs : w.heap.size ≤ w'.heap.size) (hk : ∀ b, B ≤ b → b < w.heap.size → w'.heap[b]? = w.heap[b]?) : RdDB w' B A n d := by
 obtain ⟨hv, ⟨h1, h1'⟩, h2, h3, h4⟩ := h
 have key : ∀ b o, B ≤ b → b < w.heap.size → w'.cell? ⟨b, o, none⟩ = w.cell? ⟨b, o, none⟩ := fun b o hb hl => World.cell?_of_block (a := ⟨b, o, none⟩) (hk b hb hl)
 refine ⟨hv, ⟨h1, fun h0 => ?_⟩, h2, h3, fun k x hx => ?_⟩
 ·obtain ⟨b, off, rfl, hb, hc⟩ := h1' h0
  exact ⟨b, off, rfl, Nat.lt_of_lt_of_le hb hs, fun j hj => (key b (off + j) (h3 h0 b off rfl) hb).trans (hc j hj)⟩
 ·obtain ⟨g, cap, e, hg, hgl, hr1, hr2⟩ := h4 k x hx
  refine ⟨g, cap, e, hg, Nat.lt_of_lt_of_le hgl hs, hr1, fun h0 => ?_⟩
  obtain ⟨b, off, he, hb, hc⟩ := hr2 h0
  cases he
  exact ⟨g, 0, rfl, Nat.lt_of_lt_of_le hgl hs, fun j hj => (key g (0 + j) hg hgl).trans (hc j hj)⟩
theorem RdDB.lowerB {w : World} {B B' : Nat} {A : Option Addr} {n : Nat} {d : List (List Int)} (h : RdDB w B A n d) (hb : B' ≤ B) : RdDB w B' A n d := by
 obtain ⟨hs, h1, h2, h3, h4⟩ := h
 exact ⟨hs, h1, h2, fun h0 b off he => Nat.le_trans hb (h3 h0 b off he), fun k x hx => by obtain ⟨g, cap, e, h5, h6⟩ := h4 k x hx; exact ⟨g, cap, e, Nat.le_trans hb h5, h6⟩⟩
theorem RdDB.at {w : World} {B : Nat} {A : Option Addr} {n : Nat} {d : List (List Int)} (h : RdDB w B A n d) {k : Nat} (hk : k < n) :
  ∃ b off x g cap, A = some ⟨b, off, none⟩ ∧ d[k]? = some x ∧ (b < w.heap.size ∧ B ≤ b) ∧ (g < w.heap.size ∧ B ≤ g) ∧ w.cell? ⟨b, off + k, none⟩ = some (.slice (some ⟨g, 0, none⟩) x.length cap) ∧ RdI w (some ⟨g, 0, none⟩) x.length x := by
 obtain ⟨hs, h1, h2, h4, h3⟩ := h
 obtain ⟨b, off, hA, hb, hc⟩ := RdS.at h1 hk
 have hx : k < d.length := by omega
 obtain ⟨g, cap, e, hgB, hg, hr⟩ := h3 k d[k] (List.getElem?_eq_getElem hx)
 have h0 := hc 0 (by omega)
 rw [Nat.mul_one, Nat.add_zero, e] at h0
 exact ⟨b, off, d[k], g, cap, hA, List.getElem?_eq_getElem hx, ⟨hb, h4 (by omega) b off hA⟩, ⟨hg, hgB⟩, h0, hr⟩
/-- one block written, else new memory -/
theorem gb_below {W w : World} {go B : Nat} (h : W.grownBy w (some go)) (h1 : B ≤ W.heap.size) (h2 : B ≤ go) : Below B W w := (Below.refl B W).grown h h1 (fun j hj => by cases hj; exact h2)
theorem gb_call {W w w' : World} {go : Nat} (h : W.grownBy w (some go)) (hb : Below W.heap.size w w') : W.grownBy w' (some go) :=
 ⟨hb.os.trans h.os, hb.tape.trans h.tape, hb.output.trans h.output, Nat.le_trans h.size hb.size, fun k hk hne => (hb.block k hk).trans (h.block k hk hne)⟩
theorem gb_set {W w : World} {go k : Nat} {v : Value} (h : W.grownBy w (some go)) : W.grownBy (w.setCell ⟨go, k, none⟩ v) (some go) :=
 ⟨((Below.refl 0 w).setCell (p := ⟨go, k, none⟩) (Nat.zero_le _) v).os.trans h.os, ((Below.refl 0 w).setCell (p := ⟨go, k, none⟩) (Nat.zero_le _) v).tape.trans h.tape, ((Below.refl 0 w).setCell (p := ⟨go, k, none⟩) (Nat.zero_le _) v).output.trans h.output, (by simpa using h.size), fun j hj hne => (set_far (p := ⟨go, k, none⟩) v (fun e => hne (by rw [e]))).trans (h.block j hj hne)⟩
theorem RdI.gb {w w' : World} {g n go : Nat} {l : List Int} (h : RdI w (some ⟨g, 0, none⟩) n l) (hg : w.grownBy w' (some go)) (hne : g ≠ go) : RdI w' (some ⟨g, 0, none⟩) n l := by
 refine ⟨h.1, fun h0 => ?_⟩
 obtain ⟨b, off, he, hb, hc⟩ := h.2 h0
 cases he
 exact ⟨g, 0, rfl, Nat.lt_of_lt_of_le hb hg.size, fun j hj => (World.cell?_of_block (a := ⟨g, 0 + j, none⟩) (hg.block g hb (fun e => hne (Option.some.inj e)))).trans (hc j hj)⟩
theorem VD.rdB {w : World} {B n : Nat} {f : Pr → List Int} {ps : List Pr} {vs : List Value} {x : Value} (h : VD w B n f ps vs ps.length) (hown : OwnD w B x ps.length vs) : ∃ A cap, x = .slice A ps.length cap ∧ RdDB w B A ps.length (ps.map f) := by
 obtain ⟨A, cap, rfl, hr⟩ := Sl.of_own hown
 refine ⟨A, cap, rfl, vs, hr, by simp, fun h0 b off he => ?_, fun k x hx => ?_⟩
 ·obtain ⟨_, ⟨h1, h2⟩ | ⟨g', cap', cur, e, hg', _⟩⟩ := hown
  ·omega
  ·cases e; cases he; exact hg'
 rw [List.getElem?_map] at hx
 cases hp : ps[k]? with
 | none => rw [hp] at hx; cases hx
 | some p =>
  rw [hp] at hx
  have hxe : f p = x := by simpa using hx
  have hk : k < ps.length := by
   by_cases h : k < ps.length
   ·exact h
   ·rw [List.getElem?_eq_none (by omega)] at hp; cases hp
  obtain ⟨g, cap, h1, h2⟩ := h.2 k p hk hp
  rw [hxe] at h2
  have hl := h2.len
  obtain ⟨cs, c1, _, _, _, _, _, c7⟩ := h2
  rw [hl]
  have h2 : RowI w B g cap n x := by
   obtain ⟨g2, cap2, h1', h2'⟩ := h.2 k p hk hp
   rw [h1] at h1'
   cases h1'
   rw [hxe] at h2'
   exact h2'
  exact ⟨g, cap, h1, c7, (Array.getElem?_eq_some_iff.1 c1).1, h2.rd⟩
theorem c108 (c r : Nat) (A : Option Addr) (n cap : Nat) (l : List Int) (un len most : Int) (P : Option Addr) (np capp : Nat) (ps : List Pr) (w : World) (g : Im.Gr c r l) (hc : c ≤ 16) (hr : r ≤ 16) (hu : 1 ≤ un ∧ un ≤ 1000) (hnp : np ≤ 16) (hcp : np ≤ capp) (hcells : ∀ p, p ∈ ps → (0 ≤ p.s ∧ p.s < (n : Int)) ∧ (0 ≤ p.r ∧ p.r < (n : Int))) (H : RdI w A n l) (HP : RdP w P np ps) (hst : Steps w) :
  Calls Tryz.prog 108 #[.agg #[.int .i64 c, .int .i64 r, .slice A n cap], .agg #[.int .i64 un, .int .i64 len, .int .i64 most, .slice P np capp]] w fun en w' => ∃ A' cap', en = .returned (.slice A' np cap') ∧ RdDB w' w.heap.size A' np (ps.map (dlp c l un len most)) ∧ Below w.heap.size w w' := by
 have HPL := Lib.hid HP.len
 have HLN := Lib.hid H.len
 have HCE := Lib.hid hcells
 clear hcells
 have hn0 : 0 < n := by
  have h1 := g.c1; have h2 := g.r1; have h3 := g.len
  have : 1 * 1 ≤ c * r := Nat.mul_le_mul h1 h2
  rw [← HLN.out]; omega
 obtain ⟨i0, hi, hz0, hz1, hz2⟩ := info_parts infoSl
 obtain ⟨w0, hW⟩ : ∃ W, W = (w.alloc (Obj.cells #[.int .i64 c, .int .i64 r, .slice A n cap] 35)).alloc (Obj.cells #[.int .i64 un, .int .i64 len, .int .i64 most, .slice P np capp] 39) := ⟨_, rfl⟩
 have hT0 : w0.heap[w.heap.size]? = some (.cells #[.int .i64 c, .int .i64 r, .slice A n cap] 35 (0, 0)) := by rw [hW]; exact heap_old (by simp <;> omega) (heap_new (by simp))
 have hT1 : w0.heap[w.heap.size + 1]? = some (.cells #[.int .i64 un, .int .i64 len, .int .i64 most, .slice P np capp] 39 (0, 0)) := by rw [hW]; exact heap_new (by simp)
 have hB0 : Below w.heap.size w w0 := by rw [hW]; exact (((Below.refl _ _).alloc (by first | omega | (simp <;> omega)) _).alloc (by first | omega | (simp <;> omega)) _)
 replace H := H.below hB0
 replace HP := HP.below hB0
 replace hst := hst.below hB0
 go_enter Tryz.func108, Tryz.ntmps108
 go_wp2_with fail
 rw [← hW]
 clear hW
 have qhT0_0 : w0.cell? ⟨w.heap.size, 0, none⟩ = some (.int .i64 c) := cell_at hT0 rfl
 have qhT0_1 : w0.cell? ⟨w.heap.size, 1, none⟩ = some (.int .i64 r) := cell_at hT0 rfl
 have qhT0_2 : w0.cell? ⟨w.heap.size, 2, none⟩ = some (.slice A n cap) := cell_at hT0 rfl
 have qhT1_0 : w0.cell? ⟨w.heap.size + 1, 0, none⟩ = some (.int .i64 un) := cell_at hT1 rfl
 have qhT1_1 : w0.cell? ⟨w.heap.size + 1, 1, none⟩ = some (.int .i64 len) := cell_at hT1 rfl
 have qhT1_2 : w0.cell? ⟨w.heap.size + 1, 2, none⟩ = some (.int .i64 most) := cell_at hT1 rfl
 have qhT1_3 : w0.cell? ⟨w.heap.size + 1, 3, none⟩ = some (.slice P np capp) := cell_at hT1 rfl
 have HSW : Hid (w.heap.size ≤ w0.heap.size) := Lib.hid hB0.size
 go_wp2_with fail
 have hst0 : Hid (VD w0 w0.heap.size n (dlp c l un len most) ps [] 0) := Lib.hid ⟨rfl, fun j _ h => absurd h (Nat.not_lt_zero j)⟩
 go_loopw [5, 12] (fun x i wr => ∃ (k : Nat) (vs : List Value), k ≤ np ∧ i = .int .i64 k ∧ OwnD wr w0.heap.size x k vs ∧ Hid (VD wr w0.heap.size n (dlp c l un len most) ps vs k) ∧ Below w0.heap.size w0 wr) (fun _ i _ => np - (intOf i).toNat)
 case atStart => exact ⟨0, [], Nat.zero_le _, rfl, World.ownsRow_nil _ _ _ _, hst0, Below.refl _ _⟩
 case round =>
  clear hst0
  obtain ⟨k, vs, hk, rfl, hown, HVD, hbr⟩ := hrel
  have hvd := HVD.out
  clear HVD
  obtain ⟨w1, hww⟩ : ∃ W, W = wr := ⟨_, rfl⟩
  subst hww
  have hB1 := hB0.call hbr rfl
  replace hT0 := blkb hT0 hbr
  replace hT1 := blkb hT1 hbr
  replace H := H.below hbr
  replace HP := HP.below hbr
  replace hst := hst.below hbr
  clear hB0
  have qhT0_0 : w1.cell? ⟨w.heap.size, 0, none⟩ = some (.int .i64 c) := cell_at hT0 rfl
  have qhT0_1 : w1.cell? ⟨w.heap.size, 1, none⟩ = some (.int .i64 r) := cell_at hT0 rfl
  have qhT0_2 : w1.cell? ⟨w.heap.size, 2, none⟩ = some (.slice A n cap) := cell_at hT0 rfl
  have qhT1_0 : w1.cell? ⟨w.heap.size + 1, 0, none⟩ = some (.int .i64 un) := cell_at hT1 rfl
  have qhT1_1 : w1.cell? ⟨w.heap.size + 1, 1, none⟩ = some (.int .i64 len) := cell_at hT1 rfl
  have qhT1_2 : w1.cell? ⟨w.heap.size + 1, 2, none⟩ = some (.int .i64 most) := cell_at hT1 rfl
  have qhT1_3 : w1.cell? ⟨w.heap.size + 1, 3, none⟩ = some (.slice P np capp) := cell_at hT1 rfl
  have hwk : IntKind.i64.wrap ((k : Int) + 1) = ((k + 1 : Nat) : Int) := by rw [wrapI (by omega)]; simp
  by_cases hlt : k < np
  rotate_left
  ·
    obtain rfl : np = k := by omega
    obtain ⟨A', cap', rfl, HF⟩ : ∃ A' cap', u5 = .slice A' np cap' ∧ Hid (RdDB w1 w.heap.size A' np (ps.map (dlp c l un len most))) := by
     have e := HPL.out
     subst e
     obtain ⟨A', cap', h1, h2⟩ := hvd.rdB hown
     exact ⟨A', cap', h1, Lib.hid (h2.lowerB HSW.out)⟩
    go_wp2
    go_ret
    exact ⟨A', cap', rfl, HF.out, hB1⟩
  have hkm2 : (k : Int) < (np : Int) := by omega
  have hk02 : (0 : Int) ≤ (k : Int) := by omega
  have hkc : (k : Int) ≤ (capp : Int) := by omega
  obtain ⟨pb, poff, p, rfl, hpx, hpb, hp0, hp1, hp2⟩ := HP.at hlt
  have hpc := HCE.out p (List.mem_of_getElem? hpx)
  obtain ⟨p0, p1, ph⟩ := p
  dsimp only at hpc hp0 hp1 hp2
  obtain ⟨a, rfl⟩ : ∃ a : Nat, p0 = a := ⟨p0.toNat, by omega⟩
  obtain ⟨b, rfl⟩ : ∃ b : Nat, p1 = b := ⟨p1.toNat, by omega⟩
  have han : a < n := by omega
  have hbn : b < n := by omega
  have HPX := Lib.hid hpx
  clear hpx hpc
  obtain ⟨A5, cap5, rfl, hrd5⟩ := Sl.of_own hown
  have z0 : w.heap.size < w1.heap.size := (Array.getElem?_eq_some_iff.1 hT0).1
  have z1 : w.heap.size + 1 < w1.heap.size := (Array.getElem?_eq_some_iff.1 hT1).1
  go_wp2_with fail
  obtain ⟨w2, hwn⟩ : ∃ V, V = w1.alloc (Obj.cells #[.int .i64 a, .int .i64 b, .bool ph] 148) := ⟨_, rfl⟩
  have hbn0 : Below w1.heap.size w1 w2 := by rw [hwn]; exact (Below.refl _ _).alloc (Nat.le_refl _) _
  obtain ⟨bkp, hbkp⟩ : ∃ b, b = w1.heap.size := ⟨_, rfl⟩
  have kp : w2.heap[bkp]? = some (.cells #[.int .i64 a, .int .i64 b, .bool ph] 148 (0, 0)) := by rw [hwn]; exact heap_new hbkp
  rw [← hbkp, ← hwn]
  clear hwn hbkp hp0 hp1 hp2 z0 z1
  clear qhT0_0 qhT0_1 qhT0_2 qhT1_0 qhT1_1 qhT1_2 qhT1_3
  have hS := hbn0
  have hB2 := hB1.call hS rfl
  replace hT0 := blkb hT0 hS
  replace hT1 := blkb hT1 hS
  replace H := H.below hS
  replace HP := HP.below hS
  replace hst := hst.below hS
  replace hbr := hbr.call hS rfl
  replace hown := hown.below hS
  replace hvd := hvd.below hS
  replace hrd5 := hrd5.below hS
  clear hS hB1
  have qhT0_0 : w2.cell? ⟨w.heap.size, 0, none⟩ = some (.int .i64 c) := cell_at hT0 rfl
  have qhT0_1 : w2.cell? ⟨w.heap.size, 1, none⟩ = some (.int .i64 r) := cell_at hT0 rfl
  have qhT0_2 : w2.cell? ⟨w.heap.size, 2, none⟩ = some (.slice A n cap) := cell_at hT0 rfl
  have qhT1_0 : w2.cell? ⟨w.heap.size + 1, 0, none⟩ = some (.int .i64 un) := cell_at hT1 rfl
  have qhT1_1 : w2.cell? ⟨w.heap.size + 1, 1, none⟩ = some (.int .i64 len) := cell_at hT1 rfl
  have qhT1_2 : w2.cell? ⟨w.heap.size + 1, 2, none⟩ = some (.int .i64 most) := cell_at hT1 rfl
  have qhT1_3 : w2.cell? ⟨w.heap.size + 1, 3, none⟩ = some (.slice (some ⟨pb, poff, none⟩) np capp) := cell_at hT1 rfl
  clear hbn0
  have qkp_0 : w2.cell? ⟨bkp, 0, none⟩ = some (.int .i64 a) := cell_at kp rfl
  have qkp_1 : w2.cell? ⟨bkp, 1, none⟩ = some (.int .i64 b) := cell_at kp rfl
  have qkp_2 : w2.cell? ⟨bkp, 2, none⟩ = some (.bool ph) := cell_at kp rfl
  go_wp2_with fail
  refine (c146 (some ⟨pb, poff, none⟩) k capp (ps.take k) ⟨bkp, 0, none⟩ (fun o => eqP o ⟨a, b, ph⟩) _ (by omega) (RdP.take HP (by omega)) (fun W x _ hW => c147 x ⟨a, b, ph⟩ bkp W (blkb kp hW))).mono ?_
  rintro e w3 ⟨ri, rfl, hri, hb⟩
  clear qhT0_0 qhT0_1 qhT0_2 qhT1_0 qhT1_1 qhT1_2 qhT1_3 qkp_0 qkp_1 qkp_2
  have hS := hb
  have hB3 := hB2.call hS rfl
  replace hT0 := blkb hT0 hS
  replace hT1 := blkb hT1 hS
  replace H := H.below hS
  replace HP := HP.below hS
  replace hst := hst.below hS
  replace hbr := hbr.call hS rfl
  replace hown := hown.below hS
  replace hvd := hvd.below hS
  replace hrd5 := hrd5.below hS
  replace kp := blkb kp hS
  clear hS hB2
  have qhT0_0 : w3.cell? ⟨w.heap.size, 0, none⟩ = some (.int .i64 c) := cell_at hT0 rfl
  have qhT0_1 : w3.cell? ⟨w.heap.size, 1, none⟩ = some (.int .i64 r) := cell_at hT0 rfl
  have qhT0_2 : w3.cell? ⟨w.heap.size, 2, none⟩ = some (.slice A n cap) := cell_at hT0 rfl
  have qhT1_0 : w3.cell? ⟨w.heap.size + 1, 0, none⟩ = some (.int .i64 un) := cell_at hT1 rfl
  have qhT1_1 : w3.cell? ⟨w.heap.size + 1, 1, none⟩ = some (.int .i64 len) := cell_at hT1 rfl
  have qhT1_2 : w3.cell? ⟨w.heap.size + 1, 2, none⟩ = some (.int .i64 most) := cell_at hT1 rfl
  have qhT1_3 : w3.cell? ⟨w.heap.size + 1, 3, none⟩ = some (.slice (some ⟨pb, poff, none⟩) np capp) := cell_at hT1 rfl
  have qkp_0 : w3.cell? ⟨bkp, 0, none⟩ = some (.int .i64 a) := cell_at kp rfl
  have qkp_1 : w3.cell? ⟨bkp, 1, none⟩ = some (.int .i64 b) := cell_at kp rfl
  have qkp_2 : w3.cell? ⟨bkp, 2, none⟩ = some (.bool ph) := cell_at kp rfl
  clear hb
  rcases hri with rfl | ⟨j, xj, rfl, hjk, hxj, hf⟩
  ·
    have hszq : w0.heap.size ≤ w3.heap.size := hbr.size
    go_wp2_with fail
    go_wp2_with fail
    refine (c99 c r A n cap l un len most (some ⟨pb, poff, none⟩) np capp a b ph _ g hc hr hu han hbn H hst).mono ?_
    rintro e w4 ⟨vd, rfl, hownd, hb⟩
    clear qhT0_0 qhT0_1 qhT0_2 qhT1_0 qhT1_1 qhT1_2 qhT1_3 qkp_0 qkp_1 qkp_2
    have hS := hb
    have hB4 := hB3.call hS rfl
    replace hT0 := blkb hT0 hS
    replace hT1 := blkb hT1 hS
    replace H := H.below hS
    replace HP := HP.below hS
    replace hst := hst.below hS
    replace hbr := hbr.call hS rfl
    replace hown := hown.below hS
    replace hvd := hvd.below hS
    replace hrd5 := hrd5.below hS
    replace kp := blkb kp hS
    clear hS hB3
    have qhT0_0 : w4.cell? ⟨w.heap.size, 0, none⟩ = some (.int .i64 c) := cell_at hT0 rfl
    have qhT0_1 : w4.cell? ⟨w.heap.size, 1, none⟩ = some (.int .i64 r) := cell_at hT0 rfl
    have qhT0_2 : w4.cell? ⟨w.heap.size, 2, none⟩ = some (.slice A n cap) := cell_at hT0 rfl
    have qhT1_0 : w4.cell? ⟨w.heap.size + 1, 0, none⟩ = some (.int .i64 un) := cell_at hT1 rfl
    have qhT1_1 : w4.cell? ⟨w.heap.size + 1, 1, none⟩ = some (.int .i64 len) := cell_at hT1 rfl
    have qhT1_2 : w4.cell? ⟨w.heap.size + 1, 2, none⟩ = some (.int .i64 most) := cell_at hT1 rfl
    have qhT1_3 : w4.cell? ⟨w.heap.size + 1, 3, none⟩ = some (.slice (some ⟨pb, poff, none⟩) np capp) := cell_at hT1 rfl
    have qkp_0 : w4.cell? ⟨bkp, 0, none⟩ = some (.int .i64 a) := cell_at kp rfl
    have qkp_1 : w4.cell? ⟨bkp, 1, none⟩ = some (.int .i64 b) := cell_at kp rfl
    have qkp_2 : w4.cell? ⟨bkp, 2, none⟩ = some (.bool ph) := cell_at kp rfl
    clear hb
    obtain ⟨gd, cd, rfl, hrowd⟩ := RowI.of_own hn0 hownd
    clear hownd
    have hrow : RowI w4 w0.heap.size gd cd n (dlp c l un len most ⟨a, b, ph⟩) := hrowd.lower hszq
    have hszn : w0.heap.size ≤ w4.heap.size := hbr.size
    have HBN : Hid (Below w0.heap.size w0 w4) := Lib.hid hbr
    have HVD := Lib.hid hvd
    have HROW := Lib.hid hrow
    have hown' : w4.ownsRow w0.heap.size 22 1 (.slice A5 k cap5) k vs := hown
    have HOWN := Lib.hid hown'
    clear hrow hvd
    go_wp2_with (at_builtin; refine wpList_append_own _ rfl _ _ 31 rfl w0.heap.size 22 i0 (.slice none 0 0) 1 24 Tryz.underlying31 hi hz0 hz1 hz2 rfl (by decide) _ _ _ rfl (hown'.alloc _) ⟨w4.heap.size, 0, none⟩ 1 1 [.slice (some ⟨gd, 0, none⟩) n cd] rfl rfl ?c1 ?c2 ?c3 ?c4 ?c5 ?_)
    case c1 => exact news_one _ _ rfl
    case c2 => intro x hx; simp at hx; subst hx; rfl
    case c3 => unfold maxLen; omega
    case c4 => omega
    case c5 => simp; omega
    intro x' wz hown3 hg3 _
    have hal : Below w4.heap.size w4 (w4.alloc (Obj.cells #[.slice (some ⟨gd, 0, none⟩) n cd] 22)) := (Below.refl _ _).alloc (Nat.le_refl _) _
    have HB3 : Hid (Below w0.heap.size w0 wz) := Lib.hid ((HBN.out.alloc hszn _).grown hg3 (by simp; omega) (fun g hg => (hown'.lt g hg).1))
    have HVD3 : Hid (VD wz w0.heap.size n (dlp c l un len most) ps (vs ++ [.slice (some ⟨gd, 0, none⟩) n cd]) (k + 1)) := Lib.hid ((HVD.out.below hal).push (hown'.alloc _) hg3 HPX.out (HROW.out.below hal))
    have HO : Hid (OwnD wz w0.heap.size x' (k + 1) (vs ++ [.slice (some ⟨gd, 0, none⟩) n cd])) := Lib.hid hown3
    clear hown3 hg3 hal hown' hown hszn hbr
    go_wp2
    go_roundw
    case rel => exact ⟨k + 1, vs ++ [.slice (some ⟨gd, 0, none⟩) n cd], by omega, by go_num, HO.out, HVD3, HB3.out⟩
    case measure => simp [intOf]; omega
  ·
    have hjps : ps[j]? = some xj := by rw [List.getElem?_take, if_pos hjk] at hxj; exact hxj
    have hxe := eqP_eq hf
    obtain ⟨gd, cd, hvj, hrowd⟩ := hvd.2 j xj hjk hjps
    subst hxe
    obtain ⟨gx, ox, hA5, hgx, hcx⟩ := RdS.at hrd5 hjk
    subst hA5
    have hcj := hcx 0 (by omega)
    rw [Nat.mul_one, Nat.add_zero, hvj] at hcj
    have hjd : decide ((0 : Int) ≤ (j : Int)) = true := by simp
    have hj0 : (0 : Int) ≤ (j : Int) := by omega
    have hjk2 : (j : Int) < (k : Int) := by omega
    have hszq : True := trivial
    clear hcx hxj hf hvj hjps
    have hrow : RowI w3 w0.heap.size gd cd n (dlp c l un len most ⟨a, b, ph⟩) := hrowd
    have hszn : w0.heap.size ≤ w3.heap.size := hbr.size
    have HBN : Hid (Below w0.heap.size w0 w3) := Lib.hid hbr
    have HVD := Lib.hid hvd
    have HROW := Lib.hid hrow
    have hown' : w3.ownsRow w0.heap.size 22 1 (.slice (some ⟨gx, ox, none⟩) k cap5) k vs := hown
    have HOWN := Lib.hid hown'
    clear hrow hvd
    go_wp2_with (at_builtin; refine wpList_append_own _ rfl _ _ 31 rfl w0.heap.size 22 i0 (.slice none 0 0) 1 24 Tryz.underlying31 hi hz0 hz1 hz2 rfl (by decide) _ _ _ rfl (hown'.alloc _) ⟨w3.heap.size, 0, none⟩ 1 1 [.slice (some ⟨gd, 0, none⟩) n cd] rfl rfl ?c1 ?c2 ?c3 ?c4 ?c5 ?_)
    case c1 => exact news_one _ _ rfl
    case c2 => intro x hx; simp at hx; subst hx; rfl
    case c3 => unfold maxLen; omega
    case c4 => omega
    case c5 => simp; omega
    intro x' wz hown3 hg3 _
    have hal : Below w3.heap.size w3 (w3.alloc (Obj.cells #[.slice (some ⟨gd, 0, none⟩) n cd] 22)) := (Below.refl _ _).alloc (Nat.le_refl _) _
    have HB3 : Hid (Below w0.heap.size w0 wz) := Lib.hid ((HBN.out.alloc hszn _).grown hg3 (by simp; omega) (fun g hg => (hown'.lt g hg).1))
    have HVD3 : Hid (VD wz w0.heap.size n (dlp c l un len most) ps (vs ++ [.slice (some ⟨gd, 0, none⟩) n cd]) (k + 1)) := Lib.hid ((HVD.out.below hal).push (hown'.alloc _) hg3 HPX.out (HROW.out.below hal))
    have HO : Hid (OwnD wz w0.heap.size x' (k + 1) (vs ++ [.slice (some ⟨gd, 0, none⟩) n cd])) := Lib.hid hown3
    clear hown3 hg3 hal hown' hown hszn hbr
    go_wp2
    go_roundw
    case rel => exact ⟨k + 1, vs ++ [.slice (some ⟨gd, 0, none⟩) n cd], by omega, by go_num, HO.out, HVD3, HB3.out⟩
    case measure => simp [intOf]; omega
end Go.Proofs.YtdimmlljjmmdbaaGreatDoor
/- Plain laws of chapter 07: traces and images on their way. -/
namespace Im
def trk (len : Nat) (ds ms : List Int) (j : Nat) : List Int := ((List.zip ds ms).take j).foldl (fun tr x => addAt tr x.1 x.2) (List.replicate len 0)
theorem trk_zero (len : Nat) (ds ms : List Int) : trk len ds ms 0 = List.replicate len 0 := rfl
theorem trk_full {len : Nat} {ds ms : List Int} {j : Nat} (h1 : ds.length = j) (h2 : ms.length = j) : trk len ds ms j = trace len ds ms := by
 unfold trk trace
 rw [List.take_of_length_le (by simp; omega)]
theorem trk_succ {len : Nat} {ds ms : List Int} {j : Nat} (h1 : j < ds.length) (h2 : j < ms.length) : trk len ds ms (j + 1) = addAt (trk len ds ms j) (at0 ds j) (at0 ms j) := by
 unfold trk
 have h3 : j < (List.zip ds ms).length := by simp; omega
 rw [List.take_succ_eq_append_getElem h3, List.foldl_append]
 simp [at0, List.getD_eq_getElem?_getD, h1, h2]
theorem trk_len (len : Nat) (ds ms : List Int) (j : Nat) : (trk len ds ms j).length = len := by unfold trk; rw [trace_fold_len]; simp
theorem addAt_le {tr : List Int} {d m B C : Int} (hm : -B ≤ m ∧ m ≤ B) (h : ∀ i, -C ≤ at0 tr i ∧ at0 tr i ≤ C) (hB : 0 ≤ B) : ∀ i, -(C + B) ≤ at0 (addAt tr d m) i ∧ at0 (addAt tr d m) i ≤ C + B := by
 intro i
 unfold addAt
 split
 ·by_cases hd : d.toNat < tr.length
  ·rw [at0_setk hd]
   split
   ·have := h d.toNat; omega
   ·have := h i; omega
  ·rw [List.set_eq_of_length_le (by omega)]
   have := h i; omega
 ·have := h i; omega
theorem trk_le {len : Nat} {ds ms : List Int} {B : Int} (hB : 0 ≤ B) (hm : ∀ k, k < ms.length → -B ≤ at0 ms k ∧ at0 ms k ≤ B) (hl : ds.length = ms.length) : ∀ (j : Nat), j ≤ ds.length → ∀ i, -((j : Int) * B) ≤ at0 (trk len ds ms j) i ∧ at0 (trk len ds ms j) i ≤ (j : Int) * B := by
 intro j
 induction j with
 | zero => intro _ i; rw [trk_zero, zeros_at]; simp
 | succ j ih =>
  intro hj i
  rw [trk_succ (by omega) (by omega)]
  have h1 := addAt_le (d := at0 ds j) (hm j (by omega)) (ih (by omega)) hB i
  have e : ((j + 1 : Nat) : Int) * B = (j : Int) * B + B := by rw [Int.natCast_add, Int.add_mul]; simp
  rw [e]; exact h1
/-- a list, the first k places filled -/
def upto (T : List (List Int)) (k : Nat) : List (List Int) := (List.range T.length).map fun j => if j < k then T.getD j [] else []
theorem upto_len (T : List (List Int)) (k : Nat) : (upto T k).length = T.length := by simp [upto]
theorem upto_zero (T : List (List Int)) : upto T 0 = List.replicate T.length [] := by
 apply List.ext_getElem (by simp [upto])
 intro i h1 h2
 simp [upto]
theorem upto_full (T : List (List Int)) : upto T T.length = T := by
 apply List.ext_getElem (by simp [upto])
 intro i h1 h2
 simp [upto, h2, List.getD_eq_getElem?_getD]
theorem upto_set {T : List (List Int)} {k : Nat} {x : List Int} (hx : T[k]? = some x) : (upto T k).set k x = upto T (k + 1) := by
 apply List.ext_getElem (by simp [upto])
 intro i h1 h2
 have hi : i < T.length := by simpa [upto] using h2
 by_cases h3 : k = i
 ·subst h3
  simp [upto, List.getD_eq_getElem?_getD, hx]
 ·rw [List.getElem_set_ne h3]
  simp only [upto, List.getElem_map, List.getElem_range]
  by_cases h4 : i < k
  ·rw [if_pos h4, if_pos (by omega)]
  ·rw [if_neg h4, if_neg (by omega)]
theorem upto_nil {T : List (List Int)} {k : Nat} (hx : T[k]? = some []) : upto T (k + 1) = upto T k := by
 apply List.ext_getElem (by simp [upto])
 intro i h1 h2
 simp only [upto, List.getElem_map, List.getElem_range]
 by_cases h3 : i = k
 ·subst h3
  rw [if_pos (by omega), if_neg (by omega)]
  simp [List.getD_eq_getElem?_getD, hx]
 ·by_cases h4 : i < k
  ·rw [if_pos h4, if_pos (by omega)]
  ·rw [if_neg h4, if_neg (by omega)]
/-- a list on its way to another one -/
def mix (a b : List Int) (j : Nat) : List Int := (List.range a.length).map fun i => if i < j then at0 b i else at0 a i
theorem mix_len (a b : List Int) (j : Nat) : (mix a b j).length = a.length := by simp [mix]
theorem mix_get {a b : List Int} {j i : Nat} (h : i < a.length) : at0 (mix a b j) i = if i < j then at0 b i else at0 a i := at0_map_range _ _ _ h
theorem mix_zero (a b : List Int) : mix a b 0 = a := ext_at (mix_len _ _ _) fun i hi => by
 rw [mix_len] at hi
 rw [mix_get hi, if_neg (Nat.not_lt_zero i)]
theorem mix_full {a b : List Int} (h : b.length = a.length) : mix a b a.length = b := ext_at (by rw [mix_len, h]) fun i hi => by
 rw [mix_len] at hi
 rw [mix_get hi, if_pos hi]
theorem mix_keep {a b : List Int} {j : Nat} (h : at0 b j = at0 a j) : mix a b (j + 1) = mix a b j := ext_at (by simp [mix_len]) fun i hi => by
 rw [mix_len] at hi
 rw [mix_get hi, mix_get hi]
 by_cases e : i = j
 ·subst e
  rw [if_pos (by omega), if_neg (by omega), h]
 ·by_cases h4 : i < j
  ·rw [if_pos h4, if_pos (by omega)]
  ·rw [if_neg h4, if_neg (by omega)]
theorem mix_set {a b : List Int} {j : Nat} (hj : j < a.length) : (mix a b j).set j (at0 b j) = mix a b (j + 1) := ext_at (by simp [mix_len]) fun i hi => by
 have hi : i < a.length := by simpa [mix_len] using hi
 rw [at0_setk (by rw [mix_len]; exact hj), mix_get hi, mix_get hi]
 by_cases e : i = j
 ·subst e
  rw [if_pos rfl, if_pos (by omega)]
 ·rw [if_neg e]
  by_cases h4 : i < j
  ·rw [if_pos h4, if_pos (by omega)]
  ·rw [if_neg h4, if_neg (by omega)]
theorem dly_lt {c : Nat} {l ns : List Int} {len most : Int} {hole : Bool} {i : Nat} (h : 0 ≤ dly c l ns len most hole i) : dly c l ns len most hole i < len := by
 unfold dly at h ⊢
 split
 ·rename_i hh; rw [if_pos hh] at h; omega
 ·rename_i hh
  simp only [Bool.or_eq_true, decide_eq_true_eq, not_or] at hh
  omega
theorem dly_hole (c : Nat) (l ns : List Int) (len most : Int) (i : Nat) : dly c l ns len most true i = -1 := by simp [dly]
end Im
