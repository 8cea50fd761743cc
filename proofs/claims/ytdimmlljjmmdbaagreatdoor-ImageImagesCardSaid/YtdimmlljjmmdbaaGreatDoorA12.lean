/- A part of the proofs about chapter 7 (image): contracts of functions and plain laws (PlanJ, PRef, V58). -/
import Derived.Test.YtdimmlljjmmdbaaGreatDoorA01
import Derived.Test.YtdimmlljjmmdbaaGreatDoorA04
set_option linter.all false
/- A region that draws its order, with one operation that comes whenever it likes ahead of its use, and that looks at a slot: J is what it asks of the slots. -/
namespace Go
open Go.RowKit
section
variable {P : Program} {ops : Array Oper} {md : Region.Mode} {C : World → Prop} {Q : Exit → Act → World → Prop} {Φ : Value → World → Prop} {J : Act → Prop}
def wpPlanJ (P : Program) (ops : Array Oper) (C : World → Prop) (Q : Exit → Act → World → Prop) (Φ : Value → World → Prop) (J : Act → Prop) : List (Nat × Nat) → Act → World → Prop
 | [], a, w => Q .normal a w
 | (i, k) :: p, a, w => (k = 1 ∨ J a) ∧ ∃ o, ops[i]? = some o ∧
  (if k = 1 then ∃ v, SoftIn P ops C o v a ∧ ∀ w'', Below w.heap.size w w'' → wpPlanJ P ops C Q Φ J p (a.put o.dst v) w''
   else if k = 0 then (if Region.wanted o (yielded ops a.tmps) then o.wp P a w (fun a' w' => (C w' ∧ Below w.heap.size w w') ∧ ∀ w'', Below w'.heap.size w' w'' → wpPlanJ P ops C Q Φ J p a' w'') Q
    else ∀ w'', Below w.heap.size w w'' → wpPlanJ P ops C Q Φ J p (a.put o.dst undef) w'')
   else if k = 3 then (if Region.wanted o (yielded ops a.tmps) then o.wp P a w (fun a' w' => C w' ∧ ∀ w'', Below w'.heap.size w' w'' → wpPlanJ P ops C Q Φ J p a' w'') Q
    else ∀ w'', Below w.heap.size w w'' → wpPlanJ P ops C Q Φ J p (a.put o.dst undef) w'')
   else ∀ v w'', Below w.heap.size w w'' → Φ v w'' → wpPlanJ P ops C Q Φ J p (a.put o.dst v) w'')
theorem wpPlanJ_F : ∀ (p : List (Nat × Nat)) (a : Act) (w : World), wpPlanJ P ops C Q Φ J p a w → wpPlanF P ops C Q Φ p a w
 | [], _, _, h => h
 | (i, k) :: p, a, w, ⟨_, o, ho, h⟩ => by
  refine ⟨o, ho, ?_⟩
  by_cases h1 : k = 1
  ·rw [if_pos h1] at h ⊢
   obtain ⟨v, hv, hK⟩ := h
   exact ⟨v, hv, fun w2 h2 => wpPlanJ_F p _ _ (hK w2 h2)⟩
  rw [if_neg h1] at h ⊢
  by_cases h0 : k = 0
  ·rw [if_pos h0] at h ⊢
   split
   ·rename_i hw
    rw [if_pos hw] at h
    exact Oper.wp_mono (fun a' w' h' => ⟨h'.1, fun w2 h2 => wpPlanJ_F p _ _ (h'.2 w2 h2)⟩) h
   ·rename_i hw
    rw [if_neg hw] at h
    exact fun w2 h2 => wpPlanJ_F p _ _ (h w2 h2)
  rw [if_neg h0] at h ⊢
  by_cases h3 : k = 3
  ·rw [if_pos h3] at h ⊢
   split
   ·rename_i hw
    rw [if_pos hw] at h
    exact Oper.wp_mono (fun a' w' h' => ⟨h'.1, fun w2 h2 => wpPlanJ_F p _ _ (h'.2 w2 h2)⟩) h
   ·rename_i hw
    rw [if_neg hw] at h
    exact fun w2 h2 => wpPlanJ_F p _ _ (h w2 h2)
  rw [if_neg h3] at h ⊢
  exact fun v w2 h2 hv => wpPlanJ_F p _ _ (h v w2 h2 hv)
def wpPlanJA (P : Program) (ops : Array Oper) (C : World → Prop) (Q : Exit → Act → World → Prop) (Φ : Value → World → Prop) (J : Act → Prop) (p : List (Nat × Nat)) (a : Act) (W0 : World) : Prop :=
 ∀ w'', Below W0.heap.size W0 w'' → wpPlanJ P ops C Q Φ J p a w''
theorem wpAnyT_okBJ (hCg : ∀ w w', C w → Below w.heap.size w w' → C w') (hs : Region.noSelect ops = true) (hQ : ∀ c a d v w, Q (.panic c) (a.put d v) w → Q (.panic c) a w)
  (hQ2 : ∀ c a d v w, Q (.panic c) a w → Q (.panic c) (a.put d v) w) (hΦ : ∀ v w w', Φ v w → Below w.heap.size w w' → Φ v w') {f : Nat} {of : Oper} (hof : ops[f]? = some of)
  (hF : ∀ a w, J a → C w → Region.wanted of (yielded ops a.tmps) = true ∧ of.wp P a w (fun a' w' => ∃ v, a' = a.put of.dst v ∧ Φ v w' ∧ Below w.heap.size w w') Q) :
  ∀ (p : List (Nat × Nat)) (listed : Array Bool) (a : Act) (w : World), C w → Region.okB md ops f p listed = true → wpPlanJA P ops C Q Φ J p a w → wpAnyT P md ops C Q p.length listed a w
 | [], _, _, _, _, hB, _ => by cases hB
 | (i, k) :: p, listed, a, w, hC, hB, hA => by
  obtain ⟨hJ, o, ho, h⟩ := hA w (Below.refl _ _)
  have hA0 := hA
  unfold Region.okB at hB
  by_cases h1 : k = 1
  ·rw [if_pos h1] at hB h
   obtain ⟨u, hy, hK⟩ := h
   simp only [Bool.and_eq_true] at hB
   obtain ⟨⟨hr, hf⟩, hB'⟩ := hB
   refine wpAnyT_first hCg ho (Region.noSelect_spec hs) hQ p.length listed _ w (Region.free_spec ho hf) (by simpa using hr) hy hC fun w' hw' => ?_
   exact wpAnyT_okBJ hCg hs hQ hQ2 hΦ hof hF p _ _ w' (hCg _ _ hC hw') hB' (fun w2 hw2 => hK w2 (hw'.trans (hw2.mono hw'.size)))
  ·rw [if_neg h1] at hB h
   by_cases h0 : k = 0
   ·have hJ0 := hJ.resolve_left h1
    subst h0
    rw [if_pos rfl] at hB h
    simp only [Bool.and_eq_true] at hB
    obtain ⟨⟨⟨hr, hall⟩, hBA⟩, hB'⟩ := hB
    refine ⟨fun h => (by rw [h] at hr; simp at hr), fun j hj => ?_⟩
    have hj2 := List.all_eq_true.1 hall j hj
    simp only [Bool.or_eq_true, beq_iff_eq] at hj2
    rcases hj2 with rfl | rfl
    ·unfold wpOp
     rw [ho]
     show if Region.wanted o (yielded ops a.tmps) = true then _ else _
     split
     ·rename_i hw
      rw [if_pos hw] at h
      exact .inl (Oper.wp_mono (fun a' w' h' => ⟨h'.1.1, fun w'' hw'' => wpAnyT_okBJ hCg hs hQ hQ2 hΦ hof hF p _ a' w'' (hCg _ _ h'.1.1 hw'') hB' (fun w2 hw2 => h'.2 w2 (hw''.trans (hw2.mono hw''.size)))⟩) h)
     ·rename_i hw
      rw [if_neg hw] at h
      exact ⟨hC, fun w'' hw'' => wpAnyT_okBJ hCg hs hQ hQ2 hΦ hof hF p _ _ w'' (hCg _ _ hC hw'') hB' (fun w2 hw2 => h w2 (hw''.trans (hw2.mono hw''.size)))⟩
    ·obtain ⟨hwt, hwp⟩ := hF a w hJ0 hC
     unfold wpOp
     rw [hof]
     show if Region.wanted of (yielded ops a.tmps) = true then _ else _
     rw [if_pos hwt]
     refine .inl (Oper.wp_mono ?_ hwp)
     rintro a' w' ⟨v, rfl, hv, hb⟩
     refine ⟨hCg _ _ hC hb, fun w'' hw'' => ?_⟩
     have hbb := hb.trans (hw''.mono hb.size)
     exact wpAnyT_okA hCg hs hQ hQ2 hΦ hof v ((i, 0) :: p) _ a w'' (hCg _ _ hC hbb) hBA (hΦ _ _ _ hv hw'') (wpPlanJ_F _ _ _ (hA0 w'' hbb))
   ·rw [if_neg h0] at hB h
    by_cases h3 : k = 3
    ·rw [if_pos h3] at hB; cases hB
    rw [if_neg h3] at hB h
    simp only [Bool.and_eq_true, beq_iff_eq] at hB
    obtain ⟨⟨rfl, hr⟩, hB'⟩ := hB
    obtain rfl := Option.some.inj (hof.symm.trans ho)
    refine ⟨fun h => (by rw [hr] at h; cases h), fun j hj => ?_⟩
    rw [hr] at hj
    obtain rfl := List.mem_singleton.1 hj
    obtain ⟨hwt, hwp⟩ := hF a w (hJ.resolve_left h1) hC
    unfold wpOp
    rw [hof]
    show if Region.wanted of (yielded ops a.tmps) = true then _ else _
    rw [if_pos hwt]
    refine .inl (Oper.wp_mono ?_ hwp)
    rintro a' w' ⟨v, rfl, hv, hb⟩
    refine ⟨hCg _ _ hC hb, fun w'' hw'' => ?_⟩
    have hbb := hb.trans (hw''.mono hb.size)
    exact wpAnyT_ok0 hCg hs hQ p _ _ w'' (hCg _ _ hC hbb) hB' (wpPlanJ_F _ _ _ (h v w'' hbb (hΦ _ _ _ hv hw'')))

theorem wp_region_planJ {id : Nat} {a : Act} {W : World} (p : List (Nat × Nat)) (f B : Nat) (of : Oper) (hof : ops[f]? = some of) (hm : P.follows .mixedOrders = true)
  (hB : (p.length == ops.size && Region.noSelect ops && Region.okB .any ops f p (Array.replicate ops.size false)) = true) (hBW : B ≤ W.heap.size)
  (hQ : ∀ c a d v w, Q (.panic c) (a.put d v) w → Q (.panic c) a w) (hQ2 : ∀ c a d v w, Q (.panic c) a w → Q (.panic c) (a.put d v) w)
  (hΦ : ∀ v w w', Φ v w → Below w.heap.size w w' → Φ v w')
  (hF : ∀ a w, J a → Below B W w → Region.wanted of (yielded ops a.tmps) = true ∧ of.wp P a w (fun a' w' => ∃ v, a' = a.put of.dst v ∧ Φ v w' ∧ Below w.heap.size w w') Q)
  (h : wpPlanJA P ops (Below B W) Q Φ J p a W) : (Code.region id ops true).wp P Q a W := by
 simp only [Bool.and_eq_true, beq_iff_eq] at hB
 obtain ⟨⟨hlen, hs⟩, hP⟩ := hB
 have hCg : ∀ w w', Below B W w → Below w.heap.size w w' → Below B W w' := fun w w' h1 h2 => h1.trans (h2.mono (Nat.le_trans hBW h1.size))
 refine wp_region_any hm (wpAny_of_T (C := Below B W) _ _ _ _ ?_)
 have := wpAnyT_okBJ (P := P) (Q := Q) (C := Below B W) (md := .any) (ops := ops) (Φ := Φ) hCg hs hQ hQ2 hΦ hof hF p (Array.replicate ops.size false) a { W with drawn := W.drawn + 1 } ((Below.refl B W).drew) hP
  (fun w2 hw2 => h w2 (((Below.refl _ W).drew).trans (hw2.mono (Nat.le_refl _))))
 rw [hlen] at this
 exact this
theorem wpPlanJA_skip {l : List Oper} {i : Nat} {p : List (Nat × Nat)} {a : Act} {W0 : World} (o : Oper) (ho : l[i]? = some o) (hw : Region.wanted o (yielded l.toArray a.tmps) = false)
  (h : wpPlanJA P l.toArray C Q Φ J p (a.put o.dst undef) W0) : wpPlanJA P l.toArray C Q Φ J ((i, 1) :: p) a W0 :=
 fun w hg => ⟨.inl rfl, o, by rw [List.getElem?_toArray]; exact ho, by rw [if_pos rfl]; exact ⟨undef, .inr ⟨hw, rfl⟩, fun w2 hg2 => h w2 (hg.trans (hg2.mono hg.size))⟩⟩
theorem wpPlanJA_soft {l : List Oper} {B i : Nat} {W W0 : World} {p : List (Nat × Nat)} {a : Act} (o : Oper) (v : Value) (ho : l[i]? = some o) (hw : Region.wanted o (yielded l.toArray a.tmps) = true)
  (hv : ∀ w, Below B W w → (∀ b o, b < B → w.cell? ⟨b, o, none⟩ = W.cell? ⟨b, o, none⟩) → o.softAt P a w v)
  (h : wpPlanJA P l.toArray (Below B W) Q Φ J p (a.put o.dst v) W0) : wpPlanJA P l.toArray (Below B W) Q Φ J ((i, 1) :: p) a W0 :=
 fun w hg => ⟨.inl rfl, o, by rw [List.getElem?_toArray]; exact ho, by
  rw [if_pos rfl]
  exact ⟨v, .inl ⟨hw, fun w hb => hv w hb (fun b o h => hb.cell (p := ⟨b, o, none⟩) h)⟩, fun w2 hg2 => h w2 (hg.trans (hg2.mono hg.size))⟩⟩
theorem wpPlanJA_hard {l : List Oper} {i : Nat} {p : List (Nat × Nat)} {a : Act} {W0 : World} (o : Oper) (hJ : J a) (ho : l[i]? = some o) (hw : Region.wanted o (yielded l.toArray a.tmps) = true)
  (h : ∀ w, Below W0.heap.size W0 w → ∀ K : Act → World → Prop, (∀ a w1, C w1 → Below w.heap.size w w1 → wpPlanJA P l.toArray C Q Φ J p a w1 → K a w1) → o.wp P a w K Q) : wpPlanJA P l.toArray C Q Φ J ((i, 0) :: p) a W0 :=
 fun w hg => ⟨.inr hJ, o, by rw [List.getElem?_toArray]; exact ho, by
  rw [if_neg (by decide), if_pos rfl, if_pos hw]
  exact h w hg _ fun _ _ h1 h2 h3 => ⟨⟨h1, h2⟩, h3⟩⟩
theorem wpPlanJA_float {l : List Oper} {i : Nat} {p : List (Nat × Nat)} {a : Act} {W0 : World} (o : Oper) (hJ : J a) (ho : l[i]? = some o)
  (h : ∀ v w, Below W0.heap.size W0 w → Φ v w → wpPlanJA P l.toArray C Q Φ J p (a.put o.dst v) w) : wpPlanJA P l.toArray C Q Φ J ((i, 2) :: p) a W0 :=
 fun w hg => ⟨.inr hJ, o, by rw [List.getElem?_toArray]; exact ho, by
  rw [if_neg (by decide), if_neg (by decide), if_neg (by decide)]
  exact fun v w2 hg2 hv => h v w2 (hg.trans (hg2.mono hg.size)) hv w2 (Below.refl _ _)⟩
theorem wpPlanJA_late {l : List Oper} {i : Nat} {p : List (Nat × Nat)} {a : Act} {W0 : World} (o : Oper) (hJ : J a) (ho : l[i]? = some o) (hw : Region.wanted o (yielded l.toArray a.tmps) = true)
  (h : ∀ w, Below W0.heap.size W0 w → ∀ K : Act → World → Prop, (∀ a w1, C w1 → wpPlanJA P l.toArray C Q Φ J p a w1 → K a w1) → o.wp P a w K Q) : wpPlanJA P l.toArray C Q Φ J ((i, 3) :: p) a W0 :=
 fun w hg => ⟨.inr hJ, o, by rw [List.getElem?_toArray]; exact ho, by
  rw [if_neg (by decide), if_neg (by decide), if_pos rfl, if_pos hw]
  exact h w hg _ fun _ _ h1 h3 => ⟨h1, h3⟩⟩
theorem wpPlanJA_nil {a : Act} {W0 : World} (h : ∀ w, Below W0.heap.size W0 w → Q .normal a w) : wpPlanJA P ops C Q Φ J [] a W0 := h
end
end Go
/- Plain laws of chapter 07: the rounds of the reference's times. -/
namespace Im
/-- where a pass over all pairs stands: at a, b; ag tells whether something became shorter -/
structure Rnd (c : Nat) (l : List Int) (s : Nat) (t0 t : List Int) (a b : Nat) (ag : Bool) : Prop where
 rlx : Rlx c l s t
 yes : ag = true → sum t < sum t0
 no : ag = false → t = t0 ∧ ∀ x y, (x < a ∨ x = a ∧ y < b) → x < l.length → y < l.length → 0 < cost c l x y → at0 t y ≤ at0 t x + cost c l x y
theorem Rnd.start {c : Nat} {l : List Int} {s : Nat} {t : List Int} (h : Rlx c l s t) : Rnd c l s t t 0 0 false :=
 ⟨h, (fun e => by cases e), fun _ => ⟨rfl, fun x y h => by omega⟩⟩
theorem Rnd.skip {c : Nat} {l : List Int} {s : Nat} {t0 t : List Int} {a b : Nat} {ag : Bool} (h : Rnd c l s t0 t a b ag) (hs : ¬ (0 < cost c l a b ∧ at0 t a + cost c l a b < at0 t b)) : Rnd c l s t0 t a (b + 1) ag := by
 refine ⟨h.rlx, h.yes, fun e => ?_⟩
 obtain ⟨h1, h2⟩ := h.no e
 refine ⟨h1, fun x y hxy hx hy hc => ?_⟩
 by_cases hn : x < a ∨ x = a ∧ y < b
 ·exact h2 x y hn hx hy hc
 ·have hxa : x = a ∧ y = b := by omega
  obtain ⟨rfl, rfl⟩ := hxa
  exact Int.not_lt.1 fun hl => hs ⟨hc, hl⟩
theorem Rnd.take {c r : Nat} {l : List Int} {s : Nat} {t0 t : List Int} {a b : Nat} {ag : Bool} (g : Gr c r l) (h : Rnd c l s t0 t a b ag) (ha : a < l.length) (hb : b < l.length) (hc : 0 < cost c l a b) (hlt : at0 t a + cost c l a b < at0 t b) :
  Rnd c l s t0 (t.set b (at0 t a + cost c l a b)) a (b + 1) true := by
 refine ⟨h.rlx.step g ha hb hc hlt, fun _ => ?_, fun e => by cases e⟩
 rw [sum_set _ _ _ (by rw [h.rlx.len]; exact hb)]
 cases ag with
 | true => have := h.yes rfl; omega
 | false => obtain ⟨rfl, _⟩ := h.no rfl; omega
theorem Rnd.row {c : Nat} {l : List Int} {s : Nat} {t0 t : List Int} {a b : Nat} {ag : Bool} (h : Rnd c l s t0 t a b ag) (hb : l.length ≤ b) : Rnd c l s t0 t (a + 1) 0 ag := by
 refine ⟨h.rlx, h.yes, fun e => ?_⟩
 obtain ⟨h1, h2⟩ := h.no e
 refine ⟨h1, fun x y hxy hx hy hc => h2 x y ?_ hx hy hc⟩
 omega
theorem Rnd.done {c r : Nat} {l : List Int} {s : Nat} {t0 t : List Int} {a b : Nat} (g : Gr c r l) (hc : c ≤ 16) (hr : r ≤ 16) (hs : s < l.length) (h : Rnd c l s t0 t a b false) (ha : l.length ≤ a) : IsT c l s t :=
 h.rlx.done g hc hr hs fun x y hx hy hxy => (h.no rfl).2 x y (.inl (by omega)) hx hy hxy
/-- the measure of the outer loop -/
def rmeas (t : List Int) (ag : Bool) : Nat := 2 * (sum t).toNat + (if ag then 1 else 0)
theorem Rnd.less {c : Nat} {l : List Int} {s : Nat} {t0 t : List Int} {a b : Nat} {ag : Bool} (h0 : Rlx c l s t0) (h : Rnd c l s t0 t a b ag) : rmeas t ag < rmeas t0 true := by
 have n0 := sum_nonneg t0 fun b hb => (h0.nn b (by rw [← h0.len]; exact hb)).1
 have n1 := sum_nonneg t fun b hb => (h.rlx.nn b (by rw [← h.rlx.len]; exact hb)).1
 unfold rmeas
 cases ag with
 | true => have := h.yes rfl; simp; omega
 | false => obtain ⟨rfl, _⟩ := h.no rfl; simp
theorem Rlx.bd {c : Nat} {l : List Int} {s : Nat} {t : List Int} (h : Rlx c l s t) (b : Nat) : 0 ≤ at0 t b ∧ at0 t b ≤ 1099511627776 := by
 by_cases hb : b < l.length
 ·exact h.nn b hb
 ·have e : at0 t b = 0 := by
   unfold at0
   rw [List.getD_eq_getElem?_getD, List.getElem?_eq_none (by rw [h.len]; omega)]
   rfl
  rw [e]; omega
/-- the next cell is found in order: no cell below b is -/
def none_lt (c : Nat) (l left : List Int) (a b : Nat) : Prop := ∀ k, k < b → ¬ (0 < cost c l a k ∧ at0 left a = cost c l a k + at0 left k)
theorem none_zero (c : Nat) (l left : List Int) (a : Nat) : none_lt c l left a 0 := fun k hk => absurd hk (Nat.not_lt_zero k)
theorem none_step {c : Nat} {l left : List Int} {a b : Nat} (h : none_lt c l left a b) (hs : ¬ (0 < cost c l a b ∧ at0 left a = cost c l a b + at0 left b)) : none_lt c l left a (b + 1) := by
 intro k hk
 by_cases e : k = b
 ·subst e; exact hs
 ·exact h k (by omega)
theorem none_all {c : Nat} {l left : List Int} {a d : Nat} (h : IsT c l d left) (ha : a < l.length) (hd : a ≠ d) (hn : none_lt c l left a l.length) : False := by
 obtain ⟨b, hb⟩ := nxt_ex h ha hd
 obtain ⟨b1, b2, b3, _⟩ := nxt_some hb
 exact hn b b1 ⟨b2, b3⟩
end Im
namespace Go.Proofs.YtdimmlljjmmdbaaGreatDoor
open Go.RowKit Go.Shelf
set_option maxHeartbeats 8000000
set_option maxRecDepth 100000
/-- the sum of a block's integers, read off the world -/
def rowMeas (g n : Nat) (w : World) : Nat := match w.heap[g]? with
 | some (.cells cs _ _) => (Im.sum ((cs.toList.take n).map intOf)).toNat
 | _ => 0
def boolN (v : Value) : Nat := match v with
 | .bool true => 1
 | _ => 0
theorem rowMeas_eq {w : World} {B g cap n : Nat} {l : List Int} (h : RowI w B g cap n l) : rowMeas g n w = (Im.sum l).toNat := by
 obtain ⟨cs, h1, _, _, _, _, h5, _⟩ := h
 unfold rowMeas
 rw [h1]
 simp only [h5, encI, List.map_map]
 congr 2
 exact (List.map_congr_left (fun _ _ => rfl)).trans (List.map_id _)
theorem rmeas_eq {w : World} {B g cap n : Nat} {l : List Int} (ag : Bool) (h : RowI w B g cap n l) : 2 * rowMeas g n w + boolN (.bool ag) = Im.rmeas l ag := by
 rw [rowMeas_eq h]
 unfold Im.rmeas
 cases ag <;> rfl
theorem c63 (c r : Nat) (A : Option Addr) (n cap : Nat) (l : List Int) (s : Nat) (w : World) (g : Im.Gr c r l) (hc : c ≤ 16) (hr : r ≤ 16) (hs : s < n) (H : RdI w A n l) :
  Calls Tryz.prog 63 #[.agg #[.int .i64 c, .int .i64 r, .slice A n cap], .int .i64 s] w fun en w' => ∃ og cp t, en = .returned (.slice (some ⟨og, 0, none⟩) n cp) ∧ RowI w' w.heap.size og cp n t ∧ Im.IsT c l s t ∧ Below w.heap.size w w' := by
 have hn0 : 0 < n := by omega
 have hn256 : n ≤ 256 := by have := H.len; have := g.len; have : c * r ≤ 256 := Nat.mul_le_mul hc hr; omega
 have HLN : Hid (l.length = n) := Lib.hid H.len
 have HG := Lib.hid g
 obtain ⟨i0, hi, hz0, hz1, hz2⟩ := info_parts info3
 obtain ⟨w0, hW⟩ : ∃ W, W = w.alloc (Obj.cells #[.int .i64 c, .int .i64 r, .slice A n cap] 24) := ⟨_, rfl⟩
 have hT0 : w0.heap[w.heap.size]? = some (.cells #[.int .i64 c, .int .i64 r, .slice A n cap] 24 (0, 0)) := by rw [hW]; exact heap_new (by simp)
 have hB0 : Below w.heap.size w w0 := by rw [hW]; exact (Below.refl _ _).alloc (Nat.le_refl _) _
 have HH := Lib.hid (H.below hB0)
 have HB0 := Lib.hid hB0
 have HT0 := Lib.hid hT0
 clear H hT0
 go_enter Tryz.func63, Tryz.ntmps63
 go_wp2_with fail
 rw [← hW]
 clear hW hB0 g
 go_loopw [6, 7] (fun x i wr => ∃ k : Nat, k ≤ n ∧ i = .int .i64 k ∧ wr.ownsRow w0.heap.size 3 1 x k (encI (List.replicate k 1099511627776)) ∧ Below w0.heap.size w0 wr) (fun _ i _ => n - (intOf i).toNat)
 case atStart => exact ⟨0, Nat.zero_le _, rfl, World.ownsRow_nil _ _ _ _, Below.refl _ _⟩
 case round =>
  obtain ⟨k, hk, rfl, hown, hB⟩ := hrel
  have q2 : wr.cell? ⟨w.heap.size, 2, none⟩ = some (.slice A n cap) := cell_at (blkb HT0.out hB) rfl
  have z2 := cell_lt q2
  have hwk : IntKind.i64.wrap ((k : Int) + 1) = ((k + 1 : Nat) : Int) := by rw [wrapI (by omega)]; simp
  by_cases hlt : k < n
  ·have hk2 : (k : Int) < (n : Int) := by omega
   have hsz := hB.size
   go_wp2_with (at_builtin; refine wpList_append_own _ rfl _ _ 22 rfl w0.heap.size 3 i0 (.int .i64 0) 1 8 Tryz.underlying22 hi hz0 hz1 hz2 rfl (by decide) _ _ _ rfl (hown.alloc _) ⟨wr.heap.size, 0, none⟩ 1 1 [Value.int .i64 1099511627776] rfl rfl (news_one _ _ rfl) (fun x hx => by rw [List.mem_singleton.1 hx]; rfl) (by unfold maxLen; omega) (by omega) (by simp; omega) ?_)
   intro x' w3 hown3 hg3 _
   have hB3 : Below w0.heap.size w0 w3 := (hB.alloc hsz _).grown hg3 (by simp; omega) (fun g hg => (hown.lt g hg).1)
   have HO : Hid (w3.ownsRow w0.heap.size 3 1 x' (k + 1) (encI (List.replicate (k + 1) 1099511627776))) := Lib.hid (by
    rw [List.replicate_succ']
    simp only [encI, List.map_append, List.map_cons, List.map_nil] at hown3 ⊢
    exact hown3)
   clear hown3 hg3 hown hB q2 z2
   go_wp2
   go_roundw
   case rel => exact ⟨k + 1, by omega, by go_num, HO.out, hB3⟩
   case measure => simp [intOf]; omega
  ·obtain rfl : n = k := by omega
   obtain ⟨og, cp, rfl, hrow⟩ := RowI.of_own hn0 hown
   have HR0 : Hid (Im.Rlx c l s ((List.replicate n (1099511627776 : Int)).set s 0)) := Lib.hid (by
    rw [← HLN.out]; exact Im.Rlx.start (by rw [HLN.out]; exact hs))
   have hs2 : (s : Int) < (n : Int) := by omega
   have hs0 : (0 : Int) ≤ (s : Int) := by omega
   have qc := (hrow.cell hs).1
   have qf := (hrow.cell hs).2.1
   have HROW1 : Hid (RowI (wr.setCell ⟨og, s, none⟩ (.int .i64 0)) w0.heap.size og cp n ((List.replicate n (1099511627776 : Int)).set s 0)) := Lib.hid (hrow.set s 0)
   have hogb : w0.heap.size ≤ og := hrow.choose_spec.2.2.2.2.2.2
   have HOGB := Lib.hid hogb
   have HB1 : Hid (Below w0.heap.size w0 (wr.setCell ⟨og, s, none⟩ (.int .i64 0))) := Lib.hid (hB.setCell (p := ⟨og, s, none⟩) hogb _)
   generalize (List.replicate n (1099511627776 : Int)).set s 0 = t0 at HR0 HROW1
   clear hown hrow hB
   go_wp2_with fail
   obtain ⟨w1, hw1⟩ : ∃ W, W = wr.setCell ⟨og, s, none⟩ (.int .i64 0) := ⟨_, rfl⟩
   rw [← hw1] at HROW1 HB1 ⊢
   clear hw1 qc qf q2 z2 hogb
   go_loopw [8] (fun x wr => ∃ (ag : Bool) (t : List Int), x = .bool ag ∧ Hid (RowI wr w0.heap.size og cp n t) ∧ Hid (Im.Rlx c l s t) ∧ Hid (ag = false → Im.IsT c l s t) ∧ Below w0.heap.size w0 wr) (fun x wr => 2 * rowMeas og n wr + boolN x)
   case atStart => exact ⟨true, t0, rfl, HROW1, HR0, Lib.hid (fun h => by cases h), HB1.out⟩
   case round =>
    clear HROW1 HR0 HB1
    obtain ⟨ag, t0, rfl, HROW0, HR0, HT, hB⟩ := hrel
    cases ag
    ·have HIT := Lib.hid (HT.out rfl)
     have HRW := HROW0
     have HBB := Lib.hid (HB0.out.call hB rfl)
     have HLW := Lib.hid (HB0.out.size)
     clear HT HROW0 HR0 hB
     go_wp2
     go_ret
     exact ⟨og, cp, t0, rfl, HRW.out.lower HLW.out, HIT.out, HBB.out⟩
    have HM0 : Hid (2 * rowMeas og n wr + boolN (.bool true) = Im.rmeas t0 true) := Lib.hid (rmeas_eq true HROW0.out)
    obtain ⟨M, hM⟩ : ∃ M, M = Im.rmeas t0 true := ⟨_, rfl⟩
    rw [← hM] at HM0
    have HM := Lib.hid hM
    have HRN : Hid (Im.Rnd c l s t0 t0 0 0 false) := Lib.hid (Im.Rnd.start HR0.out)
    have HBr := Lib.hid hB
    clear hM hB HT
    go_wp2_with fail
    go_loopw [8, 9] (fun x i wr => ∃ (k : Nat) (ag : Bool) (t : List Int), k ≤ n ∧ i = .int .i64 k ∧ x = .bool ag ∧ Hid (RowI wr w0.heap.size og cp n t) ∧ Hid (Im.Rnd c l s t0 t k 0 ag) ∧ Below w0.heap.size w0 wr) (fun _ i _ => n - (intOf i).toNat)
    case atStart => exact ⟨0, false, t0, Nat.zero_le _, rfl, rfl, HROW0, HRN, HBr.out⟩
    case round =>
     clear HROW0 HRN HBr
     obtain ⟨a, ag, t, ha, rfl, rfl, HROW, HRN, hB⟩ := hrel
     by_cases hlt : a < n
     rotate_left
     ·obtain rfl : n = a := by omega
      have HL := Lib.hid (HRN.out.less HR0.out)
      have HRX := Lib.hid HRN.out.rlx
      have HDN : Hid (ag = false → Im.IsT c l s t) := Lib.hid (fun e => by
       subst e
       exact Im.Rnd.done HG.out hc hr (by rw [HLN.out]; exact hs) HRN.out (by rw [HLN.out]; exact Nat.le_refl _))
      have HRW := HROW
      have HBB := Lib.hid hB
      clear HROW HRN hB
      go_wp2
      go_roundw
      case rel => exact ⟨ag, t, rfl, HRW, HRX, HDN, HBB.out⟩
      case measure =>
       have h1 := rmeas_eq ag HRW.out
       have h2 := HL.out
       have h3 := HM0.out
       have h4 := HM.out
       omega
     have hwa : IntKind.i64.wrap ((a : Int) + 1) = ((a + 1 : Nat) : Int) := by rw [wrapI (by omega)]; simp
     have ha2 : (a : Int) < (n : Int) := by omega
     have ha0 : (0 : Int) ≤ (a : Int) := by omega
     have HBr := Lib.hid hB
     clear hB
     go_wp2_with fail
     go_loopw [8, 10] (fun x i wr => ∃ (k : Nat) (ag : Bool) (t : List Int), k ≤ n ∧ i = .int .i64 k ∧ x = .bool ag ∧ Hid (RowI wr w0.heap.size og cp n t) ∧ Hid (Im.Rnd c l s t0 t a k ag) ∧ Below w0.heap.size w0 wr) (fun _ i _ => n - (intOf i).toNat)
     case atStart => exact ⟨0, ag, t, Nat.zero_le _, rfl, rfl, HROW, HRN, HBr.out⟩
     case round =>
      clear HROW HRN HBr
      obtain ⟨b, ag, t, hb, rfl, rfl, HROW, HRN, hB⟩ := hrel
      by_cases hlb : b < n
      rotate_left
      ·obtain rfl : n = b := by omega
       have HNX : Hid (Im.Rnd c l s t0 t (a + 1) 0 ag) := Lib.hid (HRN.out.row (by rw [HLN.out]; exact Nat.le_refl _))
       have HRW := HROW
       have HBB := Lib.hid hB
       clear HROW HRN hB
       go_wp2
       go_roundw
       case rel => exact ⟨a + 1, ag, t, by omega, by go_num, rfl, HRW, HNX, HBB.out⟩
       case measure => simp [intOf]; omega
      have hwb : IntKind.i64.wrap ((b : Int) + 1) = ((b + 1 : Nat) : Int) := by rw [wrapI (by omega)]; simp
      have hb2 : (b : Int) < (n : Int) := by omega
      have hb0 : (0 : Int) ≤ (b : Int) := by omega
      have q0 : wr.cell? ⟨w.heap.size, 0, none⟩ = some (.int .i64 c) := cell_at (blkb HT0.out hB) rfl
      have q1 : wr.cell? ⟨w.heap.size, 1, none⟩ = some (.int .i64 r) := cell_at (blkb HT0.out hB) rfl
      have q2 : wr.cell? ⟨w.heap.size, 2, none⟩ = some (.slice A n cap) := cell_at (blkb HT0.out hB) rfl
      have z2 := cell_lt q2
      have h61 := c61 c r A n cap l a b wr HG.out (by omega) hc hlt hlb (HH.out.below hB)
      have HCN : Hid (0 ≤ Im.cost c l a b ∧ Im.cost c l a b ≤ 600) := Lib.hid ⟨Im.cost_nonneg HG.out (by rw [HLN.out]; exact hlt) (by rw [HLN.out]; exact hlb), Im.cost_le HG.out (by rw [HLN.out]; exact hlt) (by rw [HLN.out]; exact hlb)⟩
      have HSK := Lib.hid (HRN.out.skip (a := a) (b := b))
      have HTK := Lib.hid (HRN.out.take HG.out (a := a) (b := b) (by rw [HLN.out]; exact hlt) (by rw [HLN.out]; exact hlb))
      have HBA := Lib.hid (HRN.out.rlx.bd a)
      have HBB := Lib.hid (HRN.out.rlx.bd b)
      generalize Im.cost c l a b = V at h61 HCN HSK HTK
      have H61 := Lib.hid h61
      have HBR := Lib.hid hB
      clear h61 hB HRN
      go_wp2_with fail
      refine H61.out.mono ?_
      rintro e w2 ⟨rfl, hb9⟩
      have HROW2 := Lib.hid (HROW.out.below hb9)
      have HBR2 := Lib.hid (HBR.out.call hb9 rfl)
      clear hb9 q0 q1 q2 z2 H61 HROW HBR
      have HGET : Hid (∀ W, RowI W w0.heap.size og cp n t → W.cell? ⟨og, a, none⟩ = some (.int .i64 (Im.at0 t a)) ∧ W.cell? ⟨og, b, none⟩ = some (.int .i64 (Im.at0 t b)) ∧ W.frozen? ⟨og, b, none⟩ = false ∧ og < W.heap.size) := Lib.hid (fun W h => ⟨(h.cell hlt).1, (h.cell hlb).1, (h.cell hlb).2.1, (h.cell hlb).2.2⟩)
      generalize Im.at0 t a = x at HGET HSK HTK HBA
      generalize Im.at0 t b = y at HGET HSK HTK HBB
      obtain ⟨qa, qb, _, zo⟩ := HGET.out w2 HROW2.out
      by_cases hV : 0 < V
      rotate_left
      ·have hd1 : decide (0 < V) = false := by simpa using hV
       have HS := Lib.hid (HSK.out (fun h => hV h.1))
       clear hV
       go_wp2
       refine wp_region_growG (by kernel_rfl) (by kernel_rfl) ?_
       repeat (go_big_quiet_step ((first | fail)))
       refine wpQuiet_nil (gw_out ?_)
       intro w3 hb3
       have HROW3 := Lib.hid (HROW2.out.below hb3)
       have HBR3 := Lib.hid (HBR2.out.call hb3 rfl)
       clear hb3 qa qb zo
       go_wp2
       go_roundw
       case rel => exact ⟨b + 1, ag, t, by omega, by go_num, rfl, HROW3, HS, HBR3.out⟩
       case measure => simp [intOf]; omega
      have hd1 : decide (0 < V) = true := by simpa using hV
      have hwx : IntKind.i64.wrap (x + V) = x + V := wrapI (by have := HCN.out; have := HBA.out; omega)
      by_cases hxy : x + V < y
      rotate_left
      ·have hd2 : decide (x + V < y) = false := by simpa using hxy
       have HS := Lib.hid (HSK.out (fun h => hxy h.2))
       clear hV hxy
       go_wp2
       refine wp_region_growG (by kernel_rfl) (by kernel_rfl) ?_
       repeat (go_big_quiet_step ((first | fail)))
       refine wpQuiet_nil (gw_out ?_)
       intro w3 hb3
       have HROW3 := Lib.hid (HROW2.out.below hb3)
       have HBR3 := Lib.hid (HBR2.out.call hb3 rfl)
       clear hb3 qa qb zo
       go_wp2
       go_roundw
       case rel => exact ⟨b + 1, ag, t, by omega, by go_num, rfl, HROW3, HS, HBR3.out⟩
       case measure => simp [intOf]; omega
      have hd2 : decide (x + V < y) = true := by simpa using hxy
      have HS := Lib.hid (HTK.out hV hxy)
      clear hV hxy
      go_wp2
      refine wp_region_growG (by kernel_rfl) (by kernel_rfl) ?_
      repeat (go_big_quiet_step ((first | fail)))
      refine wpQuiet_nil (gw_out ?_)
      intro w3 hb3
      have HROW3 := Lib.hid (HROW2.out.below hb3)
      have HBR3 := Lib.hid (HBR2.out.call hb3 rfl)
      clear hb3 qa qb zo
      obtain ⟨qa, qb, qf, zo⟩ := HGET.out w3 HROW3.out
      have HROW4 := Lib.hid (HROW3.out.set b (x + V))
      have HB4 := Lib.hid (HBR3.out.setCell (p := ⟨og, b, none⟩) HOGB.out (.int .i64 (x + V)))
      go_wp2
      go_roundw
      case rel => exact ⟨b + 1, true, t.set b (x + V), by omega, by go_num, rfl, HROW4, HS, HB4.out⟩
      case measure => simp [intOf]; omega
end Go.Proofs.YtdimmlljjmmdbaaGreatDoor
