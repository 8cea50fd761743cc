/- A part of the proofs about chapter 9: contracts of functions and plain laws (PlanF, PQ2, PlanG, PShot). -/
import Derived.Test.YtndhjkammoeikaaGreatDoorL01
import Derived.Test.YtndhjkammoeikaaGreatDoorA16
import Derived.Test.YtndhjkammoeikaaGreatDoorA01
set_option linter.all false
/- A region that draws its order, with one new block that is laid whenever it likes ahead of its use. -/
namespace Go
open Go.RowKit
section
variable {P : Program} {ops : Array Oper} {md : Region.Mode} {C : World → Prop} {Q : Exit → Act → World → Prop} {Φ : Value → World → Prop}

def Region.apartB (ops : Array Oper) (i f : Nat) : Bool := match ops[i]?, ops[f]? with
  | some oi, some o => oi.apart ops o
  | _, _ => false
def Region.ok0 (md : Region.Mode) (ops : Array Oper) : List (Nat × Nat) → Array Bool → Bool
  | [], listed => (Region.ready md ops listed).isEmpty
  | (i, k) :: p, listed =>
    if k = 1 then (Region.ready md ops listed).contains i && Region.free md ops listed i && Region.ok0 md ops p (listed.setIfInBounds i true)
    else if k = 0 then (Region.ready md ops listed) == [i] && Region.ok0 md ops p (listed.setIfInBounds i true)
    else if k = 3 then (Region.ready md ops listed) == [i] && Region.ok0 md ops p (listed.setIfInBounds i true)
    else false
def Region.okA (md : Region.Mode) (ops : Array Oper) (f : Nat) : List (Nat × Nat) → Array Bool → Bool
  | [], _ => false
  | (i, k) :: p, listed =>
    if k = 1 then Region.apartB ops i f && (Region.ready md ops listed).contains i && Region.free md ops listed i && Region.okA md ops f p (listed.setIfInBounds i true)
    else if k = 0 then Region.apartB ops i f && (Region.ready md ops listed) == [i] && Region.okA md ops f p (listed.setIfInBounds i true)
    else if k = 3 then false
    else i == f && Region.ok0 md ops p listed
def Region.okB (md : Region.Mode) (ops : Array Oper) (f : Nat) : List (Nat × Nat) → Array Bool → Bool
  | [], _ => false
  | (i, k) :: p, listed =>
    if k = 1 then (Region.ready md ops listed).contains i && Region.free md ops listed i && Region.okB md ops f p (listed.setIfInBounds i true)
    else if k = 0 then (Region.ready md ops listed).contains i && ((Region.ready md ops listed).all fun j => j == i || j == f) && Region.okA md ops f ((i, 0) :: p) (listed.setIfInBounds f true) && Region.okB md ops f p (listed.setIfInBounds i true)
    else if k = 3 then false
    else i == f && (Region.ready md ops listed) == [f] && Region.ok0 md ops p (listed.setIfInBounds f true)

def wpPlanF (P : Program) (ops : Array Oper) (C : World → Prop) (Q : Exit → Act → World → Prop) (Φ : Value → World → Prop) : List (Nat × Nat) → Act → World → Prop
  | [], a, w => Q .normal a w
  | (i, k) :: p, a, w => ∃ o, ops[i]? = some o ∧
    (if k = 1 then ∃ v, SoftIn P ops C o v a ∧ ∀ w'', Below w.heap.size w w'' → wpPlanF P ops C Q Φ p (a.put o.dst v) w''
     else if k = 0 then (if Region.wanted o (yielded ops a.tmps) then o.wp P a w (fun a' w' => (C w' ∧ Below w.heap.size w w') ∧ ∀ w'', Below w'.heap.size w' w'' → wpPlanF P ops C Q Φ p a' w'') Q
       else ∀ w'', Below w.heap.size w w'' → wpPlanF P ops C Q Φ p (a.put o.dst undef) w'')
     else if k = 3 then (if Region.wanted o (yielded ops a.tmps) then o.wp P a w (fun a' w' => C w' ∧ ∀ w'', Below w'.heap.size w' w'' → wpPlanF P ops C Q Φ p a' w'') Q
       else ∀ w'', Below w.heap.size w w'' → wpPlanF P ops C Q Φ p (a.put o.dst undef) w'')
     else ∀ v w'', Below w.heap.size w w'' → Φ v w'' → wpPlanF P ops C Q Φ p (a.put o.dst v) w'')

theorem wp_putInto {oj : Oper} {d : Option Tmp} {v : Value} {a : Act} {w : World} {K : Act → World → Prop} (h3 : ∀ d', d = some d' → d' ∉ oj.looksAt ops) (h2 : ∀ d', d = some d' → oj.dst ≠ some d')
    (hsj : ∀ cs b, oj.op ≠ .select cs b) (hQ2 : ∀ c a d v w, Q (.panic c) a w → Q (.panic c) (a.put d v) w) (h : oj.wp P a w K Q) :
    oj.wp P (a.put d v) w (fun a' w' => ∃ a1 : Act, a' = a1.put d v ∧ K a1 w') Q := by
  unfold Oper.wp at *
  rw [execOp_put oj hsj a d v h3]
  generalize (execOp a.eval oj).run P w = r at *
  cases r with
  | ok n w' =>
    cases n <;> simp only [Oper.upon] at h ⊢
    case value u => exact ⟨_, Act.put_comm a v u h2, h⟩
    case skip => exact ⟨_, Act.put_comm a v undef h2, h⟩
    case defer x => exact ⟨_, by rw [Act.put_defers]; exact Act.put_comm _ v undef h2, h⟩
    case enter f args =>
      refine Calls.mono h fun e w'' he => ?_
      cases e with
      | returned u => exact ⟨_, Act.put_comm a v u h2, he⟩
      | panicked c => exact hQ2 _ _ _ _ _ he
      | outgrown => exact he
    case row row args => exact Rows.mono h fun u w'' he => ⟨_, Act.put_comm a v u h2, he⟩
  | halt x w' =>
    cases x <;> simp only [Oper.upon] at h ⊢
    case panic u => exact hQ2 _ _ _ _ _ h

theorem wpAnyT_ok0 (hCg : ∀ w w', C w → Below w.heap.size w w' → C w') (hs : Region.noSelect ops = true) (hQ : ∀ c a d v w, Q (.panic c) (a.put d v) w → Q (.panic c) a w) :
    ∀ (p : List (Nat × Nat)) (listed : Array Bool) (a : Act) (w : World), C w → Region.ok0 md ops p listed = true → wpPlanF P ops C Q Φ p a w → wpAnyT P md ops C Q p.length listed a w
  | [], _, _, _, _, hB, h => ⟨by simpa [Region.ok0] using hB, h⟩
  | (i, k) :: p, listed, a, w, hC, hB, h => by
    obtain ⟨o, ho, h⟩ := h
    unfold Region.ok0 at hB
    by_cases h1 : k = 1
    · rw [if_pos h1] at hB h
      obtain ⟨v, hy, hK⟩ := h
      simp only [Bool.and_eq_true] at hB
      obtain ⟨⟨hr, hf⟩, hB'⟩ := hB
      exact wpAnyT_first hCg ho (Region.noSelect_spec hs) hQ p.length listed a w (Region.free_spec ho hf) (by simpa using hr) hy hC fun w' hw' => wpAnyT_ok0 hCg hs hQ p _ _ w' (hCg _ _ hC hw') hB' (hK w' hw')
    · rw [if_neg h1] at hB h
      by_cases h0 : k = 0
      · rw [if_pos h0] at hB h
        simp only [Bool.and_eq_true, beq_iff_eq] at hB
        obtain ⟨hr, hB'⟩ := hB
        refine ⟨fun h => (by rw [hr] at h; cases h), fun j hj => ?_⟩
        rw [hr] at hj
        obtain rfl := List.mem_singleton.1 hj
        unfold wpOp
        rw [ho]
        show if Region.wanted o (yielded ops a.tmps) = true then _ else _
        split
        · rename_i hw
          rw [if_pos hw] at h
          exact .inl (Oper.wp_mono (fun a' w' h' => ⟨h'.1.1, fun w'' hw'' => wpAnyT_ok0 hCg hs hQ p _ a' w'' (hCg _ _ h'.1.1 hw'') hB' (h'.2 w'' hw'')⟩) h)
        · rename_i hw
          rw [if_neg hw] at h
          exact ⟨hC, fun w'' hw'' => wpAnyT_ok0 hCg hs hQ p _ _ w'' (hCg _ _ hC hw'') hB' (h w'' hw'')⟩
      · rw [if_neg h0] at hB h
        by_cases h3 : k = 3
        · rw [if_pos h3] at hB h
          simp only [Bool.and_eq_true, beq_iff_eq] at hB
          obtain ⟨hr, hB'⟩ := hB
          refine ⟨fun h => (by rw [hr] at h; cases h), fun j hj => ?_⟩
          rw [hr] at hj
          obtain rfl := List.mem_singleton.1 hj
          unfold wpOp
          rw [ho]
          show if Region.wanted o (yielded ops a.tmps) = true then _ else _
          split
          · rename_i hw
            rw [if_pos hw] at h
            exact .inl (Oper.wp_mono (fun a' w' h' => ⟨h'.1, fun w'' hw'' => wpAnyT_ok0 hCg hs hQ p _ a' w'' (hCg _ _ h'.1 hw'') hB' (h'.2 w'' hw'')⟩) h)
          · rename_i hw
            rw [if_neg hw] at h
            exact ⟨hC, fun w'' hw'' => wpAnyT_ok0 hCg hs hQ p _ _ w'' (hCg _ _ hC hw'') hB' (h w'' hw'')⟩
        · rw [if_neg h3] at hB
          cases hB

theorem okA_pos {f : Nat} {p : List (Nat × Nat)} {listed : Array Bool} (h : Region.okA md ops f p listed = true) : 0 < p.length := by
  cases p with
  | nil => cases h
  | cons x p => simp

theorem wpAnyT_okA (hCg : ∀ w w', C w → Below w.heap.size w w' → C w') (hs : Region.noSelect ops = true) (hQ : ∀ c a d v w, Q (.panic c) (a.put d v) w → Q (.panic c) a w)
    (hQ2 : ∀ c a d v w, Q (.panic c) a w → Q (.panic c) (a.put d v) w) (hΦ : ∀ v w w', Φ v w → Below w.heap.size w w' → Φ v w') {f : Nat} {of : Oper} (hof : ops[f]? = some of) (v : Value) :
    ∀ (p : List (Nat × Nat)) (listed : Array Bool) (a : Act) (w : World), C w → Region.okA md ops f p listed = true → Φ v w → wpPlanF P ops C Q Φ p a w → wpAnyT P md ops C Q (p.length - 1) listed (a.put of.dst v) w
  | [], _, _, _, _, hB, _, _ => by cases hB
  | (i, k) :: p, listed, a, w, hC, hB, hv, h => by
    obtain ⟨o, ho, h⟩ := h
    unfold Region.okA at hB
    have ap : Region.apartB ops i f = true → o.apart ops of = true := fun h => by
      unfold Region.apartB at h; rw [ho, hof] at h; exact h
    by_cases h1 : k = 1
    · rw [if_pos h1] at hB h
      obtain ⟨u, hy, hK⟩ := h
      simp only [Bool.and_eq_true] at hB
      obtain ⟨⟨⟨ha, hr⟩, hf⟩, hB'⟩ := hB
      obtain ⟨a1, a2, a3⟩ := Oper.apart_spec (ap ha)
      have hp := okA_pos hB'
      rw [show ((i, k) :: p).length - 1 = (p.length - 1) + 1 by simp; omega]
      refine wpAnyT_first hCg ho (Region.noSelect_spec hs) hQ (p.length - 1) listed _ w (Region.free_spec ho hf) (by simpa using hr)
        (hy.of_same (execOp_put o (fun cs b => Region.noSelect_spec hs i o cs b ho) a of.dst v a3) (wanted_put o a of.dst v a3)) hC fun w' hw' => ?_
      rw [Act.put_comm a v u (fun d hd hi => a2 d hi hd)]
      exact wpAnyT_okA hCg hs hQ hQ2 hΦ hof v p _ _ w' (hCg _ _ hC hw') hB' (hΦ _ _ _ hv hw') (hK w' hw')
    · rw [if_neg h1] at hB h
      by_cases h0 : k = 0
      · rw [if_pos h0] at hB h
        simp only [Bool.and_eq_true, beq_iff_eq] at hB
        obtain ⟨⟨ha, hr⟩, hB'⟩ := hB
        obtain ⟨a1, a2, a3⟩ := Oper.apart_spec (ap ha)
        have hp := okA_pos hB'
        rw [show ((i, k) :: p).length - 1 = (p.length - 1) + 1 by simp; omega]
        refine ⟨fun h => (by rw [hr] at h; cases h), fun j hj => ?_⟩
        rw [hr] at hj
        obtain rfl := List.mem_singleton.1 hj
        unfold wpOp
        rw [ho]
        show if Region.wanted o (yielded ops (a.put of.dst v).tmps) = true then _ else _
        rw [wanted_put o a of.dst v a3]
        have h2' : ∀ d, of.dst = some d → o.dst ≠ some d := fun d hd hi => a2 d hi hd
        split
        · rename_i hw
          rw [if_pos hw] at h
          refine .inl (Oper.wp_mono ?_ (wp_putInto a3 h2' (fun cs b => Region.noSelect_spec hs j o cs b ho) hQ2 h))
          rintro a' w' ⟨a1', rfl, ⟨hC', hb⟩, hK⟩
          exact ⟨hC', fun w'' hw'' => wpAnyT_okA hCg hs hQ hQ2 hΦ hof v p _ a1' w'' (hCg _ _ hC' hw'') hB' (hΦ _ _ _ hv (hb.trans (hw''.mono hb.size))) (hK w'' hw'')⟩
        · rename_i hw
          rw [if_neg hw] at h
          rw [Act.put_comm a v undef h2']
          exact ⟨hC, fun w'' hw'' => wpAnyT_okA hCg hs hQ hQ2 hΦ hof v p _ _ w'' (hCg _ _ hC hw'') hB' (hΦ _ _ _ hv hw'') (h w'' hw'')⟩
      · rw [if_neg h0] at hB h
        by_cases h3 : k = 3
        · rw [if_pos h3] at hB; cases hB
        rw [if_neg h3] at hB h
        simp only [Bool.and_eq_true, beq_iff_eq] at hB
        obtain ⟨rfl, hB'⟩ := hB
        obtain rfl := Option.some.inj (hof.symm.trans ho)
        exact wpAnyT_ok0 hCg hs hQ p _ _ w hC hB' (h v w (Below.refl _ _) hv)

def wpPlanFA (P : Program) (ops : Array Oper) (C : World → Prop) (Q : Exit → Act → World → Prop) (Φ : Value → World → Prop) (p : List (Nat × Nat)) (a : Act) (W0 : World) : Prop :=
  ∀ w'', Below W0.heap.size W0 w'' → wpPlanF P ops C Q Φ p a w''

theorem wpAnyT_okB (hCg : ∀ w w', C w → Below w.heap.size w w' → C w') (hs : Region.noSelect ops = true) (hQ : ∀ c a d v w, Q (.panic c) (a.put d v) w → Q (.panic c) a w)
    (hQ2 : ∀ c a d v w, Q (.panic c) a w → Q (.panic c) (a.put d v) w) (hΦ : ∀ v w w', Φ v w → Below w.heap.size w w' → Φ v w') {f : Nat} {of : Oper} (hof : ops[f]? = some of)
    (hF : ∀ a w, C w → Region.wanted of (yielded ops a.tmps) = true ∧ of.wp P a w (fun a' w' => ∃ v, a' = a.put of.dst v ∧ Φ v w' ∧ Below w.heap.size w w') Q) :
    ∀ (p : List (Nat × Nat)) (listed : Array Bool) (a : Act) (w : World), C w → Region.okB md ops f p listed = true → wpPlanFA P ops C Q Φ p a w → wpAnyT P md ops C Q p.length listed a w
  | [], _, _, _, _, hB, _ => by cases hB
  | (i, k) :: p, listed, a, w, hC, hB, hA => by
    obtain ⟨o, ho, h⟩ := hA w (Below.refl _ _)
    have hA0 := hA
    unfold Region.okB at hB
    by_cases h1 : k = 1
    · rw [if_pos h1] at hB h
      obtain ⟨u, hy, hK⟩ := h
      simp only [Bool.and_eq_true] at hB
      obtain ⟨⟨hr, hf⟩, hB'⟩ := hB
      refine wpAnyT_first hCg ho (Region.noSelect_spec hs) hQ p.length listed _ w (Region.free_spec ho hf) (by simpa using hr) hy hC fun w' hw' => ?_
      exact wpAnyT_okB hCg hs hQ hQ2 hΦ hof hF p _ _ w' (hCg _ _ hC hw') hB' (fun w2 hw2 => hK w2 (hw'.trans (hw2.mono hw'.size)))
    · rw [if_neg h1] at hB h
      by_cases h0 : k = 0
      · subst h0
        rw [if_pos rfl] at hB h
        simp only [Bool.and_eq_true] at hB
        obtain ⟨⟨⟨hr, hall⟩, hBA⟩, hB'⟩ := hB
        refine ⟨fun h => (by rw [h] at hr; simp at hr), fun j hj => ?_⟩
        have hj2 := List.all_eq_true.1 hall j hj
        simp only [Bool.or_eq_true, beq_iff_eq] at hj2
        rcases hj2 with rfl | rfl
        · unfold wpOp
          rw [ho]
          show if Region.wanted o (yielded ops a.tmps) = true then _ else _
          split
          · rename_i hw
            rw [if_pos hw] at h
            exact .inl (Oper.wp_mono (fun a' w' h' => ⟨h'.1.1, fun w'' hw'' => wpAnyT_okB hCg hs hQ hQ2 hΦ hof hF p _ a' w'' (hCg _ _ h'.1.1 hw'') hB' (fun w2 hw2 => h'.2 w2 (hw''.trans (hw2.mono hw''.size)))⟩) h)
          · rename_i hw
            rw [if_neg hw] at h
            exact ⟨hC, fun w'' hw'' => wpAnyT_okB hCg hs hQ hQ2 hΦ hof hF p _ _ w'' (hCg _ _ hC hw'') hB' (fun w2 hw2 => h w2 (hw''.trans (hw2.mono hw''.size)))⟩
        · obtain ⟨hwt, hwp⟩ := hF a w hC
          unfold wpOp
          rw [hof]
          show if Region.wanted of (yielded ops a.tmps) = true then _ else _
          rw [if_pos hwt]
          refine .inl (Oper.wp_mono ?_ hwp)
          rintro a' w' ⟨v, rfl, hv, hb⟩
          refine ⟨hCg _ _ hC hb, fun w'' hw'' => ?_⟩
          have hbb := hb.trans (hw''.mono hb.size)
          exact wpAnyT_okA hCg hs hQ hQ2 hΦ hof v ((i, 0) :: p) _ a w'' (hCg _ _ hC hbb) hBA (hΦ _ _ _ hv hw'') (hA0 w'' hbb)
      · rw [if_neg h0] at hB h
        by_cases h3 : k = 3
        · rw [if_pos h3] at hB; cases hB
        rw [if_neg h3] at hB h
        simp only [Bool.and_eq_true, beq_iff_eq] at hB
        obtain ⟨⟨rfl, hr⟩, hB'⟩ := hB
        obtain rfl := Option.some.inj (hof.symm.trans ho)
        refine ⟨fun h => (by rw [hr] at h; cases h), fun j hj => ?_⟩
        rw [hr] at hj
        obtain rfl := List.mem_singleton.1 hj
        obtain ⟨hwt, hwp⟩ := hF a w hC
        unfold wpOp
        rw [hof]
        show if Region.wanted of (yielded ops a.tmps) = true then _ else _
        rw [if_pos hwt]
        refine .inl (Oper.wp_mono ?_ hwp)
        rintro a' w' ⟨v, rfl, hv, hb⟩
        refine ⟨hCg _ _ hC hb, fun w'' hw'' => ?_⟩
        have hbb := hb.trans (hw''.mono hb.size)
        exact wpAnyT_ok0 hCg hs hQ p _ _ w'' (hCg _ _ hC hbb) hB' (h v w'' hbb (hΦ _ _ _ hv hw''))

theorem wp_region_planF {id : Nat} {a : Act} {W : World} (p : List (Nat × Nat)) (f B : Nat) (of : Oper) (hof : ops[f]? = some of) (hm : P.follows .mixedOrders = true)
    (hB : (p.length == ops.size && Region.noSelect ops && Region.okB .any ops f p (Array.replicate ops.size false)) = true) (hBW : B ≤ W.heap.size)
    (hQ : ∀ c a d v w, Q (.panic c) (a.put d v) w → Q (.panic c) a w) (hQ2 : ∀ c a d v w, Q (.panic c) a w → Q (.panic c) (a.put d v) w)
    (hΦ : ∀ v w w', Φ v w → Below w.heap.size w w' → Φ v w')
    (hF : ∀ a w, Below B W w → Region.wanted of (yielded ops a.tmps) = true ∧ of.wp P a w (fun a' w' => ∃ v, a' = a.put of.dst v ∧ Φ v w' ∧ Below w.heap.size w w') Q)
    (h : wpPlanFA P ops (Below B W) Q Φ p a W) : (Code.region id ops true).wp P Q a W := by
  simp only [Bool.and_eq_true, beq_iff_eq] at hB
  obtain ⟨⟨hlen, hs⟩, hP⟩ := hB
  have hCg : ∀ w w', Below B W w → Below w.heap.size w w' → Below B W w' := fun w w' h1 h2 => h1.trans (h2.mono (Nat.le_trans hBW h1.size))
  refine wp_region_any hm (wpAny_of_T (C := Below B W) _ _ _ _ ?_)
  have := wpAnyT_okB (P := P) (Q := Q) (C := Below B W) (md := .any) (ops := ops) (Φ := Φ) hCg hs hQ hQ2 hΦ hof hF p (Array.replicate ops.size false) a { W with drawn := W.drawn + 1 } ((Below.refl B W).drew) hP
    (fun w2 hw2 => h w2 (((Below.refl _ W).drew).trans (hw2.mono (Nat.le_refl _))))
  rw [hlen] at this
  exact this
theorem wpPlanFA_skip {l : List Oper} {i : Nat} {p : List (Nat × Nat)} {a : Act} {W0 : World} (o : Oper) (ho : l[i]? = some o) (hw : Region.wanted o (yielded l.toArray a.tmps) = false)
    (h : wpPlanFA P l.toArray C Q Φ p (a.put o.dst undef) W0) : wpPlanFA P l.toArray C Q Φ ((i, 1) :: p) a W0 :=
  fun w hg => ⟨o, by rw [List.getElem?_toArray]; exact ho, by rw [if_pos rfl]; exact ⟨undef, .inr ⟨hw, rfl⟩, fun w2 hg2 => h w2 (hg.trans (hg2.mono hg.size))⟩⟩
theorem wpPlanFA_soft {l : List Oper} {B i : Nat} {W W0 : World} {p : List (Nat × Nat)} {a : Act} (o : Oper) (v : Value) (ho : l[i]? = some o) (hw : Region.wanted o (yielded l.toArray a.tmps) = true)
    (hv : ∀ w, Below B W w → (∀ b o, b < B → w.cell? ⟨b, o, none⟩ = W.cell? ⟨b, o, none⟩) → o.softAt P a w v)
    (h : wpPlanFA P l.toArray (Below B W) Q Φ p (a.put o.dst v) W0) : wpPlanFA P l.toArray (Below B W) Q Φ ((i, 1) :: p) a W0 :=
  fun w hg => ⟨o, by rw [List.getElem?_toArray]; exact ho, by
    rw [if_pos rfl]
    exact ⟨v, .inl ⟨hw, fun w hb => hv w hb (fun b o h => hb.cell (p := ⟨b, o, none⟩) h)⟩, fun w2 hg2 => h w2 (hg.trans (hg2.mono hg.size))⟩⟩
theorem wpPlanFA_hard {l : List Oper} {i : Nat} {p : List (Nat × Nat)} {a : Act} {W0 : World} (o : Oper) (ho : l[i]? = some o) (hw : Region.wanted o (yielded l.toArray a.tmps) = true)
    (h : ∀ w, Below W0.heap.size W0 w → ∀ K : Act → World → Prop, (∀ a w1, C w1 → Below w.heap.size w w1 → wpPlanFA P l.toArray C Q Φ p a w1 → K a w1) → o.wp P a w K Q) : wpPlanFA P l.toArray C Q Φ ((i, 0) :: p) a W0 :=
  fun w hg => ⟨o, by rw [List.getElem?_toArray]; exact ho, by
    rw [if_neg (by decide), if_pos rfl, if_pos hw]
    exact h w hg _ fun _ _ h1 h2 h3 => ⟨⟨h1, h2⟩, h3⟩⟩
theorem wpPlanFA_float {l : List Oper} {i : Nat} {p : List (Nat × Nat)} {a : Act} {W0 : World} (o : Oper) (ho : l[i]? = some o)
    (h : ∀ v w, Below W0.heap.size W0 w → Φ v w → wpPlanFA P l.toArray C Q Φ p (a.put o.dst v) w) : wpPlanFA P l.toArray C Q Φ ((i, 2) :: p) a W0 :=
  fun w hg => ⟨o, by rw [List.getElem?_toArray]; exact ho, by
    rw [if_neg (by decide), if_neg (by decide), if_neg (by decide)]
    exact fun v w2 hg2 hv => h v w2 (hg.trans (hg2.mono hg.size)) hv w2 (Below.refl _ _)⟩
theorem wpPlanFA_late {l : List Oper} {i : Nat} {p : List (Nat × Nat)} {a : Act} {W0 : World} (o : Oper) (ho : l[i]? = some o) (hw : Region.wanted o (yielded l.toArray a.tmps) = true)
    (h : ∀ w, Below W0.heap.size W0 w → ∀ K : Act → World → Prop, (∀ a w1, C w1 → wpPlanFA P l.toArray C Q Φ p a w1 → K a w1) → o.wp P a w K Q) : wpPlanFA P l.toArray C Q Φ ((i, 3) :: p) a W0 :=
  fun w hg => ⟨o, by rw [List.getElem?_toArray]; exact ho, by
    rw [if_neg (by decide), if_neg (by decide), if_pos rfl, if_pos hw]
    exact h w hg _ fun _ _ h1 h3 => ⟨h1, h3⟩⟩
theorem wpPlanFA_nil {a : Act} {W0 : World} (h : ∀ w, Below W0.heap.size W0 w → Q .normal a w) : wpPlanFA P ops C Q Φ [] a W0 := h
end
end Go
/- Plain laws for chapter 9: levels, and one shot. -/
namespace Go.Proofs.YtndhjkammoeikaaGreatDoor
namespace Mo
theorem lastI_succ (p : Nat → Bool) (k : Nat) : lastI p (k + 1) = if p k then (k : Int) else lastI p k := rfl
theorem level_facts (v : Ves) (u : Wat) (l : List Sgt) (k : Nat) (hu : WOk u) : 0 ≤ level v u l k ∧ level v u l k ≤ u.soft + 1 ∧ level v u l k ≤ 1001 ∧
    ((k : Int) - lastI (fun k => inside v u l k) (k + 1) ≤ u.clear → level v u l k = 0) ∧ (u.clear < (k : Int) - lastI (fun k => inside v u l k) (k + 1) → 1 ≤ level v u l k) := by
  have h := level_last v u l k
  have hs := hu.soft
  have hb := lastI_bd (fun k => inside v u l k) (k + 1)
  omega
theorem level_step (v : Ves) (u : Wat) (l : List Sgt) (k : Nat) (hu : WOk u) : level v u l (k + 1) ≤ level v u l k + 1 ∧ (level v u l (k + 1) < level v u l k → level v u l (k + 1) = 0) := by
  have h := level_last v u l k
  have h2 := level_last v u l (k + 1)
  have hs := hu.soft
  have hc := hu.clear
  have hb := lastI_bd (fun k => inside v u l k) (k + 1)
  rw [lastI_succ] at h2
  cases hp : inside v u l ((k + 1 : Nat) : Int)
  · simp only [hp, Bool.false_eq_true, if_false] at h2
    omega
  · simp only [hp, if_true] at h2
    omega
theorem fires_one (v : Ves) (u : Wat) (l : List Sgt) (k : Nat) (x : Int) (hall : all v u l = 0) (hk : (k : Int) < v.n) (h1 : 1 ≤ x) (h2 : x ≤ 1001) :
    fires v u l [⟨k, x⟩] = if inside v u l k = true then (if level v u l k < x then 31 else 0) else if level v u l k < x then 21 else 0 := by
  have he : each [(⟨k, x⟩ : Fir)].length 256 (fire1 v.n [⟨k, x⟩]) = 0 := by
    have hf : fire1 v.n [⟨k, x⟩] 0 = 0 := by
      have hw : RowKit.wrap64 (v.n - 1) = v.n - 1 := IntWalk.wrap64_in _ (by have := (all_ok hall).1.n; omega)
      simp [fire1, first, range, hw]
      omega
    simp [each, List.range_succ, hf, first]
  unfold fires
  rw [he, hall]
  have hz : first [(0 : Int), 0] = 0 := rfl
  rw [if_neg (by rw [hz]; simp)]
  simp only [List.map_cons, List.map_nil, fire2, when, Int.toNat_natCast]
  by_cases hl : level v u l k < x
  · cases hi : inside v u l (k : Int) <;> simp [first, hl]
  · cases hi : inside v u l (k : Int) <;> simp [first, hl]
theorem ins_get (v : Ves) (u : Wat) (l : List Sgt) (k : Nat) (h : k < v.n.toNat) : ((insides v u l).map Value.bool).toArray[k]? = some (.bool (inside v u l k)) := by
  simp [insides, h]
theorem lev_get (v : Ves) (u : Wat) (l : List Sgt) (k : Nat) (h : k < v.n.toNat) : ((levels v u l).map (Value.int .i64)).toArray[k]? = some (.int .i64 (level v u l k)) := by
  simp [levels, h]
theorem cov_take {r : List Spn} {j : Nat} {s : Spn} (h : r[j]? = some s) (t : Int) : cov (r.take (j + 1)) t = cov (r.take j) t + if s.f ≤ t ∧ t < s.t then 1 else 0 := by
  obtain ⟨hj, rfl⟩ := List.getElem?_eq_some_iff.1 h
  rw [List.take_succ_eq_append_getElem hj, cov_append, cov_one]
end Mo
end Go.Proofs.YtndhjkammoeikaaGreatDoor
/- A region that draws its order, with one operation that lays a new block out of what stands in the frame, whenever it likes ahead of its use: as PlanF, but the frame is told at each step (I). -/
namespace Go
open Go.RowKit
section
variable {P : Program} {ops : Array Oper} {md : Region.Mode} {C : World → Prop} {Q : Exit → Act → World → Prop} {Φ : Value → World → Prop} {I : Act → Prop}

def wpPlanG (P : Program) (ops : Array Oper) (C : World → Prop) (Q : Exit → Act → World → Prop) (Φ : Value → World → Prop) (I : Act → Prop) : List (Nat × Nat) → Act → World → Prop
  | [], a, w => Q .normal a w
  | (i, k) :: p, a, w => ∃ o, ops[i]? = some o ∧
    (if k = 1 then ∃ v, SoftIn P ops C o v a ∧ ∀ w'', Below w.heap.size w w'' → wpPlanG P ops C Q Φ I p (a.put o.dst v) w''
     else if k = 0 then I a ∧ (if Region.wanted o (yielded ops a.tmps) then o.wp P a w (fun a' w' => (C w' ∧ Below w.heap.size w w') ∧ ∀ w'', Below w'.heap.size w' w'' → wpPlanG P ops C Q Φ I p a' w'') Q
       else ∀ w'', Below w.heap.size w w'' → wpPlanG P ops C Q Φ I p (a.put o.dst undef) w'')
     else if k = 3 then (if Region.wanted o (yielded ops a.tmps) then o.wp P a w (fun a' w' => C w' ∧ ∀ w'', Below w'.heap.size w' w'' → wpPlanG P ops C Q Φ I p a' w'') Q
       else ∀ w'', Below w.heap.size w w'' → wpPlanG P ops C Q Φ I p (a.put o.dst undef) w'')
     else I a ∧ ∀ v w'', Below w.heap.size w w'' → Φ v w'' → wpPlanG P ops C Q Φ I p (a.put o.dst v) w'')

theorem wpAnyT_gk0 (hCg : ∀ w w', C w → Below w.heap.size w w' → C w') (hs : Region.noSelect ops = true) (hQ : ∀ c a d v w, Q (.panic c) (a.put d v) w → Q (.panic c) a w) :
    ∀ (p : List (Nat × Nat)) (listed : Array Bool) (a : Act) (w : World), C w → Region.ok0 md ops p listed = true → wpPlanG P ops C Q Φ I p a w → wpAnyT P md ops C Q p.length listed a w
  | [], _, _, _, _, hB, h => ⟨by simpa [Region.ok0] using hB, h⟩
  | (i, k) :: p, listed, a, w, hC, hB, h => by
    obtain ⟨o, ho, h⟩ := h
    unfold Region.ok0 at hB
    by_cases h1 : k = 1
    · rw [if_pos h1] at hB h
      obtain ⟨v, hy, hK⟩ := h
      simp only [Bool.and_eq_true] at hB
      obtain ⟨⟨hr, hf⟩, hB'⟩ := hB
      exact wpAnyT_first hCg ho (Region.noSelect_spec hs) hQ p.length listed a w (Region.free_spec ho hf) (by simpa using hr) hy hC fun w' hw' => wpAnyT_gk0 hCg hs hQ p _ _ w' (hCg _ _ hC hw') hB' (hK w' hw')
    · rw [if_neg h1] at hB h
      by_cases h0 : k = 0
      · rw [if_pos h0] at hB h
        obtain ⟨_, h⟩ := h
        simp only [Bool.and_eq_true, beq_iff_eq] at hB
        obtain ⟨hr, hB'⟩ := hB
        refine ⟨fun h => (by rw [hr] at h; cases h), fun j hj => ?_⟩
        rw [hr] at hj
        obtain rfl := List.mem_singleton.1 hj
        unfold wpOp
        rw [ho]
        show if Region.wanted o (yielded ops a.tmps) = true then _ else _
        split
        · rename_i hw
          rw [if_pos hw] at h
          exact .inl (Oper.wp_mono (fun a' w' h' => ⟨h'.1.1, fun w'' hw'' => wpAnyT_gk0 hCg hs hQ p _ a' w'' (hCg _ _ h'.1.1 hw'') hB' (h'.2 w'' hw'')⟩) h)
        · rename_i hw
          rw [if_neg hw] at h
          exact ⟨hC, fun w'' hw'' => wpAnyT_gk0 hCg hs hQ p _ _ w'' (hCg _ _ hC hw'') hB' (h w'' hw'')⟩
      · rw [if_neg h0] at hB h
        by_cases h3 : k = 3
        · rw [if_pos h3] at hB h
          simp only [Bool.and_eq_true, beq_iff_eq] at hB
          obtain ⟨hr, hB'⟩ := hB
          refine ⟨fun h => (by rw [hr] at h; cases h), fun j hj => ?_⟩
          rw [hr] at hj
          obtain rfl := List.mem_singleton.1 hj
          unfold wpOp
          rw [ho]
          show if Region.wanted o (yielded ops a.tmps) = true then _ else _
          split
          · rename_i hw
            rw [if_pos hw] at h
            exact .inl (Oper.wp_mono (fun a' w' h' => ⟨h'.1, fun w'' hw'' => wpAnyT_gk0 hCg hs hQ p _ a' w'' (hCg _ _ h'.1 hw'') hB' (h'.2 w'' hw'')⟩) h)
          · rename_i hw
            rw [if_neg hw] at h
            exact ⟨hC, fun w'' hw'' => wpAnyT_gk0 hCg hs hQ p _ _ w'' (hCg _ _ hC hw'') hB' (h w'' hw'')⟩
        · rw [if_neg h3] at hB
          cases hB

theorem wpAnyT_gkA (hCg : ∀ w w', C w → Below w.heap.size w w' → C w') (hs : Region.noSelect ops = true) (hQ : ∀ c a d v w, Q (.panic c) (a.put d v) w → Q (.panic c) a w)
    (hQ2 : ∀ c a d v w, Q (.panic c) a w → Q (.panic c) (a.put d v) w) (hΦ : ∀ v w w', Φ v w → Below w.heap.size w w' → Φ v w') {f : Nat} {of : Oper} (hof : ops[f]? = some of) (v : Value) :
    ∀ (p : List (Nat × Nat)) (listed : Array Bool) (a : Act) (w : World), C w → Region.okA md ops f p listed = true → Φ v w → wpPlanG P ops C Q Φ I p a w → wpAnyT P md ops C Q (p.length - 1) listed (a.put of.dst v) w
  | [], _, _, _, _, hB, _, _ => by cases hB
  | (i, k) :: p, listed, a, w, hC, hB, hv, h => by
    obtain ⟨o, ho, h⟩ := h
    unfold Region.okA at hB
    have ap : Region.apartB ops i f = true → o.apart ops of = true := fun h => by
      unfold Region.apartB at h; rw [ho, hof] at h; exact h
    by_cases h1 : k = 1
    · rw [if_pos h1] at hB h
      obtain ⟨u, hy, hK⟩ := h
      simp only [Bool.and_eq_true] at hB
      obtain ⟨⟨⟨ha, hr⟩, hf⟩, hB'⟩ := hB
      obtain ⟨a1, a2, a3⟩ := Oper.apart_spec (ap ha)
      have hp := okA_pos hB'
      rw [show ((i, k) :: p).length - 1 = (p.length - 1) + 1 by simp; omega]
      refine wpAnyT_first hCg ho (Region.noSelect_spec hs) hQ (p.length - 1) listed _ w (Region.free_spec ho hf) (by simpa using hr)
        (hy.of_same (execOp_put o (fun cs b => Region.noSelect_spec hs i o cs b ho) a of.dst v a3) (wanted_put o a of.dst v a3)) hC fun w' hw' => ?_
      rw [Act.put_comm a v u (fun d hd hi => a2 d hi hd)]
      exact wpAnyT_gkA hCg hs hQ hQ2 hΦ hof v p _ _ w' (hCg _ _ hC hw') hB' (hΦ _ _ _ hv hw') (hK w' hw')
    · rw [if_neg h1] at hB h
      by_cases h0 : k = 0
      · rw [if_pos h0] at hB h
        obtain ⟨_, h⟩ := h
        simp only [Bool.and_eq_true, beq_iff_eq] at hB
        obtain ⟨⟨ha, hr⟩, hB'⟩ := hB
        obtain ⟨a1, a2, a3⟩ := Oper.apart_spec (ap ha)
        have hp := okA_pos hB'
        rw [show ((i, k) :: p).length - 1 = (p.length - 1) + 1 by simp; omega]
        refine ⟨fun h => (by rw [hr] at h; cases h), fun j hj => ?_⟩
        rw [hr] at hj
        obtain rfl := List.mem_singleton.1 hj
        unfold wpOp
        rw [ho]
        show if Region.wanted o (yielded ops (a.put of.dst v).tmps) = true then _ else _
        rw [wanted_put o a of.dst v a3]
        have h2' : ∀ d, of.dst = some d → o.dst ≠ some d := fun d hd hi => a2 d hi hd
        split
        · rename_i hw
          rw [if_pos hw] at h
          refine .inl (Oper.wp_mono ?_ (wp_putInto a3 h2' (fun cs b => Region.noSelect_spec hs j o cs b ho) hQ2 h))
          rintro a' w' ⟨a1', rfl, ⟨hC', hb⟩, hK⟩
          exact ⟨hC', fun w'' hw'' => wpAnyT_gkA hCg hs hQ hQ2 hΦ hof v p _ a1' w'' (hCg _ _ hC' hw'') hB' (hΦ _ _ _ hv (hb.trans (hw''.mono hb.size))) (hK w'' hw'')⟩
        · rename_i hw
          rw [if_neg hw] at h
          rw [Act.put_comm a v undef h2']
          exact ⟨hC, fun w'' hw'' => wpAnyT_gkA hCg hs hQ hQ2 hΦ hof v p _ _ w'' (hCg _ _ hC hw'') hB' (hΦ _ _ _ hv hw'') (h w'' hw'')⟩
      · rw [if_neg h0] at hB h
        by_cases h3 : k = 3
        · rw [if_pos h3] at hB; cases hB
        rw [if_neg h3] at hB h
        simp only [Bool.and_eq_true, beq_iff_eq] at hB
        obtain ⟨rfl, hB'⟩ := hB
        obtain rfl := Option.some.inj (hof.symm.trans ho)
        exact wpAnyT_gk0 hCg hs hQ p _ _ w hC hB' (h.2 v w (Below.refl _ _) hv)

def wpPlanGA (P : Program) (ops : Array Oper) (C : World → Prop) (Q : Exit → Act → World → Prop) (Φ : Value → World → Prop) (I : Act → Prop) (p : List (Nat × Nat)) (a : Act) (W0 : World) : Prop :=
  ∀ w'', Below W0.heap.size W0 w'' → wpPlanG P ops C Q Φ I p a w''

theorem wpAnyT_gkB (hCg : ∀ w w', C w → Below w.heap.size w w' → C w') (hs : Region.noSelect ops = true) (hQ : ∀ c a d v w, Q (.panic c) (a.put d v) w → Q (.panic c) a w)
    (hQ2 : ∀ c a d v w, Q (.panic c) a w → Q (.panic c) (a.put d v) w) (hΦ : ∀ v w w', Φ v w → Below w.heap.size w w' → Φ v w') {f : Nat} {of : Oper} (hof : ops[f]? = some of)
    (hF : ∀ a w, C w → I a → Region.wanted of (yielded ops a.tmps) = true ∧ of.wp P a w (fun a' w' => ∃ v, a' = a.put of.dst v ∧ Φ v w' ∧ Below w.heap.size w w') Q) :
    ∀ (p : List (Nat × Nat)) (listed : Array Bool) (a : Act) (w : World), C w → Region.okB md ops f p listed = true → wpPlanGA P ops C Q Φ I p a w → wpAnyT P md ops C Q p.length listed a w
  | [], _, _, _, _, hB, _ => by cases hB
  | (i, k) :: p, listed, a, w, hC, hB, hA => by
    obtain ⟨o, ho, h⟩ := hA w (Below.refl _ _)
    have hA0 := hA
    unfold Region.okB at hB
    by_cases h1 : k = 1
    · rw [if_pos h1] at hB h
      obtain ⟨u, hy, hK⟩ := h
      simp only [Bool.and_eq_true] at hB
      obtain ⟨⟨hr, hf⟩, hB'⟩ := hB
      refine wpAnyT_first hCg ho (Region.noSelect_spec hs) hQ p.length listed _ w (Region.free_spec ho hf) (by simpa using hr) hy hC fun w' hw' => ?_
      exact wpAnyT_gkB hCg hs hQ hQ2 hΦ hof hF p _ _ w' (hCg _ _ hC hw') hB' (fun w2 hw2 => hK w2 (hw'.trans (hw2.mono hw'.size)))
    · rw [if_neg h1] at hB h
      by_cases h0 : k = 0
      · subst h0
        rw [if_pos rfl] at hB h
        obtain ⟨hIa, h⟩ := h
        simp only [Bool.and_eq_true] at hB
        obtain ⟨⟨⟨hr, hall⟩, hBA⟩, hB'⟩ := hB
        refine ⟨fun h => (by rw [h] at hr; simp at hr), fun j hj => ?_⟩
        have hj2 := List.all_eq_true.1 hall j hj
        simp only [Bool.or_eq_true, beq_iff_eq] at hj2
        rcases hj2 with rfl | rfl
        · unfold wpOp
          rw [ho]
          show if Region.wanted o (yielded ops a.tmps) = true then _ else _
          split
          · rename_i hw
            rw [if_pos hw] at h
            exact .inl (Oper.wp_mono (fun a' w' h' => ⟨h'.1.1, fun w'' hw'' => wpAnyT_gkB hCg hs hQ hQ2 hΦ hof hF p _ a' w'' (hCg _ _ h'.1.1 hw'') hB' (fun w2 hw2 => h'.2 w2 (hw''.trans (hw2.mono hw''.size)))⟩) h)
          · rename_i hw
            rw [if_neg hw] at h
            exact ⟨hC, fun w'' hw'' => wpAnyT_gkB hCg hs hQ hQ2 hΦ hof hF p _ _ w'' (hCg _ _ hC hw'') hB' (fun w2 hw2 => h w2 (hw''.trans (hw2.mono hw''.size)))⟩
        · obtain ⟨hwt, hwp⟩ := hF a w hC hIa
          unfold wpOp
          rw [hof]
          show if Region.wanted of (yielded ops a.tmps) = true then _ else _
          rw [if_pos hwt]
          refine .inl (Oper.wp_mono ?_ hwp)
          rintro a' w' ⟨v, rfl, hv, hb⟩
          refine ⟨hCg _ _ hC hb, fun w'' hw'' => ?_⟩
          have hbb := hb.trans (hw''.mono hb.size)
          exact wpAnyT_gkA hCg hs hQ hQ2 hΦ hof v ((i, 0) :: p) _ a w'' (hCg _ _ hC hbb) hBA (hΦ _ _ _ hv hw'') (hA0 w'' hbb)
      · rw [if_neg h0] at hB h
        by_cases h3 : k = 3
        · rw [if_pos h3] at hB; cases hB
        rw [if_neg h3] at hB h
        simp only [Bool.and_eq_true, beq_iff_eq] at hB
        obtain ⟨⟨rfl, hr⟩, hB'⟩ := hB
        obtain rfl := Option.some.inj (hof.symm.trans ho)
        refine ⟨fun h => (by rw [hr] at h; cases h), fun j hj => ?_⟩
        rw [hr] at hj
        obtain rfl := List.mem_singleton.1 hj
        obtain ⟨hIa, h⟩ := h
        obtain ⟨hwt, hwp⟩ := hF a w hC hIa
        unfold wpOp
        rw [hof]
        show if Region.wanted of (yielded ops a.tmps) = true then _ else _
        rw [if_pos hwt]
        refine .inl (Oper.wp_mono ?_ hwp)
        rintro a' w' ⟨v, rfl, hv, hb⟩
        refine ⟨hCg _ _ hC hb, fun w'' hw'' => ?_⟩
        have hbb := hb.trans (hw''.mono hb.size)
        exact wpAnyT_gk0 hCg hs hQ p _ _ w'' (hCg _ _ hC hbb) hB' (h v w'' hbb (hΦ _ _ _ hv hw''))

theorem wp_region_planG {id : Nat} {a : Act} {W : World} (p : List (Nat × Nat)) (f B : Nat) (of : Oper) (hof : ops[f]? = some of) (hm : P.follows .mixedOrders = true)
    (hB : (p.length == ops.size && Region.noSelect ops && Region.okB .any ops f p (Array.replicate ops.size false)) = true) (hBW : B ≤ W.heap.size)
    (hQ : ∀ c a d v w, Q (.panic c) (a.put d v) w → Q (.panic c) a w) (hQ2 : ∀ c a d v w, Q (.panic c) a w → Q (.panic c) (a.put d v) w)
    (hΦ : ∀ v w w', Φ v w → Below w.heap.size w w' → Φ v w')
    (hF : ∀ a w, Below B W w → I a → Region.wanted of (yielded ops a.tmps) = true ∧ of.wp P a w (fun a' w' => ∃ v, a' = a.put of.dst v ∧ Φ v w' ∧ Below w.heap.size w w') Q)
    (h : wpPlanGA P ops (Below B W) Q Φ I p a W) : (Code.region id ops true).wp P Q a W := by
  simp only [Bool.and_eq_true, beq_iff_eq] at hB
  obtain ⟨⟨hlen, hs⟩, hP⟩ := hB
  have hCg : ∀ w w', Below B W w → Below w.heap.size w w' → Below B W w' := fun w w' h1 h2 => h1.trans (h2.mono (Nat.le_trans hBW h1.size))
  refine wp_region_any hm (wpAny_of_T (C := Below B W) _ _ _ _ ?_)
  have := wpAnyT_gkB (P := P) (Q := Q) (C := Below B W) (md := .any) (ops := ops) (Φ := Φ) (I := I) hCg hs hQ hQ2 hΦ hof hF p (Array.replicate ops.size false) a { W with drawn := W.drawn + 1 } ((Below.refl B W).drew) hP
    (fun w2 hw2 => h w2 (((Below.refl _ W).drew).trans (hw2.mono (Nat.le_refl _))))
  rw [hlen] at this
  exact this
theorem wpPlanGA_skip {l : List Oper} {i : Nat} {p : List (Nat × Nat)} {a : Act} {W0 : World} (o : Oper) (ho : l[i]? = some o) (hw : Region.wanted o (yielded l.toArray a.tmps) = false)
    (h : wpPlanGA P l.toArray C Q Φ I p (a.put o.dst undef) W0) : wpPlanGA P l.toArray C Q Φ I ((i, 1) :: p) a W0 :=
  fun w hg => ⟨o, by rw [List.getElem?_toArray]; exact ho, by rw [if_pos rfl]; exact ⟨undef, .inr ⟨hw, rfl⟩, fun w2 hg2 => h w2 (hg.trans (hg2.mono hg.size))⟩⟩
theorem wpPlanGA_soft {l : List Oper} {B i : Nat} {W W0 : World} {p : List (Nat × Nat)} {a : Act} (o : Oper) (v : Value) (ho : l[i]? = some o) (hw : Region.wanted o (yielded l.toArray a.tmps) = true)
    (hv : ∀ w, Below B W w → (∀ b o, b < B → w.cell? ⟨b, o, none⟩ = W.cell? ⟨b, o, none⟩) → o.softAt P a w v)
    (h : wpPlanGA P l.toArray (Below B W) Q Φ I p (a.put o.dst v) W0) : wpPlanGA P l.toArray (Below B W) Q Φ I ((i, 1) :: p) a W0 :=
  fun w hg => ⟨o, by rw [List.getElem?_toArray]; exact ho, by
    rw [if_pos rfl]
    exact ⟨v, .inl ⟨hw, fun w hb => hv w hb (fun b o h => hb.cell (p := ⟨b, o, none⟩) h)⟩, fun w2 hg2 => h w2 (hg.trans (hg2.mono hg.size))⟩⟩
theorem wpPlanGA_hard {l : List Oper} {i : Nat} {p : List (Nat × Nat)} {a : Act} {W0 : World} (o : Oper) (ho : l[i]? = some o) (hI : I a) (hw : Region.wanted o (yielded l.toArray a.tmps) = true)
    (h : ∀ w, Below W0.heap.size W0 w → ∀ K : Act → World → Prop, (∀ a w1, C w1 → Below w.heap.size w w1 → wpPlanGA P l.toArray C Q Φ I p a w1 → K a w1) → o.wp P a w K Q) : wpPlanGA P l.toArray C Q Φ I ((i, 0) :: p) a W0 :=
  fun w hg => ⟨o, by rw [List.getElem?_toArray]; exact ho, by
    rw [if_neg (by decide), if_pos rfl, if_pos hw]
    exact ⟨hI, h w hg _ fun _ _ h1 h2 h3 => ⟨⟨h1, h2⟩, h3⟩⟩⟩
theorem wpPlanGA_float {l : List Oper} {i : Nat} {p : List (Nat × Nat)} {a : Act} {W0 : World} (o : Oper) (ho : l[i]? = some o) (hI : I a)
    (h : ∀ v w, Below W0.heap.size W0 w → Φ v w → wpPlanGA P l.toArray C Q Φ I p (a.put o.dst v) w) : wpPlanGA P l.toArray C Q Φ I ((i, 2) :: p) a W0 :=
  fun w hg => ⟨o, by rw [List.getElem?_toArray]; exact ho, by
    rw [if_neg (by decide), if_neg (by decide), if_neg (by decide)]
    exact ⟨hI, fun v w2 hg2 hv => h v w2 (hg.trans (hg2.mono hg.size)) hv w2 (Below.refl _ _)⟩⟩
theorem wpPlanGA_late {l : List Oper} {i : Nat} {p : List (Nat × Nat)} {a : Act} {W0 : World} (o : Oper) (ho : l[i]? = some o) (hw : Region.wanted o (yielded l.toArray a.tmps) = true)
    (h : ∀ w, Below W0.heap.size W0 w → ∀ K : Act → World → Prop, (∀ a w1, C w1 → wpPlanGA P l.toArray C Q Φ I p a w1 → K a w1) → o.wp P a w K Q) : wpPlanGA P l.toArray C Q Φ I ((i, 3) :: p) a W0 :=
  fun w hg => ⟨o, by rw [List.getElem?_toArray]; exact ho, by
    rw [if_neg (by decide), if_neg (by decide), if_pos rfl, if_pos hw]
    exact h w hg _ fun _ _ h1 h3 => ⟨h1, h3⟩⟩
theorem wpPlanGA_nil {a : Act} {W0 : World} (h : ∀ w, Below W0.heap.size W0 w → Q .normal a w) : wpPlanGA P ops C Q Φ I [] a W0 := h
end
end Go
namespace Go.Proofs.YtndhjkammoeikaaGreatDoor
open Go.RowKit
set_option maxHeartbeats 1000000
set_option maxRecDepth 20000
/-- a new block of one shot -/
def Shot (k x : Int) (v : Value) (w : World) : Prop := ∃ g : Nat, v = .slice (some ⟨g, 0, none⟩) 1 1 ∧ w.heap[g]? = some (.cells #[.int .i64 k, .int .i64 x] 98 (0, 0))
theorem Shot.below {k x : Int} {v : Value} {w w' : World} (h : Shot k x v w) (hb : Below w.heap.size w w') : Shot k x v w' := by
  obtain ⟨g, h1, h2⟩ := h
  exact ⟨g, h1, (hb.block g (Array.getElem?_eq_some_iff.1 h2).1).trans h2⟩
theorem shot_op (o : Oper) (n : Nat) (ho : o.op = .buildSlice 64 1 #[(0, .tmp n)]) (k x : Int) (Q : Exit → Act → World → Prop) (a : Act) (w : World) (hI : a.tmps[n]?.getD undef = .agg #[.int .i64 k, .int .i64 x]) :
    o.wp Tryz.prog a w (fun a' w' => ∃ v, a' = a.put o.dst v ∧ Shot k x v w' ∧ Below w.heap.size w w') Q := by
  obtain ⟨d, op, ty, pos, af, gd⟩ := o
  subst ho
  go_simp
  exact ⟨_, rfl, ⟨_, rfl, heap_new rfl⟩, (Below.refl _ _).alloc (Nat.le_refl _) _⟩
end Go.Proofs.YtndhjkammoeikaaGreatDoor
