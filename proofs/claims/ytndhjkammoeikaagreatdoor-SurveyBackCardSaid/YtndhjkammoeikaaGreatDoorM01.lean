/- A part of the proofs about chapter 9: contracts of functions and plain laws (PlanF, MB, PMoney2, PDiary2, Args3). -/
import Derived.Test.YtndhjkammoeikaaGreatDoorL01
import Derived.Test.YtndhjkammoeikaaGreatDoorA15
import Derived.Test.YtndhjkammoeikaaGreatDoorA16
import Derived.Test.YtndhjkammoeikaaGreatDoorA11
import Derived.Test.YtndhjkammoeikaaGreatDoorA08
set_option linter.all false
/- A region that draws its order, with one new block that is laid whenever it likes ahead of its use. -/
namespace Go
open Go.RowKit
section
variable {P : Program} {ops : Array Oper} {md : Region.Mode} {C : World → Prop} {Q : Exit → Act → World → Prop} {Φ : Value → World → Prop}

def Region.apartB (ops : Array Oper) (i f : Nat) : Bool := match ops[i]?, ops[f]? with
  | some oi, some o => oi.apart ops o
  | _, _ => false
def Region.ok0 (md : Region.Mode) (ops : Array Oper) : List (Nat × Nat) → Array Bool → Bool
  | [], listed => (Region.ready md ops listed).isEmpty
  | (i, k) :: p, listed =>
    if k = 1 then (Region.ready md ops listed).contains i && Region.free md ops listed i && Region.ok0 md ops p (listed.setIfInBounds i true)
    else if k = 0 then (Region.ready md ops listed) == [i] && Region.ok0 md ops p (listed.setIfInBounds i true)
    else if k = 3 then (Region.ready md ops listed) == [i] && Region.ok0 md ops p (listed.setIfInBounds i true)
    else false
def Region.okA (md : Region.Mode) (ops : Array Oper) (f : Nat) : List (Nat × Nat) → Array Bool → Bool
  | [], _ => false
  | (i, k) :: p, listed =>
    if k = 1 then Region.apartB ops i f && (Region.ready md ops listed).contains i && Region.free md ops listed i && Region.okA md ops f p (listed.setIfInBounds i true)
    else if k = 0 then Region.apartB ops i f && (Region.ready md ops listed) == [i] && Region.okA md ops f p (listed.setIfInBounds i true)
    else if k = 3 then false
    else i == f && Region.ok0 md ops p listed
def Region.okB (md : Region.Mode) (ops : Array Oper) (f : Nat) : List (Nat × Nat) → Array Bool → Bool
  | [], _ => false
  | (i, k) :: p, listed =>
    if k = 1 then (Region.ready md ops listed).contains i && Region.free md ops listed i && Region.okB md ops f p (listed.setIfInBounds i true)
    else if k = 0 then (Region.ready md ops listed).contains i && ((Region.ready md ops listed).all fun j => j == i || j == f) && Region.okA md ops f ((i, 0) :: p) (listed.setIfInBounds f true) && Region.okB md ops f p (listed.setIfInBounds i true)
    else if k = 3 then false
    else i == f && (Region.ready md ops listed) == [f] && Region.ok0 md ops p (listed.setIfInBounds f true)

def wpPlanF (P : Program) (ops : Array Oper) (C : World → Prop) (Q : Exit → Act → World → Prop) (Φ : Value → World → Prop) : List (Nat × Nat) → Act → World → Prop
  | [], a, w => Q .normal a w
  | (i, k) :: p, a, w => ∃ o, ops[i]? = some o ∧
    (if k = 1 then ∃ v, SoftIn P ops C o v a ∧ ∀ w'', Below w.heap.size w w'' → wpPlanF P ops C Q Φ p (a.put o.dst v) w''
     else if k = 0 then (if Region.wanted o (yielded ops a.tmps) then o.wp P a w (fun a' w' => (C w' ∧ Below w.heap.size w w') ∧ ∀ w'', Below w'.heap.size w' w'' → wpPlanF P ops C Q Φ p a' w'') Q
       else ∀ w'', Below w.heap.size w w'' → wpPlanF P ops C Q Φ p (a.put o.dst undef) w'')
     else if k = 3 then (if Region.wanted o (yielded ops a.tmps) then o.wp P a w (fun a' w' => C w' ∧ ∀ w'', Below w'.heap.size w' w'' → wpPlanF P ops C Q Φ p a' w'') Q
       else ∀ w'', Below w.heap.size w w'' → wpPlanF P ops C Q Φ p (a.put o.dst undef) w'')
     else ∀ v w'', Below w.heap.size w w'' → Φ v w'' → wpPlanF P ops C Q Φ p (a.put o.dst v) w'')

theorem wp_putInto {oj : Oper} {d : Option Tmp} {v : Value} {a : Act} {w : World} {K : Act → World → Prop} (h3 : ∀ d', d = some d' → d' ∉ oj.looksAt ops) (h2 : ∀ d', d = some d' → oj.dst ≠ some d')
    (hsj : ∀ cs b, oj.op ≠ .select cs b) (hQ2 : ∀ c a d v w, Q (.panic c) a w → Q (.panic c) (a.put d v) w) (h : oj.wp P a w K Q) :
    oj.wp P (a.put d v) w (fun a' w' => ∃ a1 : Act, a' = a1.put d v ∧ K a1 w') Q := by
  unfold Oper.wp at *
  rw [execOp_put oj hsj a d v h3]
  generalize (execOp a.eval oj).run P w = r at *
  cases r with
  | ok n w' =>
    cases n <;> simp only [Oper.upon] at h ⊢
    case value u => exact ⟨_, Act.put_comm a v u h2, h⟩
    case skip => exact ⟨_, Act.put_comm a v undef h2, h⟩
    case defer x => exact ⟨_, by rw [Act.put_defers]; exact Act.put_comm _ v undef h2, h⟩
    case enter f args =>
      refine Calls.mono h fun e w'' he => ?_
      cases e with
      | returned u => exact ⟨_, Act.put_comm a v u h2, he⟩
      | panicked c => exact hQ2 _ _ _ _ _ he
      | outgrown => exact he
    case row row args => exact Rows.mono h fun u w'' he => ⟨_, Act.put_comm a v u h2, he⟩
  | halt x w' =>
    cases x <;> simp only [Oper.upon] at h ⊢
    case panic u => exact hQ2 _ _ _ _ _ h

theorem wpAnyT_ok0 (hCg : ∀ w w', C w → Below w.heap.size w w' → C w') (hs : Region.noSelect ops = true) (hQ : ∀ c a d v w, Q (.panic c) (a.put d v) w → Q (.panic c) a w) :
    ∀ (p : List (Nat × Nat)) (listed : Array Bool) (a : Act) (w : World), C w → Region.ok0 md ops p listed = true → wpPlanF P ops C Q Φ p a w → wpAnyT P md ops C Q p.length listed a w
  | [], _, _, _, _, hB, h => ⟨by simpa [Region.ok0] using hB, h⟩
  | (i, k) :: p, listed, a, w, hC, hB, h => by
    obtain ⟨o, ho, h⟩ := h
    unfold Region.ok0 at hB
    by_cases h1 : k = 1
    · rw [if_pos h1] at hB h
      obtain ⟨v, hy, hK⟩ := h
      simp only [Bool.and_eq_true] at hB
      obtain ⟨⟨hr, hf⟩, hB'⟩ := hB
      exact wpAnyT_first hCg ho (Region.noSelect_spec hs) hQ p.length listed a w (Region.free_spec ho hf) (by simpa using hr) hy hC fun w' hw' => wpAnyT_ok0 hCg hs hQ p _ _ w' (hCg _ _ hC hw') hB' (hK w' hw')
    · rw [if_neg h1] at hB h
      by_cases h0 : k = 0
      · rw [if_pos h0] at hB h
        simp only [Bool.and_eq_true, beq_iff_eq] at hB
        obtain ⟨hr, hB'⟩ := hB
        refine ⟨fun h => (by rw [hr] at h; cases h), fun j hj => ?_⟩
        rw [hr] at hj
        obtain rfl := List.mem_singleton.1 hj
        unfold wpOp
        rw [ho]
        show if Region.wanted o (yielded ops a.tmps) = true then _ else _
        split
        · rename_i hw
          rw [if_pos hw] at h
          exact .inl (Oper.wp_mono (fun a' w' h' => ⟨h'.1.1, fun w'' hw'' => wpAnyT_ok0 hCg hs hQ p _ a' w'' (hCg _ _ h'.1.1 hw'') hB' (h'.2 w'' hw'')⟩) h)
        · rename_i hw
          rw [if_neg hw] at h
          exact ⟨hC, fun w'' hw'' => wpAnyT_ok0 hCg hs hQ p _ _ w'' (hCg _ _ hC hw'') hB' (h w'' hw'')⟩
      · rw [if_neg h0] at hB h
        by_cases h3 : k = 3
        · rw [if_pos h3] at hB h
          simp only [Bool.and_eq_true, beq_iff_eq] at hB
          obtain ⟨hr, hB'⟩ := hB
          refine ⟨fun h => (by rw [hr] at h; cases h), fun j hj => ?_⟩
          rw [hr] at hj
          obtain rfl := List.mem_singleton.1 hj
          unfold wpOp
          rw [ho]
          show if Region.wanted o (yielded ops a.tmps) = true then _ else _
          split
          · rename_i hw
            rw [if_pos hw] at h
            exact .inl (Oper.wp_mono (fun a' w' h' => ⟨h'.1, fun w'' hw'' => wpAnyT_ok0 hCg hs hQ p _ a' w'' (hCg _ _ h'.1 hw'') hB' (h'.2 w'' hw'')⟩) h)
          · rename_i hw
            rw [if_neg hw] at h
            exact ⟨hC, fun w'' hw'' => wpAnyT_ok0 hCg hs hQ p _ _ w'' (hCg _ _ hC hw'') hB' (h w'' hw'')⟩
        · rw [if_neg h3] at hB
          cases hB

theorem okA_pos {f : Nat} {p : List (Nat × Nat)} {listed : Array Bool} (h : Region.okA md ops f p listed = true) : 0 < p.length := by
  cases p with
  | nil => cases h
  | cons x p => simp

theorem wpAnyT_okA (hCg : ∀ w w', C w → Below w.heap.size w w' → C w') (hs : Region.noSelect ops = true) (hQ : ∀ c a d v w, Q (.panic c) (a.put d v) w → Q (.panic c) a w)
    (hQ2 : ∀ c a d v w, Q (.panic c) a w → Q (.panic c) (a.put d v) w) (hΦ : ∀ v w w', Φ v w → Below w.heap.size w w' → Φ v w') {f : Nat} {of : Oper} (hof : ops[f]? = some of) (v : Value) :
    ∀ (p : List (Nat × Nat)) (listed : Array Bool) (a : Act) (w : World), C w → Region.okA md ops f p listed = true → Φ v w → wpPlanF P ops C Q Φ p a w → wpAnyT P md ops C Q (p.length - 1) listed (a.put of.dst v) w
  | [], _, _, _, _, hB, _, _ => by cases hB
  | (i, k) :: p, listed, a, w, hC, hB, hv, h => by
    obtain ⟨o, ho, h⟩ := h
    unfold Region.okA at hB
    have ap : Region.apartB ops i f = true → o.apart ops of = true := fun h => by
      unfold Region.apartB at h; rw [ho, hof] at h; exact h
    by_cases h1 : k = 1
    · rw [if_pos h1] at hB h
      obtain ⟨u, hy, hK⟩ := h
      simp only [Bool.and_eq_true] at hB
      obtain ⟨⟨⟨ha, hr⟩, hf⟩, hB'⟩ := hB
      obtain ⟨a1, a2, a3⟩ := Oper.apart_spec (ap ha)
      have hp := okA_pos hB'
      rw [show ((i, k) :: p).length - 1 = (p.length - 1) + 1 by simp; omega]
      refine wpAnyT_first hCg ho (Region.noSelect_spec hs) hQ (p.length - 1) listed _ w (Region.free_spec ho hf) (by simpa using hr)
        (hy.of_same (execOp_put o (fun cs b => Region.noSelect_spec hs i o cs b ho) a of.dst v a3) (wanted_put o a of.dst v a3)) hC fun w' hw' => ?_
      rw [Act.put_comm a v u (fun d hd hi => a2 d hi hd)]
      exact wpAnyT_okA hCg hs hQ hQ2 hΦ hof v p _ _ w' (hCg _ _ hC hw') hB' (hΦ _ _ _ hv hw') (hK w' hw')
    · rw [if_neg h1] at hB h
      by_cases h0 : k = 0
      · rw [if_pos h0] at hB h
        simp only [Bool.and_eq_true, beq_iff_eq] at hB
        obtain ⟨⟨ha, hr⟩, hB'⟩ := hB
        obtain ⟨a1, a2, a3⟩ := Oper.apart_spec (ap ha)
        have hp := okA_pos hB'
        rw [show ((i, k) :: p).length - 1 = (p.length - 1) + 1 by simp; omega]
        refine ⟨fun h => (by rw [hr] at h; cases h), fun j hj => ?_⟩
        rw [hr] at hj
        obtain rfl := List.mem_singleton.1 hj
        unfold wpOp
        rw [ho]
        show if Region.wanted o (yielded ops (a.put of.dst v).tmps) = true then _ else _
        rw [wanted_put o a of.dst v a3]
        have h2' : ∀ d, of.dst = some d → o.dst ≠ some d := fun d hd hi => a2 d hi hd
        split
        · rename_i hw
          rw [if_pos hw] at h
          refine .inl (Oper.wp_mono ?_ (wp_putInto a3 h2' (fun cs b => Region.noSelect_spec hs j o cs b ho) hQ2 h))
          rintro a' w' ⟨a1', rfl, ⟨hC', hb⟩, hK⟩
          exact ⟨hC', fun w'' hw'' => wpAnyT_okA hCg hs hQ hQ2 hΦ hof v p _ a1' w'' (hCg _ _ hC' hw'') hB' (hΦ _ _ _ hv (hb.trans (hw''.mono hb.size))) (hK w'' hw'')⟩
        · rename_i hw
          rw [if_neg hw] at h
          rw [Act.put_comm a v undef h2']
          exact ⟨hC, fun w'' hw'' => wpAnyT_okA hCg hs hQ hQ2 hΦ hof v p _ _ w'' (hCg _ _ hC hw'') hB' (hΦ _ _ _ hv hw'') (h w'' hw'')⟩
      · rw [if_neg h0] at hB h
        by_cases h3 : k = 3
        · rw [if_pos h3] at hB; cases hB
        rw [if_neg h3] at hB h
        simp only [Bool.and_eq_true, beq_iff_eq] at hB
        obtain ⟨rfl, hB'⟩ := hB
        obtain rfl := Option.some.inj (hof.symm.trans ho)
        exact wpAnyT_ok0 hCg hs hQ p _ _ w hC hB' (h v w (Below.refl _ _) hv)

def wpPlanFA (P : Program) (ops : Array Oper) (C : World → Prop) (Q : Exit → Act → World → Prop) (Φ : Value → World → Prop) (p : List (Nat × Nat)) (a : Act) (W0 : World) : Prop :=
  ∀ w'', Below W0.heap.size W0 w'' → wpPlanF P ops C Q Φ p a w''

theorem wpAnyT_okB (hCg : ∀ w w', C w → Below w.heap.size w w' → C w') (hs : Region.noSelect ops = true) (hQ : ∀ c a d v w, Q (.panic c) (a.put d v) w → Q (.panic c) a w)
    (hQ2 : ∀ c a d v w, Q (.panic c) a w → Q (.panic c) (a.put d v) w) (hΦ : ∀ v w w', Φ v w → Below w.heap.size w w' → Φ v w') {f : Nat} {of : Oper} (hof : ops[f]? = some of)
    (hF : ∀ a w, C w → Region.wanted of (yielded ops a.tmps) = true ∧ of.wp P a w (fun a' w' => ∃ v, a' = a.put of.dst v ∧ Φ v w' ∧ Below w.heap.size w w') Q) :
    ∀ (p : List (Nat × Nat)) (listed : Array Bool) (a : Act) (w : World), C w → Region.okB md ops f p listed = true → wpPlanFA P ops C Q Φ p a w → wpAnyT P md ops C Q p.length listed a w
  | [], _, _, _, _, hB, _ => by cases hB
  | (i, k) :: p, listed, a, w, hC, hB, hA => by
    obtain ⟨o, ho, h⟩ := hA w (Below.refl _ _)
    have hA0 := hA
    unfold Region.okB at hB
    by_cases h1 : k = 1
    · rw [if_pos h1] at hB h
      obtain ⟨u, hy, hK⟩ := h
      simp only [Bool.and_eq_true] at hB
      obtain ⟨⟨hr, hf⟩, hB'⟩ := hB
      refine wpAnyT_first hCg ho (Region.noSelect_spec hs) hQ p.length listed _ w (Region.free_spec ho hf) (by simpa using hr) hy hC fun w' hw' => ?_
      exact wpAnyT_okB hCg hs hQ hQ2 hΦ hof hF p _ _ w' (hCg _ _ hC hw') hB' (fun w2 hw2 => hK w2 (hw'.trans (hw2.mono hw'.size)))
    · rw [if_neg h1] at hB h
      by_cases h0 : k = 0
      · subst h0
        rw [if_pos rfl] at hB h
        simp only [Bool.and_eq_true] at hB
        obtain ⟨⟨⟨hr, hall⟩, hBA⟩, hB'⟩ := hB
        refine ⟨fun h => (by rw [h] at hr; simp at hr), fun j hj => ?_⟩
        have hj2 := List.all_eq_true.1 hall j hj
        simp only [Bool.or_eq_true, beq_iff_eq] at hj2
        rcases hj2 with rfl | rfl
        · unfold wpOp
          rw [ho]
          show if Region.wanted o (yielded ops a.tmps) = true then _ else _
          split
          · rename_i hw
            rw [if_pos hw] at h
            exact .inl (Oper.wp_mono (fun a' w' h' => ⟨h'.1.1, fun w'' hw'' => wpAnyT_okB hCg hs hQ hQ2 hΦ hof hF p _ a' w'' (hCg _ _ h'.1.1 hw'') hB' (fun w2 hw2 => h'.2 w2 (hw''.trans (hw2.mono hw''.size)))⟩) h)
          · rename_i hw
            rw [if_neg hw] at h
            exact ⟨hC, fun w'' hw'' => wpAnyT_okB hCg hs hQ hQ2 hΦ hof hF p _ _ w'' (hCg _ _ hC hw'') hB' (fun w2 hw2 => h w2 (hw''.trans (hw2.mono hw''.size)))⟩
        · obtain ⟨hwt, hwp⟩ := hF a w hC
          unfold wpOp
          rw [hof]
          show if Region.wanted of (yielded ops a.tmps) = true then _ else _
          rw [if_pos hwt]
          refine .inl (Oper.wp_mono ?_ hwp)
          rintro a' w' ⟨v, rfl, hv, hb⟩
          refine ⟨hCg _ _ hC hb, fun w'' hw'' => ?_⟩
          have hbb := hb.trans (hw''.mono hb.size)
          exact wpAnyT_okA hCg hs hQ hQ2 hΦ hof v ((i, 0) :: p) _ a w'' (hCg _ _ hC hbb) hBA (hΦ _ _ _ hv hw'') (hA0 w'' hbb)
      · rw [if_neg h0] at hB h
        by_cases h3 : k = 3
        · rw [if_pos h3] at hB; cases hB
        rw [if_neg h3] at hB h
        simp only [Bool.and_eq_true, beq_iff_eq] at hB
        obtain ⟨⟨rfl, hr⟩, hB'⟩ := hB
        obtain rfl := Option.some.inj (hof.symm.trans ho)
        refine ⟨fun h => (by rw [hr] at h; cases h), fun j hj => ?_⟩
        rw [hr] at hj
        obtain rfl := List.mem_singleton.1 hj
        obtain ⟨hwt, hwp⟩ := hF a w hC
        unfold wpOp
        rw [hof]
        show if Region.wanted of (yielded ops a.tmps) = true then _ else _
        rw [if_pos hwt]
        refine .inl (Oper.wp_mono ?_ hwp)
        rintro a' w' ⟨v, rfl, hv, hb⟩
        refine ⟨hCg _ _ hC hb, fun w'' hw'' => ?_⟩
        have hbb := hb.trans (hw''.mono hb.size)
        exact wpAnyT_ok0 hCg hs hQ p _ _ w'' (hCg _ _ hC hbb) hB' (h v w'' hbb (hΦ _ _ _ hv hw''))

theorem wp_region_planF {id : Nat} {a : Act} {W : World} (p : List (Nat × Nat)) (f B : Nat) (of : Oper) (hof : ops[f]? = some of) (hm : P.follows .mixedOrders = true)
    (hB : (p.length == ops.size && Region.noSelect ops && Region.okB .any ops f p (Array.replicate ops.size false)) = true) (hBW : B ≤ W.heap.size)
    (hQ : ∀ c a d v w, Q (.panic c) (a.put d v) w → Q (.panic c) a w) (hQ2 : ∀ c a d v w, Q (.panic c) a w → Q (.panic c) (a.put d v) w)
    (hΦ : ∀ v w w', Φ v w → Below w.heap.size w w' → Φ v w')
    (hF : ∀ a w, Below B W w → Region.wanted of (yielded ops a.tmps) = true ∧ of.wp P a w (fun a' w' => ∃ v, a' = a.put of.dst v ∧ Φ v w' ∧ Below w.heap.size w w') Q)
    (h : wpPlanFA P ops (Below B W) Q Φ p a W) : (Code.region id ops true).wp P Q a W := by
  simp only [Bool.and_eq_true, beq_iff_eq] at hB
  obtain ⟨⟨hlen, hs⟩, hP⟩ := hB
  have hCg : ∀ w w', Below B W w → Below w.heap.size w w' → Below B W w' := fun w w' h1 h2 => h1.trans (h2.mono (Nat.le_trans hBW h1.size))
  refine wp_region_any hm (wpAny_of_T (C := Below B W) _ _ _ _ ?_)
  have := wpAnyT_okB (P := P) (Q := Q) (C := Below B W) (md := .any) (ops := ops) (Φ := Φ) hCg hs hQ hQ2 hΦ hof hF p (Array.replicate ops.size false) a { W with drawn := W.drawn + 1 } ((Below.refl B W).drew) hP
    (fun w2 hw2 => h w2 (((Below.refl _ W).drew).trans (hw2.mono (Nat.le_refl _))))
  rw [hlen] at this
  exact this
theorem wpPlanFA_skip {l : List Oper} {i : Nat} {p : List (Nat × Nat)} {a : Act} {W0 : World} (o : Oper) (ho : l[i]? = some o) (hw : Region.wanted o (yielded l.toArray a.tmps) = false)
    (h : wpPlanFA P l.toArray C Q Φ p (a.put o.dst undef) W0) : wpPlanFA P l.toArray C Q Φ ((i, 1) :: p) a W0 :=
  fun w hg => ⟨o, by rw [List.getElem?_toArray]; exact ho, by rw [if_pos rfl]; exact ⟨undef, .inr ⟨hw, rfl⟩, fun w2 hg2 => h w2 (hg.trans (hg2.mono hg.size))⟩⟩
theorem wpPlanFA_soft {l : List Oper} {B i : Nat} {W W0 : World} {p : List (Nat × Nat)} {a : Act} (o : Oper) (v : Value) (ho : l[i]? = some o) (hw : Region.wanted o (yielded l.toArray a.tmps) = true)
    (hv : ∀ w, Below B W w → (∀ b o, b < B → w.cell? ⟨b, o, none⟩ = W.cell? ⟨b, o, none⟩) → o.softAt P a w v)
    (h : wpPlanFA P l.toArray (Below B W) Q Φ p (a.put o.dst v) W0) : wpPlanFA P l.toArray (Below B W) Q Φ ((i, 1) :: p) a W0 :=
  fun w hg => ⟨o, by rw [List.getElem?_toArray]; exact ho, by
    rw [if_pos rfl]
    exact ⟨v, .inl ⟨hw, fun w hb => hv w hb (fun b o h => hb.cell (p := ⟨b, o, none⟩) h)⟩, fun w2 hg2 => h w2 (hg.trans (hg2.mono hg.size))⟩⟩
theorem wpPlanFA_hard {l : List Oper} {i : Nat} {p : List (Nat × Nat)} {a : Act} {W0 : World} (o : Oper) (ho : l[i]? = some o) (hw : Region.wanted o (yielded l.toArray a.tmps) = true)
    (h : ∀ w, Below W0.heap.size W0 w → ∀ K : Act → World → Prop, (∀ a w1, C w1 → Below w.heap.size w w1 → wpPlanFA P l.toArray C Q Φ p a w1 → K a w1) → o.wp P a w K Q) : wpPlanFA P l.toArray C Q Φ ((i, 0) :: p) a W0 :=
  fun w hg => ⟨o, by rw [List.getElem?_toArray]; exact ho, by
    rw [if_neg (by decide), if_pos rfl, if_pos hw]
    exact h w hg _ fun _ _ h1 h2 h3 => ⟨⟨h1, h2⟩, h3⟩⟩
theorem wpPlanFA_float {l : List Oper} {i : Nat} {p : List (Nat × Nat)} {a : Act} {W0 : World} (o : Oper) (ho : l[i]? = some o)
    (h : ∀ v w, Below W0.heap.size W0 w → Φ v w → wpPlanFA P l.toArray C Q Φ p (a.put o.dst v) w) : wpPlanFA P l.toArray C Q Φ ((i, 2) :: p) a W0 :=
  fun w hg => ⟨o, by rw [List.getElem?_toArray]; exact ho, by
    rw [if_neg (by decide), if_neg (by decide), if_neg (by decide)]
    exact fun v w2 hg2 hv => h v w2 (hg.trans (hg2.mono hg.size)) hv w2 (Below.refl _ _)⟩
theorem wpPlanFA_late {l : List Oper} {i : Nat} {p : List (Nat × Nat)} {a : Act} {W0 : World} (o : Oper) (ho : l[i]? = some o) (hw : Region.wanted o (yielded l.toArray a.tmps) = true)
    (h : ∀ w, Below W0.heap.size W0 w → ∀ K : Act → World → Prop, (∀ a w1, C w1 → wpPlanFA P l.toArray C Q Φ p a w1 → K a w1) → o.wp P a w K Q) : wpPlanFA P l.toArray C Q Φ ((i, 3) :: p) a W0 :=
  fun w hg => ⟨o, by rw [List.getElem?_toArray]; exact ho, by
    rw [if_neg (by decide), if_neg (by decide), if_pos rfl, if_pos hw]
    exact h w hg _ fun _ _ h1 h3 => ⟨h1, h3⟩⟩
theorem wpPlanFA_nil {a : Act} {W0 : World} (h : ∀ w, Below W0.heap.size W0 w → Q .normal a w) : wpPlanFA P ops C Q Φ [] a W0 := h
end
end Go
/- Contracts and laws of blocks that the walk of the law SurveyMoney wants (cut from the texts of the laws 9 and 11). -/
namespace Go.Proofs.YtndhjkammoeikaaGreatDoor
open Go.RowKit
set_option maxHeartbeats 8000000
set_option maxRecDepth 100000
theorem c51w (A : Option Addr) (cap : Nat) (l : List Ent) (w : World) (hl : l.length ≤ 9223372036854775807) (H : RdL w 3 Ent.enc A l) :
    Calls Tryz.prog 51 #[.slice A l.length cap] w fun en w' => RB (l.length ≤ 65 ∧ ∀ e ∈ l, e.c.size ≤ 40) en ∧ w = w' := by
  obtain ⟨n, hn⟩ : ∃ n, n = l.length := ⟨_, rfl⟩
  rw [← hn] at hl ⊢
  have Hn := Lib.hid hn
  clear hn
  go_enter Tryz.func51, Tryz.ntmps51
  go_wp2
  go_loop [3] (fun i => ∃ j : Nat, j ≤ n ∧ i = .int .i64 j ∧ ∀ e ∈ l.take j, e.c.size ≤ 40) (fun i => n - (intOf i).toNat)
  case atStart => exact ⟨0, Nat.zero_le _, rfl, by simp⟩
  case round =>
    obtain ⟨j, hj, rfl, he⟩ := hrel
    have HE := Lib.hid he
    clear he
    by_cases hlt : j < n
    · obtain ⟨b, off, s, rfl, hx, hb, hc⟩ := H.at Ent.len (by rw [← Hn.out]; exact hlt)
      have q0 : w.cell? ⟨b, off + j * 3 + 2, none⟩ = some (.string s.c) := hc 2 (by omega)
      have HT : Hid (l.take (j + 1) = l.take j ++ [s]) := by
        show _ = _
        obtain ⟨hk, rfl⟩ := List.getElem?_eq_some_iff.1 hx
        exact List.take_succ_eq_append_getElem hk
      clear hc hx
      by_cases h1 : s.c.size ≤ 40
      · have h2 : ¬ (40 : Int) < (s.c.size : Int) := by omega
        have HN : Hid (∀ e ∈ l.take (j + 1), e.c.size ≤ 40) := by
          show ∀ e ∈ _, _
          rw [HT.out]
          intro e he
          rcases List.mem_append.1 he with h | h
          · exact HE.out e h
          · simp at h; subst h; exact h1
        go_wp2
        go_round
        case rel => exact ⟨j+1, by omega, by go_num, HN.out⟩
        case measure => simp [intOf]; omega
      · have h2 : (40 : Int) < (s.c.size : Int) := by omega
        go_wp2
        go_ret
        exact ⟨⟨false, rfl, fun h => by simp at h⟩, rfl⟩
    · obtain rfl : j = n := by omega
      have HA : Hid (∀ e ∈ l, e.c.size ≤ 40) := by
        show ∀ e ∈ _, _
        have := HE.out
        rw [Hn.out, List.take_length] at this
        exact this
      rcases (show j ≤ 10 ∨ j = 65 ∨ (¬ j ≤ 10 ∧ j ≠ 65) by omega) with h | h | ⟨h, h2⟩
      · have h1 : (j : Int) ≤ 10 := by omega
        go_wp2
        go_ret
        exact ⟨⟨true, rfl, fun _ => ⟨by omega, HA.out⟩⟩, rfl⟩
      · have h1 : ¬ (j : Int) ≤ 10 := by omega
        have h3 : ((j : Int) == 65) = true := by simp; omega
        have h4 : Hid (j ≤ 65) := by show _ ≤ _; omega
        clear h
        go_wp2
        go_ret
        exact ⟨⟨true, rfl, fun _ => ⟨h4.out, HA.out⟩⟩, rfl⟩
      · have h1 : ¬ (j : Int) ≤ 10 := by omega
        have h3 : ((j : Int) == 65) = false := by simp; omega
        clear h h2
        go_wp2
        go_ret
        exact ⟨⟨false, rfl, fun h => by simp at h⟩, rfl⟩
theorem c64w (A : Option Addr) (cap : Nat) (l : List Res) (w : World) (hl : l.length ≤ 9223372036854775807) (H : RdL w 3 Res.enc A l) :
    Calls Tryz.prog 64 #[.slice A l.length cap] w fun en w' => RB (l.length ≤ 65 ∧ ∀ e ∈ l, e.n.size ≤ 40) en ∧ w = w' := by
  obtain ⟨n, hn⟩ : ∃ n, n = l.length := ⟨_, rfl⟩
  rw [← hn] at hl ⊢
  have Hn := Lib.hid hn
  clear hn
  go_enter Tryz.func64, Tryz.ntmps64
  go_wp2
  go_loop [3] (fun i => ∃ j : Nat, j ≤ n ∧ i = .int .i64 j ∧ ∀ e ∈ l.take j, e.n.size ≤ 40) (fun i => n - (intOf i).toNat)
  case atStart => exact ⟨0, Nat.zero_le _, rfl, by simp⟩
  case round =>
    obtain ⟨j, hj, rfl, he⟩ := hrel
    have HE := Lib.hid he
    clear he
    by_cases hlt : j < n
    · obtain ⟨b, off, s, rfl, hx, hb, hc⟩ := H.at Res.len (by rw [← Hn.out]; exact hlt)
      have q0 : w.cell? ⟨b, off + j * 3, none⟩ = some (.string s.n) := hc 0 (by omega)
      have HT : Hid (l.take (j + 1) = l.take j ++ [s]) := by
        show _ = _
        obtain ⟨hk, rfl⟩ := List.getElem?_eq_some_iff.1 hx
        exact List.take_succ_eq_append_getElem hk
      clear hc hx
      by_cases h1 : s.n.size ≤ 40
      · have h2 : ¬ (40 : Int) < (s.n.size : Int) := by omega
        have HN : Hid (∀ e ∈ l.take (j + 1), e.n.size ≤ 40) := by
          show ∀ e ∈ _, _
          rw [HT.out]
          intro e he
          rcases List.mem_append.1 he with h | h
          · exact HE.out e h
          · simp at h; subst h; exact h1
        go_wp2
        go_round
        case rel => exact ⟨j+1, by omega, by go_num, HN.out⟩
        case measure => simp [intOf]; omega
      · have h2 : (40 : Int) < (s.n.size : Int) := by omega
        go_wp2
        go_ret
        exact ⟨⟨false, rfl, fun h => by simp at h⟩, rfl⟩
    · obtain rfl : j = n := by omega
      have HA : Hid (∀ e ∈ l, e.n.size ≤ 40) := by
        show ∀ e ∈ _, _
        have := HE.out
        rw [Hn.out, List.take_length] at this
        exact this
      rcases (show j ≤ 8 ∨ j = 65 ∨ (¬ j ≤ 8 ∧ j ≠ 65) by omega) with h | h | ⟨h, h2⟩
      · have h1 : (j : Int) ≤ 8 := by omega
        go_wp2
        go_ret
        exact ⟨⟨true, rfl, fun _ => ⟨by omega, HA.out⟩⟩, rfl⟩
      · have h1 : ¬ (j : Int) ≤ 8 := by omega
        have h3 : ((j : Int) == 65) = true := by simp; omega
        have h4 : Hid (j ≤ 65) := by show _ ≤ _; omega
        clear h
        go_wp2
        go_ret
        exact ⟨⟨true, rfl, fun _ => ⟨h4.out, HA.out⟩⟩, rfl⟩
      · have h1 : ¬ (j : Int) ≤ 8 := by omega
        have h3 : ((j : Int) == 65) = false := by simp; omega
        clear h h2
        go_wp2
        go_ret
        exact ⟨⟨false, rfl, fun h => by simp at h⟩, rfl⟩
theorem eq85r (h : Nat → Int) (w : World) : (Op.equalIn 10000 85 (.agg #[.int .i64 (h 0), .int .i64 (h 1), .int .i64 (h 2), .int .i64 (h 3), .int .i64 (h 4), .int .i64 (h 5)]) (.agg #[.int .i64 (h 0), .int .i64 (h 1), .int .i64 (h 2), .int .i64 (h 3), .int .i64 (h 4), .int .i64 (h 5)])).run Tryz.prog w = .ok true w := by
  have := eq85 h h w
  rw [arr6_eq, show eq6 h h = true from (eq6_iff h h).2 (fun _ _ => rfl)] at this
  exact this
theorem grown_blk {w w' : World} {g k : Nat} {o : Obj} (hg : w.grownBy w' (some g)) (h : w.heap[k]? = some o) (hne : k ≠ g) : w'.heap[k]? = some o :=
  (hg.block k (Array.getElem?_eq_some_iff.1 h).1 (by intro e; cases e; exact hne rfl)).trans h
/-- entries do not lie in a block of integers -/
theorem grown_ents {w w' : World} {g n : Nat} {A : Option Addr} {l : List Ent} {cs : Array Value} {t : TypeId} {f : Nat × Nat} (hg : w.grownBy w' (some g)) (hz : w.heap[g]? = some (.cells cs t f)) (hc : (cs.toList.all fun v => match v with | .int _ _ => true | _ => false) = true)
    (h : RdS w 3 A n (l.flatMap Ent.enc)) (hn : n = l.length) : RdS w' 3 A n (l.flatMap Ent.enc) := by
  refine ⟨h.1, fun h0 => ?_⟩
  obtain ⟨b, off, rfl, hb, hcell⟩ := h.2 h0
  have hne : b ≠ g := by
    rintro rfl
    obtain ⟨e, he⟩ : ∃ e, l[0]? = some e := ⟨_, List.getElem?_eq_getElem (by omega)⟩
    have h2 := flat_get Ent.len l 0 2 e he (by decide)
    have h3 := hcell 2 (by rw [h.1]; omega)
    rw [show (0 * 3 + 2 : Nat) = 2 from rfl] at h2
    rw [h2] at h3
    have h4 : w.cell? ⟨b, off + 2, none⟩ = some (.string e.c) := h3
    unfold World.cell? at h4
    rw [hz] at h4
    simp only [] at h4
    have hm := Array.mem_of_getElem? h4
    have := List.all_eq_true.1 hc _ (Array.mem_toList_iff.2 hm)
    simp at this
  exact ⟨b, off, rfl, Nat.lt_of_lt_of_le hb hg.size, fun j hj => by
    rw [World.cell?_of_block (w := w) (hg.block b hb (by intro e; cases e; exact hne rfl))]
    exact hcell j hj⟩
theorem c53o (A : Option Addr) (cap : Nat) (l : List Ent) (w : World) (hl : l.length ≤ 1000000) (H : RdL w 3 Ent.enc A l) :
    Calls Tryz.prog 53 #[.slice A l.length cap] w fun en w' => ∃ x, en = .returned x ∧ w'.ownsRow w.heap.size 134 3 x l.length (l.flatMap Ent.enc) ∧ Below w.heap.size w w' := by
  obtain ⟨i0, hi, hz0, hz1, hz2⟩ := info_parts info134
  obtain ⟨n, hn⟩ : ∃ n, n = l.length := ⟨_, rfl⟩
  rw [← hn] at hl ⊢
  have Hn := Lib.hid hn
  clear hn
  go_enter Tryz.func53, Tryz.ntmps53
  go_wp2
  go_loopw [3, 8] (fun x i wr => ∃ k : Nat, k ≤ n ∧ i = .int .i64 k ∧ wr.ownsRow w.heap.size 134 3 x k ((l.take k).flatMap Ent.enc) ∧ Below w.heap.size w wr) (fun _ i _ => n - (intOf i).toNat)
  case atStart => exact ⟨0, Nat.zero_le _, rfl, World.ownsRow_nil _ _ _ _, Below.refl _ _⟩
  case round =>
    obtain ⟨k, hk, rfl, hown, hB⟩ := hrel
    by_cases hlt : k < n
    · obtain ⟨b, off, s, rfl, hx, hb, hc⟩ := (H.below hB).at Ent.len (by rw [← Hn.out]; exact hlt)
      have q0 : wr.cell? ⟨b, off + k * 3, none⟩ = some (.int .i64 s.f) := hc 0 (by omega)
      have q1 : wr.cell? ⟨b, off + k * 3 + 1, none⟩ = some (.int .i64 s.t) := hc 1 (by omega)
      have q2 : wr.cell? ⟨b, off + k * 3 + 2, none⟩ = some (.string s.c) := hc 2 (by omega)
      have hst : Hid ((l.take (k + 1)).flatMap Ent.enc = (l.take k).flatMap Ent.enc ++ [.int .i64 s.f, .int .i64 s.t, .string s.c]) := by
        show _ = _
        obtain ⟨hk', rfl⟩ := List.getElem?_eq_some_iff.1 hx
        rw [List.take_succ_eq_append_getElem hk', List.flatMap_append]; simp [Ent.enc]
      have hsz := hB.size
      have hown1 := own_below hown ((Below.refl wr.heap.size wr).alloc (Nat.le_refl _) (Obj.cells #[.int .i64 s.f, .int .i64 s.t, .string s.c] 188))
      have hB1 := hB.alloc hsz (Obj.cells #[.int .i64 s.f, .int .i64 s.t, .string s.c] 188)
      clear hc hx hown
      go_wp2_with (at_builtin; refine wpList_append_own _ rfl _ _ 74 rfl w.heap.size 134 i0 (.agg #[.int .i64 0, .int .i64 0, .string ByteArray.empty]) 3 32 Tryz.underlying74 hi hz0 hz1 hz2 rfl (by decide) _ _ _ rfl (hown1.alloc _) ⟨wr.heap.size + 1, 0, none⟩ 1 1 [.int .i64 s.f, .int .i64 s.t, .string s.c] rfl rfl (news_one _ _ (by simp)) (by intro x hx; simp at hx; first | (subst hx; rfl) | (rcases hx with rfl | rfl <;> rfl) | (rcases hx with rfl | rfl | rfl <;> rfl)) (by unfold maxLen; omega) (by omega) (by simp; omega) ?_)
      intro x' w3 hown3 hg3 _
      have hB3 : Below w.heap.size w w3 := (hB1.alloc hB1.size _).grown hg3 (by simp; omega) (fun g hg => (hown1.lt g hg).1)
      rw [← hst.out] at hown3
      have HO := Lib.hid hown3
      clear hown3 hg3 hown1
      go_wp2
      go_roundw
      case rel => exact ⟨k + 1, by omega, by go_num, HO.out, hB3⟩
      case measure => simp [intOf]; omega
    · obtain rfl : k = n := by omega
      have hown' : wr.ownsRow w.heap.size 134 3 u3 k (l.flatMap Ent.enc) := by
        have h := hown
        rw [List.take_of_length_le (by rw [← Hn.out]; exact Nat.le_refl _)] at h
        exact h
      clear hown
      have HO := Lib.hid hown'
      clear hown'
      go_wp2
      go_ret
      exact ⟨_, rfl, HO.out, hB⟩
theorem c67o (A : Option Addr) (cap : Nat) (l : List Res) (w : World) (hl : l.length ≤ 1000000) (H : RdL w 3 Res.enc A l) :
    Calls Tryz.prog 67 #[.slice A l.length cap] w fun en w' => ∃ x, en = .returned x ∧ w'.ownsRow w.heap.size 210 3 x l.length (l.flatMap Res.enc) ∧ Below w.heap.size w w' := by
  obtain ⟨i0, hi, hz0, hz1, hz2⟩ := info_parts info210
  obtain ⟨n, hn⟩ : ∃ n, n = l.length := ⟨_, rfl⟩
  rw [← hn] at hl ⊢
  have Hn := Lib.hid hn
  clear hn
  go_enter Tryz.func67, Tryz.ntmps67
  go_wp2
  go_loopw [3, 8] (fun x i wr => ∃ k : Nat, k ≤ n ∧ i = .int .i64 k ∧ wr.ownsRow w.heap.size 210 3 x k ((l.take k).flatMap Res.enc) ∧ Below w.heap.size w wr) (fun _ i _ => n - (intOf i).toNat)
  case atStart => exact ⟨0, Nat.zero_le _, rfl, World.ownsRow_nil _ _ _ _, Below.refl _ _⟩
  case round =>
    obtain ⟨k, hk, rfl, hown, hB⟩ := hrel
    by_cases hlt : k < n
    · obtain ⟨b, off, s, rfl, hx, hb, hc⟩ := (H.below hB).at Res.len (by rw [← Hn.out]; exact hlt)
      have q0 : wr.cell? ⟨b, off + k * 3, none⟩ = some (.string s.n) := hc 0 (by omega)
      have q1 : wr.cell? ⟨b, off + k * 3 + 1, none⟩ = some (.int .i64 s.f) := hc 1 (by omega)
      have q2 : wr.cell? ⟨b, off + k * 3 + 2, none⟩ = some (.int .i64 s.w) := hc 2 (by omega)
      have hst : Hid ((l.take (k + 1)).flatMap Res.enc = (l.take k).flatMap Res.enc ++ [.string s.n, .int .i64 s.f, .int .i64 s.w]) := by
        show _ = _
        obtain ⟨hk', rfl⟩ := List.getElem?_eq_some_iff.1 hx
        rw [List.take_succ_eq_append_getElem hk', List.flatMap_append]; simp [Res.enc]
      have hsz := hB.size
      have hown1 := own_below hown ((Below.refl wr.heap.size wr).alloc (Nat.le_refl _) (Obj.cells #[.string s.n, .int .i64 s.f, .int .i64 s.w] 202))
      have hB1 := hB.alloc hsz (Obj.cells #[.string s.n, .int .i64 s.f, .int .i64 s.w] 202)
      clear hc hx hown
      go_wp2_with (at_builtin; refine wpList_append_own _ rfl _ _ 131 rfl w.heap.size 210 i0 (.agg #[.string ByteArray.empty, .int .i64 0, .int .i64 0]) 3 32 Tryz.underlying131 hi hz0 hz1 hz2 rfl (by decide) _ _ _ rfl (hown1.alloc _) ⟨wr.heap.size + 1, 0, none⟩ 1 1 [.string s.n, .int .i64 s.f, .int .i64 s.w] rfl rfl (news_one _ _ (by simp)) (by intro x hx; simp at hx; first | (subst hx; rfl) | (rcases hx with rfl | rfl <;> rfl) | (rcases hx with rfl | rfl | rfl <;> rfl)) (by unfold maxLen; omega) (by omega) (by simp; omega) ?_)
      intro x' w3 hown3 hg3 _
      have hB3 : Below w.heap.size w w3 := (hB1.alloc hB1.size _).grown hg3 (by simp; omega) (fun g hg => (hown1.lt g hg).1)
      rw [← hst.out] at hown3
      have HO := Lib.hid hown3
      clear hown3 hg3 hown1
      go_wp2
      go_roundw
      case rel => exact ⟨k + 1, by omega, by go_num, HO.out, hB3⟩
      case measure => simp [intOf]; omega
    · obtain rfl : k = n := by omega
      have hown' : wr.ownsRow w.heap.size 210 3 u3 k (l.flatMap Res.enc) := by
        have h := hown
        rw [List.take_of_length_le (by rw [← Hn.out]; exact Nat.le_refl _)] at h
        exact h
      clear hown
      have HO := Lib.hid hown'
      clear hown'
      go_wp2
      go_ret
      exact ⟨_, rfl, HO.out, hB⟩
def Fresh (B : Nat) (zs : Array Value) (t : TypeId) (v : Value) (w : World) : Prop := ∃ g : Nat, v = .pointer (some ⟨g, 0, none⟩) ∧ B ≤ g ∧ w.heap[g]? = some (.cells zs t (0, 0))
theorem Fresh.below {B : Nat} {zs : Array Value} {t : TypeId} {v : Value} {w w' : World} (h : Fresh B zs t v w) (hb : Below w.heap.size w w') : Fresh B zs t v w' := by
  obtain ⟨g, h1, h2, h3⟩ := h
  exact ⟨g, h1, h2, blkb h3 hb⟩
theorem own_form {w : World} {base : Nat} {e : TypeId} {size : Nat} {v : Value} {n : Nat} {xs : List Value} (h : w.ownsRow base e size v n xs) :
    ∃ A C, v = .slice A n C ∧ RdS w size A n xs ∧ n ≤ C ∧ C ≤ 9223372036854775807 ∧ ∀ b off, A = some ⟨b, off, none⟩ → b < w.heap.size := by
  have h0 := Sl.of_own h
  obtain ⟨hx, ⟨rfl, hn⟩ | ⟨g, cap, cur, rfl, hg, hh, hn, hc, hs, ht⟩⟩ := h
  · obtain ⟨A, C, he, hr⟩ := h0
    cases he
    exact ⟨none, 0, rfl, hr, by omega, by omega, fun _ _ h => by cases h⟩
  · obtain ⟨A, C, he, hr⟩ := h0
    cases he
    unfold maxLen at hc
    exact ⟨_, _, rfl, hr, hn, by omega, fun b off h => by cases h; exact (Array.getElem?_eq_some_iff.1 hh).1⟩
/-- strings do not lie in a block of integers -/
theorem grown_strs {w w' : World} {g n : Nat} {A : Option Addr} {l : List ByteArray} {cs : Array Value} {t : TypeId} {f : Nat × Nat} (hg : w.grownBy w' (some g)) (hz : w.heap[g]? = some (.cells cs t f)) (hc : (cs.toList.all fun v => match v with | .int _ _ => true | _ => false) = true)
    (h : RdS w 1 A n (l.map Value.string)) (hn : n = l.length) : RdS w' 1 A n (l.map Value.string) := by
  refine ⟨h.1, fun h0 => ?_⟩
  obtain ⟨b, off, rfl, hb, hcell⟩ := h.2 h0
  have hne : b ≠ g := by
    rintro rfl
    obtain ⟨e, he⟩ : ∃ e, l[0]? = some e := ⟨_, List.getElem?_eq_getElem (by omega)⟩
    have h3 := hcell 0 (by rw [h.1]; omega)
    rw [List.getElem?_map, he] at h3
    have h4 : w.cell? ⟨b, off + 0, none⟩ = some (.string e) := h3
    unfold World.cell? at h4
    rw [hz] at h4
    simp only [] at h4
    have hm := Array.mem_of_getElem? h4
    have := List.all_eq_true.1 hc _ (Array.mem_toList_iff.2 hm)
    simp at this
  exact ⟨b, off, rfl, Nat.lt_of_lt_of_le hb hg.size, fun j hj => by
    rw [World.cell?_of_block (w := w) (hg.block b hb (by intro e; cases e; exact hne rfl))]
    exact hcell j hj⟩
/-- results do not lie in a block of integers -/
theorem grown_ress {w w' : World} {g n : Nat} {A : Option Addr} {l : List Res} {cs : Array Value} {t : TypeId} {f : Nat × Nat} (hg : w.grownBy w' (some g)) (hz : w.heap[g]? = some (.cells cs t f)) (hc : (cs.toList.all fun v => match v with | .int _ _ => true | _ => false) = true)
    (h : RdS w 3 A n (l.flatMap Res.enc)) (hn : n = l.length) : RdS w' 3 A n (l.flatMap Res.enc) := by
  refine ⟨h.1, fun h0 => ?_⟩
  obtain ⟨b, off, rfl, hb, hcell⟩ := h.2 h0
  have hne : b ≠ g := by
    rintro rfl
    obtain ⟨e, he⟩ : ∃ e, l[0]? = some e := ⟨_, List.getElem?_eq_getElem (by omega)⟩
    have h2 := flat_get Res.len l 0 0 e he (by decide)
    have h3 := hcell 0 (by rw [h.1]; omega)
    rw [show (0 * 3 + 0 : Nat) = 0 from rfl] at h2
    rw [h2] at h3
    have h4 : w.cell? ⟨b, off + 0, none⟩ = some (.string e.n) := h3
    unfold World.cell? at h4
    rw [hz] at h4
    simp only [] at h4
    have hm := Array.mem_of_getElem? h4
    have := List.all_eq_true.1 hc _ (Array.mem_toList_iff.2 hm)
    simp at this
  exact ⟨b, off, rfl, Nat.lt_of_lt_of_le hb hg.size, fun j hj => by
    rw [World.cell?_of_block (w := w) (hg.block b hb (by intro e; cases e; exact hne rfl))]
    exact hcell j hj⟩
theorem eq85d (a b : Nat → Int) (w : World) : (Op.equalIn 9999 85 (.agg (arr6 a)) (.agg (arr6 b))).run Tryz.prog w = .ok (eq6 a b) w := by
  have u3 := Tryz.underlying3
  have a3 := Tryz.isAgg3
  have z3 := Tryz.sizeOf3
  rw [arr6_eq, arr6_eq, show (9999 : Nat) = 9998 + 1 from rfl, Op.equalIn]
  simp only [Sem.run_bind, run_underlying Tryz.underlying85, Result.andThen_ok]
  simp only [Std.Legacy.Range.forIn_eq_forIn_range', Std.Legacy.Range.size, Nat.sub_zero, Nat.add_sub_cancel, Nat.div_one, List.range'_succ, List.range'_zero, List.forIn_cons, List.forIn_nil]
  go_simp
  unfold eq6
  by_cases h0 : a 0 = b 0 <;> simp [h0]
  by_cases h1 : a 1 = b 1 <;> simp [h1]
  by_cases h2 : a 2 = b 2 <;> simp [h2]
  by_cases h3 : a 3 = b 3 <;> simp [h3]
  by_cases h4 : a 4 = b 4 <;> simp [h4]
  by_cases h5 : a 5 = b 5 <;> simp [h5]
theorem eq87r (V : Inv) (w : World) : (Op.equalIn 10000 87 (.agg #[.int .i64 (V.c 0), .int .i64 (V.c 1), .int .i64 (V.c 2), .int .i64 (V.c 3), .int .i64 (V.c 4), .int .i64 (V.c 5), .int .i64 V.lines, .int .i64 V.total]) (.agg #[.int .i64 (V.c 0), .int .i64 (V.c 1), .int .i64 (V.c 2), .int .i64 (V.c 3), .int .i64 (V.c 4), .int .i64 (V.c 5), .int .i64 V.lines, .int .i64 V.total])).run Tryz.prog w = .ok true w := by
  have u3 := Tryz.underlying3
  have a3 := Tryz.isAgg3
  have z3 := Tryz.sizeOf3
  have u85 := Tryz.underlying85
  have a85 := Tryz.isAgg85
  have z85 := Tryz.sizeOf85
  have E := fun w => eq85d V.c V.c w
  rw [arr6_eq, show eq6 V.c V.c = true from (eq6_iff V.c V.c).2 (fun _ _ => rfl)] at E
  rw [show (10000 : Nat) = 9999 + 1 from rfl, run_equalIn_struct w 9999 87 _ _ (by unfold Program.fieldsOf; rw [Tryz.underlying87]) (by kernel_rfl)]
  unfold Program.fieldsOf
  rw [Tryz.underlying87]
  simp only [Op.eqFields]
  go_simp
end Go.Proofs.YtndhjkammoeikaaGreatDoor
/- Plain laws for the law SurveyMoney: what valid bills give. -/
namespace Go.Proofs.YtndhjkammoeikaaGreatDoor
namespace Mo
theorem eok_size {e : Ent} (h : EOk e) : e.c.size ≤ 1000000 := by
  rcases num_cases e.c with h1 | h1 | h1 | h1 | h1 | h1 | h1
  · rw [h1]; decide
  · rw [h1]; decide
  · rw [h1]; decide
  · rw [h1]; decide
  · rw [h1]; decide
  · rw [h1]; decide
  · have := h.n.1
    have h2 := num_ne e.c h1
    omega
theorem ents_size {l : List Ent} (h : entries l = 0) : ∀ e ∈ l, e.c.size ≤ 1000000 := fun e he => eok_size ((entries_ok h).2.1 e he)
theorem bill_of {c : Con} {l : List Ent} {rs : List Res} (h1 : con c = 0) (h2 : entries l = 0) (h3 : results rs = 0) : bill c l rs = 0 := by
  unfold bill
  rw [h1, h2, h3]
  rfl
theorem bill_merged {c : Con} {l : List Ent} {rs : List Res} (h : bill c l rs = 0) : bill c (merged l) rs = 0 ∧ billI c (merged l) rs = billI c l rs := by
  obtain ⟨h1, h2, h3⟩ := bill_ok h
  exact ⟨bill_of h1 (merged_entries h2) h3, billI_congr rs (fun i => merged_hrs l i)⟩
theorem hours_ok {l : List Ent} (h : entries l = 0) : hoursV l = .agg #[.int .i64 (hrs l 0), .int .i64 (hrs l 1), .int .i64 (hrs l 2), .int .i64 (hrs l 3), .int .i64 (hrs l 4), .int .i64 (hrs l 5)] := by
  unfold hoursV
  rw [if_neg (by rw [h]; simp)]
  unfold hrsV
  rw [arr6_eq]
  rfl
theorem hours_merged {l : List Ent} (h : entries l = 0) : hoursV (merged l) = .agg #[.int .i64 (hrs l 0), .int .i64 (hrs l 1), .int .i64 (hrs l 2), .int .i64 (hrs l 3), .int .i64 (hrs l 4), .int .i64 (hrs l 5)] := by
  rw [hours_ok (merged_entries h)]
  simp only [merged_hrs]
theorem bill_more {c : Con} {l : List Ent} {rs : List Res} (h : bill c l rs = 0) (hf : c.free < 100000) : bill (more c) l rs = 0 := by
  obtain ⟨h1, h2, h3⟩ := bill_ok h
  exact bill_of (con_more h1 hf) h2 h3
/-- the bounds that the sum of the seven wants -/
theorem bill_bd {c : Con} {l : List Ent} {rs : List Res} (h : bill c l rs = 0) (k : Nat) (hk : k ≤ 6) :
    -500000000000 ≤ (billI c l rs).lines + psum (billI c l rs).c k ∧ (billI c l rs).lines + psum (billI c l rs).c k ≤ 500000000000 := by
  obtain ⟨h1, h2, h3⟩ := bill_ok h
  obtain ⟨e1, e2, _⟩ := entries_ok h2
  have hc := con_ok h1
  have hr := (results_ok h3).1
  have a1 := lsum_bd c hc rs
  have a2 := psum_bd2 (prodI c l) 64000000000 (fun i hi => prod_bd c l hc e1 e2 i hi) k hk
  show -500000000000 ≤ lsum c rs + psum (prodI c l) k ∧ lsum c rs + psum (prodI c l) k ≤ 500000000000
  omega
end Mo
end Go.Proofs.YtndhjkammoeikaaGreatDoor
/- Plain laws for the law SurveyMoney: what a diary of valid arguments is. -/
namespace Go.Proofs.YtndhjkammoeikaaGreatDoor
namespace Mo
/-- where the k-th span begins -/
def atK (L : List Ent) : Nat → Int
  | 0 => 0
  | j + 1 => ((L[j]?).map (·.t)).getD 0
theorem dia_facts {v : Ves} {u : Wat} {l : List Sgt} {sh we : List Spn} (h1 : all v u l = 0) (h2 : spans sh = 0) (h3 : spans we = 0) :
    (diary v u l sh we = ([], 5) ∧ 64 < v.n) ∨ ∃ L : List Ent, diary v u l sh we = (L, 0) ∧ L.length ≤ 64 ∧ entries L = 0 ∧
      (∀ k e, L[k]? = some e → e.f = atK L k ∧ e.f < e.t ∧ 0 ≤ e.f ∧ e.t ≤ 100000) ∧ (∀ k a b, L[k]? = some a → L[k+1]? = some b → a.c.toList ≠ b.c.toList) ∧
      atK L L.length = v.n ∧ tot L = v.n ∧ hrs L 1 = 0 ∧ hrs L 4 = 0 := by
  have hn := (all_ok h1).1.n
  obtain ⟨⟨r, s, hrs0, hst⟩, hok, hadj, hhd, htot, hz1, hz4, hlen⟩ := diaL_law v u l sh we hn.1 hn.2
  have he : diaE v u l sh we = 0 := by unfold diaE; rw [h1, h2, h3]; rfl
  have hd : diary v u l sh we = cap64 (diaL v u l sh we) := by unfold diary; rw [if_neg (by rw [he]; simp)]
  rw [hd]
  unfold cap64
  by_cases hl : 64 < (diaL v u l sh we).length
  · rw [if_pos hl]
    exact .inl ⟨rfl, by omega⟩
  · rw [if_neg hl]
    refine .inr ⟨_, rfl, by omega, diaL_entries v u l sh we hn.1 hn.2 (by omega), ?_, ?_, ?_, htot, hz1, hz4⟩
    · intro k e hk
      have hb := (hok e (List.mem_of_getElem? hk)).b
      refine ⟨?_, hb.2.1, hb.1, hb.2.2⟩
      cases k with
      | zero =>
        have h0 : (diaL v u l sh we).head? = some e := by rw [List.head?_eq_getElem?]; exact hk
        rw [h0] at hhd
        exact Option.some.inj hhd
      | succ j =>
        obtain ⟨hj, _⟩ := List.getElem?_eq_some_iff.1 hk
        have hg : (diaL v u l sh we)[j]? = some (diaL v u l sh we)[j] := List.getElem?_eq_getElem (by omega)
        have := (hadj j _ e hg hk).1
        show e.f = (((diaL v u l sh we)[j]?).map (·.t)).getD 0
        rw [hg]
        exact this.symm
    · intro k a b ha hb
      have := hadj k a b ha hb
      exact this.2 this.1
    · rw [hrs0]
      simp only [List.length_append, List.length_cons, List.length_nil, Nat.zero_add, atK]
      rw [List.getElem?_append_right (Nat.le_refl _)]
      simp [hst]
end Mo
end Go.Proofs.YtndhjkammoeikaaGreatDoor
/- (For SurveyMoney.) The arguments of chapter 9's laws on money, opened. -/
set_option maxHeartbeats 1000000
set_option maxRecDepth 100000
namespace Go.Proofs.YtndhjkammoeikaaGreatDoor
open Go.ChangeShapes Go.WideShapes Go.ChangeAt Go.RowKit
section
variable {H : Type} {enc : TypeId × Value → H} {W : World} {base : Nat} {v : Value} {d : DataW H} {p : List MemPlace}
theorem open_con (hv : Value.okWide Tryz.prog W .any base 122 v) (h : DataW.Trod enc Tryz.prog W 0 (fun _ => true) true 122 v d p) : ∃ c : Con, v = .agg #[.int .i64 (c.r 0), .int .i64 (c.r 1), .int .i64 (c.r 2), .int .i64 (c.r 3), .int .i64 (c.r 4), .int .i64 (c.r 5), .int .i64 c.free, .int .i64 c.bonus, .int .i64 c.pen] := by
  obtain ⟨cs, rfl, hc0⟩ := leaf_arg (ts := [3,3,3,3,3,3,3,3,3]) Tryz.underlying122 hv h (by kernel_rfl)
  obtain ⟨x0, r0, rfl, _, hc1⟩ := hc0.int Tryz.underlying3
  obtain ⟨x1, r1, rfl, _, hc2⟩ := hc1.int Tryz.underlying3
  obtain ⟨x2, r2, rfl, _, hc3⟩ := hc2.int Tryz.underlying3
  obtain ⟨x3, r3, rfl, _, hc4⟩ := hc3.int Tryz.underlying3
  obtain ⟨x4, r4, rfl, _, hc5⟩ := hc4.int Tryz.underlying3
  obtain ⟨x5, r5, rfl, _, hc6⟩ := hc5.int Tryz.underlying3
  obtain ⟨x6, r6, rfl, _, hc7⟩ := hc6.int Tryz.underlying3
  obtain ⟨x7, r7, rfl, _, hc8⟩ := hc7.int Tryz.underlying3
  obtain ⟨x8, r8, rfl, _, hc9⟩ := hc8.int Tryz.underlying3
  obtain rfl := hc9.nil
  exact ⟨⟨fun k => match k with | 0 => x0 | 1 => x1 | 2 => x2 | 3 => x3 | 4 => x4 | _ => x5, x6, x7, x8⟩, rfl⟩
theorem open_day (hv : Value.okWide Tryz.prog W .any base 125 v) (h : DataW.Trod enc Tryz.prog W 0 (fun _ => true) true 125 v d p) : ∃ (y : Ves) (x : Wat) (A : Option Addr) (cap : Nat) (l : List Sgt) (S : Option Addr) (scap : Nat) (sh : List Spn) (B : Option Addr) (bcap : Nat) (we : List Spn) (k : Int) (G : Option Addr) (gcap : Nat) (rs : List Res), v = .agg #[.int .i64 y.sx, .int .i64 y.sy, .int .i64 y.dx, .int .i64 y.dy, .int .i64 y.n, .int .i64 x.ring, .int .i64 x.speed, .int .i64 x.loss, .int .i64 x.clear, .int .i64 x.soft, .slice A l.length cap, .slice S sh.length scap, .slice B we.length bcap, .int .i64 k, .slice G rs.length gcap] ∧ (RdL W 3 Sgt.enc A l ∧ (A = none → cap = 0) ∧ l.length ≤ cap ∧ cap ≤ maxLen) ∧ (RdL W 2 Spn.enc S sh ∧ (S = none → scap = 0) ∧ sh.length ≤ scap ∧ scap ≤ maxLen) ∧ (RdL W 2 Spn.enc B we ∧ (B = none → bcap = 0) ∧ we.length ≤ bcap ∧ bcap ≤ maxLen) ∧ (RdL W 3 Res.enc G rs ∧ (G = none → gcap = 0) ∧ rs.length ≤ gcap ∧ gcap ≤ maxLen) := by
  obtain ⟨cs, rfl, hc0⟩ := leaf_arg (ts := [3,3,3,3,3,3,3,3,3,3,28,42,42,3,123]) Tryz.underlying125 hv h (by kernel_rfl)
  obtain ⟨x0, r0, rfl, _, hc1⟩ := hc0.int Tryz.underlying3
  obtain ⟨x1, r1, rfl, _, hc2⟩ := hc1.int Tryz.underlying3
  obtain ⟨x2, r2, rfl, _, hc3⟩ := hc2.int Tryz.underlying3
  obtain ⟨x3, r3, rfl, _, hc4⟩ := hc3.int Tryz.underlying3
  obtain ⟨x4, r4, rfl, _, hc5⟩ := hc4.int Tryz.underlying3
  obtain ⟨x5, r5, rfl, _, hc6⟩ := hc5.int Tryz.underlying3
  obtain ⟨x6, r6, rfl, _, hc7⟩ := hc6.int Tryz.underlying3
  obtain ⟨x7, r7, rfl, _, hc8⟩ := hc7.int Tryz.underlying3
  obtain ⟨x8, r8, rfl, _, hc9⟩ := hc8.int Tryz.underlying3
  obtain ⟨x9, r9, rfl, _, hc10⟩ := hc9.int Tryz.underlying3
  obtain ⟨c10, r10, rfl, ⟨_, _, hy10⟩, hc11⟩ := hc10.head
  obtain ⟨A10, cap10, l10, rfl, hr10⟩ := sl28 hy10
  obtain ⟨c11, r11, rfl, ⟨_, _, hy11⟩, hc12⟩ := hc11.head
  obtain ⟨A11, cap11, l11, rfl, hr11⟩ := sl42 hy11
  obtain ⟨c12, r12, rfl, ⟨_, _, hy12⟩, hc13⟩ := hc12.head
  obtain ⟨A12, cap12, l12, rfl, hr12⟩ := sl42 hy12
  obtain ⟨x13, r13, rfl, _, hc14⟩ := hc13.int Tryz.underlying3
  obtain ⟨c14, r14, rfl, ⟨_, _, hy14⟩, hc15⟩ := hc14.head
  obtain ⟨A14, cap14, l14, rfl, hr14⟩ := sl123 hy14
  obtain rfl := hc15.nil
  exact ⟨⟨x0, x1, x2, x3, x4⟩, ⟨x5, x6, x7, x8, x9⟩, A10, cap10, l10, A11, cap11, l11, A12, cap12, l12, x13, A14, cap14, l14, rfl, hr10, hr11, hr12, hr14⟩
end
end Go.Proofs.YtndhjkammoeikaaGreatDoor
