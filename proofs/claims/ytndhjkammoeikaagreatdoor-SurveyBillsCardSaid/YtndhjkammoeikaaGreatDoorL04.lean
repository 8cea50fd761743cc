/- A part of the proofs about chapter 9: contracts of functions and plain laws (PlanF, W70, Args2). -/
import Derived.Test.YtndhjkammoeikaaGreatDoorL01
import Derived.Test.YtndhjkammoeikaaGreatDoorL03
set_option linter.all false
/- A region that draws its order, with one new block that is laid whenever it likes ahead of its use. -/
namespace Go
open Go.RowKit
section
variable {P : Program} {ops : Array Oper} {md : Region.Mode} {C : World → Prop} {Q : Exit → Act → World → Prop} {Φ : Value → World → Prop}

def Region.apartB (ops : Array Oper) (i f : Nat) : Bool := match ops[i]?, ops[f]? with
  | some oi, some o => oi.apart ops o
  | _, _ => false
def Region.ok0 (md : Region.Mode) (ops : Array Oper) : List (Nat × Nat) → Array Bool → Bool
  | [], listed => (Region.ready md ops listed).isEmpty
  | (i, k) :: p, listed =>
    if k = 1 then (Region.ready md ops listed).contains i && Region.free md ops listed i && Region.ok0 md ops p (listed.setIfInBounds i true)
    else if k = 0 then (Region.ready md ops listed) == [i] && Region.ok0 md ops p (listed.setIfInBounds i true)
    else if k = 3 then (Region.ready md ops listed) == [i] && Region.ok0 md ops p (listed.setIfInBounds i true)
    else false
def Region.okA (md : Region.Mode) (ops : Array Oper) (f : Nat) : List (Nat × Nat) → Array Bool → Bool
  | [], _ => false
  | (i, k) :: p, listed =>
    if k = 1 then Region.apartB ops i f && (Region.ready md ops listed).contains i && Region.free md ops listed i && Region.okA md ops f p (listed.setIfInBounds i true)
    else if k = 0 then Region.apartB ops i f && (Region.ready md ops listed) == [i] && Region.okA md ops f p (listed.setIfInBounds i true)
    else if k = 3 then false
    else i == f && Region.ok0 md ops p listed
def Region.okB (md : Region.Mode) (ops : Array Oper) (f : Nat) : List (Nat × Nat) → Array Bool → Bool
  | [], _ => false
  | (i, k) :: p, listed =>
    if k = 1 then (Region.ready md ops listed).contains i && Region.free md ops listed i && Region.okB md ops f p (listed.setIfInBounds i true)
    else if k = 0 then (Region.ready md ops listed).contains i && ((Region.ready md ops listed).all fun j => j == i || j == f) && Region.okA md ops f ((i, 0) :: p) (listed.setIfInBounds f true) && Region.okB md ops f p (listed.setIfInBounds i true)
    else if k = 3 then false
    else i == f && (Region.ready md ops listed) == [f] && Region.ok0 md ops p (listed.setIfInBounds f true)

def wpPlanF (P : Program) (ops : Array Oper) (C : World → Prop) (Q : Exit → Act → World → Prop) (Φ : Value → World → Prop) : List (Nat × Nat) → Act → World → Prop
  | [], a, w => Q .normal a w
  | (i, k) :: p, a, w => ∃ o, ops[i]? = some o ∧
    (if k = 1 then ∃ v, SoftIn P ops C o v a ∧ ∀ w'', Below w.heap.size w w'' → wpPlanF P ops C Q Φ p (a.put o.dst v) w''
     else if k = 0 then (if Region.wanted o (yielded ops a.tmps) then o.wp P a w (fun a' w' => (C w' ∧ Below w.heap.size w w') ∧ ∀ w'', Below w'.heap.size w' w'' → wpPlanF P ops C Q Φ p a' w'') Q
       else ∀ w'', Below w.heap.size w w'' → wpPlanF P ops C Q Φ p (a.put o.dst undef) w'')
     else if k = 3 then (if Region.wanted o (yielded ops a.tmps) then o.wp P a w (fun a' w' => C w' ∧ ∀ w'', Below w'.heap.size w' w'' → wpPlanF P ops C Q Φ p a' w'') Q
       else ∀ w'', Below w.heap.size w w'' → wpPlanF P ops C Q Φ p (a.put o.dst undef) w'')
     else ∀ v w'', Below w.heap.size w w'' → Φ v w'' → wpPlanF P ops C Q Φ p (a.put o.dst v) w'')

theorem wp_putInto {oj : Oper} {d : Option Tmp} {v : Value} {a : Act} {w : World} {K : Act → World → Prop} (h3 : ∀ d', d = some d' → d' ∉ oj.looksAt ops) (h2 : ∀ d', d = some d' → oj.dst ≠ some d')
    (hsj : ∀ cs b, oj.op ≠ .select cs b) (hQ2 : ∀ c a d v w, Q (.panic c) a w → Q (.panic c) (a.put d v) w) (h : oj.wp P a w K Q) :
    oj.wp P (a.put d v) w (fun a' w' => ∃ a1 : Act, a' = a1.put d v ∧ K a1 w') Q := by
  unfold Oper.wp at *
  rw [execOp_put oj hsj a d v h3]
  generalize (execOp a.eval oj).run P w = r at *
  cases r with
  | ok n w' =>
    cases n <;> simp only [Oper.upon] at h ⊢
    case value u => exact ⟨_, Act.put_comm a v u h2, h⟩
    case skip => exact ⟨_, Act.put_comm a v undef h2, h⟩
    case defer x => exact ⟨_, by rw [Act.put_defers]; exact Act.put_comm _ v undef h2, h⟩
    case enter f args =>
      refine Calls.mono h fun e w'' he => ?_
      cases e with
      | returned u => exact ⟨_, Act.put_comm a v u h2, he⟩
      | panicked c => exact hQ2 _ _ _ _ _ he
      | outgrown => exact he
    case row row args => exact Rows.mono h fun u w'' he => ⟨_, Act.put_comm a v u h2, he⟩
  | halt x w' =>
    cases x <;> simp only [Oper.upon] at h ⊢
    case panic u => exact hQ2 _ _ _ _ _ h

theorem wpAnyT_ok0 (hCg : ∀ w w', C w → Below w.heap.size w w' → C w') (hs : Region.noSelect ops = true) (hQ : ∀ c a d v w, Q (.panic c) (a.put d v) w → Q (.panic c) a w) :
    ∀ (p : List (Nat × Nat)) (listed : Array Bool) (a : Act) (w : World), C w → Region.ok0 md ops p listed = true → wpPlanF P ops C Q Φ p a w → wpAnyT P md ops C Q p.length listed a w
  | [], _, _, _, _, hB, h => ⟨by simpa [Region.ok0] using hB, h⟩
  | (i, k) :: p, listed, a, w, hC, hB, h => by
    obtain ⟨o, ho, h⟩ := h
    unfold Region.ok0 at hB
    by_cases h1 : k = 1
    · rw [if_pos h1] at hB h
      obtain ⟨v, hy, hK⟩ := h
      simp only [Bool.and_eq_true] at hB
      obtain ⟨⟨hr, hf⟩, hB'⟩ := hB
      exact wpAnyT_first hCg ho (Region.noSelect_spec hs) hQ p.length listed a w (Region.free_spec ho hf) (by simpa using hr) hy hC fun w' hw' => wpAnyT_ok0 hCg hs hQ p _ _ w' (hCg _ _ hC hw') hB' (hK w' hw')
    · rw [if_neg h1] at hB h
      by_cases h0 : k = 0
      · rw [if_pos h0] at hB h
        simp only [Bool.and_eq_true, beq_iff_eq] at hB
        obtain ⟨hr, hB'⟩ := hB
        refine ⟨fun h => (by rw [hr] at h; cases h), fun j hj => ?_⟩
        rw [hr] at hj
        obtain rfl := List.mem_singleton.1 hj
        unfold wpOp
        rw [ho]
        show if Region.wanted o (yielded ops a.tmps) = true then _ else _
        split
        · rename_i hw
          rw [if_pos hw] at h
          exact .inl (Oper.wp_mono (fun a' w' h' => ⟨h'.1.1, fun w'' hw'' => wpAnyT_ok0 hCg hs hQ p _ a' w'' (hCg _ _ h'.1.1 hw'') hB' (h'.2 w'' hw'')⟩) h)
        · rename_i hw
          rw [if_neg hw] at h
          exact ⟨hC, fun w'' hw'' => wpAnyT_ok0 hCg hs hQ p _ _ w'' (hCg _ _ hC hw'') hB' (h w'' hw'')⟩
      · rw [if_neg h0] at hB h
        by_cases h3 : k = 3
        · rw [if_pos h3] at hB h
          simp only [Bool.and_eq_true, beq_iff_eq] at hB
          obtain ⟨hr, hB'⟩ := hB
          refine ⟨fun h => (by rw [hr] at h; cases h), fun j hj => ?_⟩
          rw [hr] at hj
          obtain rfl := List.mem_singleton.1 hj
          unfold wpOp
          rw [ho]
          show if Region.wanted o (yielded ops a.tmps) = true then _ else _
          split
          · rename_i hw
            rw [if_pos hw] at h
            exact .inl (Oper.wp_mono (fun a' w' h' => ⟨h'.1, fun w'' hw'' => wpAnyT_ok0 hCg hs hQ p _ a' w'' (hCg _ _ h'.1 hw'') hB' (h'.2 w'' hw'')⟩) h)
          · rename_i hw
            rw [if_neg hw] at h
            exact ⟨hC, fun w'' hw'' => wpAnyT_ok0 hCg hs hQ p _ _ w'' (hCg _ _ hC hw'') hB' (h w'' hw'')⟩
        · rw [if_neg h3] at hB
          cases hB

theorem okA_pos {f : Nat} {p : List (Nat × Nat)} {listed : Array Bool} (h : Region.okA md ops f p listed = true) : 0 < p.length := by
  cases p with
  | nil => cases h
  | cons x p => simp

theorem wpAnyT_okA (hCg : ∀ w w', C w → Below w.heap.size w w' → C w') (hs : Region.noSelect ops = true) (hQ : ∀ c a d v w, Q (.panic c) (a.put d v) w → Q (.panic c) a w)
    (hQ2 : ∀ c a d v w, Q (.panic c) a w → Q (.panic c) (a.put d v) w) (hΦ : ∀ v w w', Φ v w → Below w.heap.size w w' → Φ v w') {f : Nat} {of : Oper} (hof : ops[f]? = some of) (v : Value) :
    ∀ (p : List (Nat × Nat)) (listed : Array Bool) (a : Act) (w : World), C w → Region.okA md ops f p listed = true → Φ v w → wpPlanF P ops C Q Φ p a w → wpAnyT P md ops C Q (p.length - 1) listed (a.put of.dst v) w
  | [], _, _, _, _, hB, _, _ => by cases hB
  | (i, k) :: p, listed, a, w, hC, hB, hv, h => by
    obtain ⟨o, ho, h⟩ := h
    unfold Region.okA at hB
    have ap : Region.apartB ops i f = true → o.apart ops of = true := fun h => by
      unfold Region.apartB at h; rw [ho, hof] at h; exact h
    by_cases h1 : k = 1
    · rw [if_pos h1] at hB h
      obtain ⟨u, hy, hK⟩ := h
      simp only [Bool.and_eq_true] at hB
      obtain ⟨⟨⟨ha, hr⟩, hf⟩, hB'⟩ := hB
      obtain ⟨a1, a2, a3⟩ := Oper.apart_spec (ap ha)
      have hp := okA_pos hB'
      rw [show ((i, k) :: p).length - 1 = (p.length - 1) + 1 by simp; omega]
      refine wpAnyT_first hCg ho (Region.noSelect_spec hs) hQ (p.length - 1) listed _ w (Region.free_spec ho hf) (by simpa using hr)
        (hy.of_same (execOp_put o (fun cs b => Region.noSelect_spec hs i o cs b ho) a of.dst v a3) (wanted_put o a of.dst v a3)) hC fun w' hw' => ?_
      rw [Act.put_comm a v u (fun d hd hi => a2 d hi hd)]
      exact wpAnyT_okA hCg hs hQ hQ2 hΦ hof v p _ _ w' (hCg _ _ hC hw') hB' (hΦ _ _ _ hv hw') (hK w' hw')
    · rw [if_neg h1] at hB h
      by_cases h0 : k = 0
      · rw [if_pos h0] at hB h
        simp only [Bool.and_eq_true, beq_iff_eq] at hB
        obtain ⟨⟨ha, hr⟩, hB'⟩ := hB
        obtain ⟨a1, a2, a3⟩ := Oper.apart_spec (ap ha)
        have hp := okA_pos hB'
        rw [show ((i, k) :: p).length - 1 = (p.length - 1) + 1 by simp; omega]
        refine ⟨fun h => (by rw [hr] at h; cases h), fun j hj => ?_⟩
        rw [hr] at hj
        obtain rfl := List.mem_singleton.1 hj
        unfold wpOp
        rw [ho]
        show if Region.wanted o (yielded ops (a.put of.dst v).tmps) = true then _ else _
        rw [wanted_put o a of.dst v a3]
        have h2' : ∀ d, of.dst = some d → o.dst ≠ some d := fun d hd hi => a2 d hi hd
        split
        · rename_i hw
          rw [if_pos hw] at h
          refine .inl (Oper.wp_mono ?_ (wp_putInto a3 h2' (fun cs b => Region.noSelect_spec hs j o cs b ho) hQ2 h))
          rintro a' w' ⟨a1', rfl, ⟨hC', hb⟩, hK⟩
          exact ⟨hC', fun w'' hw'' => wpAnyT_okA hCg hs hQ hQ2 hΦ hof v p _ a1' w'' (hCg _ _ hC' hw'') hB' (hΦ _ _ _ hv (hb.trans (hw''.mono hb.size))) (hK w'' hw'')⟩
        · rename_i hw
          rw [if_neg hw] at h
          rw [Act.put_comm a v undef h2']
          exact ⟨hC, fun w'' hw'' => wpAnyT_okA hCg hs hQ hQ2 hΦ hof v p _ _ w'' (hCg _ _ hC hw'') hB' (hΦ _ _ _ hv hw'') (h w'' hw'')⟩
      · rw [if_neg h0] at hB h
        by_cases h3 : k = 3
        · rw [if_pos h3] at hB; cases hB
        rw [if_neg h3] at hB h
        simp only [Bool.and_eq_true, beq_iff_eq] at hB
        obtain ⟨rfl, hB'⟩ := hB
        obtain rfl := Option.some.inj (hof.symm.trans ho)
        exact wpAnyT_ok0 hCg hs hQ p _ _ w hC hB' (h v w (Below.refl _ _) hv)

def wpPlanFA (P : Program) (ops : Array Oper) (C : World → Prop) (Q : Exit → Act → World → Prop) (Φ : Value → World → Prop) (p : List (Nat × Nat)) (a : Act) (W0 : World) : Prop :=
  ∀ w'', Below W0.heap.size W0 w'' → wpPlanF P ops C Q Φ p a w''

theorem wpAnyT_okB (hCg : ∀ w w', C w → Below w.heap.size w w' → C w') (hs : Region.noSelect ops = true) (hQ : ∀ c a d v w, Q (.panic c) (a.put d v) w → Q (.panic c) a w)
    (hQ2 : ∀ c a d v w, Q (.panic c) a w → Q (.panic c) (a.put d v) w) (hΦ : ∀ v w w', Φ v w → Below w.heap.size w w' → Φ v w') {f : Nat} {of : Oper} (hof : ops[f]? = some of)
    (hF : ∀ a w, C w → Region.wanted of (yielded ops a.tmps) = true ∧ of.wp P a w (fun a' w' => ∃ v, a' = a.put of.dst v ∧ Φ v w' ∧ Below w.heap.size w w') Q) :
    ∀ (p : List (Nat × Nat)) (listed : Array Bool) (a : Act) (w : World), C w → Region.okB md ops f p listed = true → wpPlanFA P ops C Q Φ p a w → wpAnyT P md ops C Q p.length listed a w
  | [], _, _, _, _, hB, _ => by cases hB
  | (i, k) :: p, listed, a, w, hC, hB, hA => by
    obtain ⟨o, ho, h⟩ := hA w (Below.refl _ _)
    have hA0 := hA
    unfold Region.okB at hB
    by_cases h1 : k = 1
    · rw [if_pos h1] at hB h
      obtain ⟨u, hy, hK⟩ := h
      simp only [Bool.and_eq_true] at hB
      obtain ⟨⟨hr, hf⟩, hB'⟩ := hB
      refine wpAnyT_first hCg ho (Region.noSelect_spec hs) hQ p.length listed _ w (Region.free_spec ho hf) (by simpa using hr) hy hC fun w' hw' => ?_
      exact wpAnyT_okB hCg hs hQ hQ2 hΦ hof hF p _ _ w' (hCg _ _ hC hw') hB' (fun w2 hw2 => hK w2 (hw'.trans (hw2.mono hw'.size)))
    · rw [if_neg h1] at hB h
      by_cases h0 : k = 0
      · subst h0
        rw [if_pos rfl] at hB h
        simp only [Bool.and_eq_true] at hB
        obtain ⟨⟨⟨hr, hall⟩, hBA⟩, hB'⟩ := hB
        refine ⟨fun h => (by rw [h] at hr; simp at hr), fun j hj => ?_⟩
        have hj2 := List.all_eq_true.1 hall j hj
        simp only [Bool.or_eq_true, beq_iff_eq] at hj2
        rcases hj2 with rfl | rfl
        · unfold wpOp
          rw [ho]
          show if Region.wanted o (yielded ops a.tmps) = true then _ else _
          split
          · rename_i hw
            rw [if_pos hw] at h
            exact .inl (Oper.wp_mono (fun a' w' h' => ⟨h'.1.1, fun w'' hw'' => wpAnyT_okB hCg hs hQ hQ2 hΦ hof hF p _ a' w'' (hCg _ _ h'.1.1 hw'') hB' (fun w2 hw2 => h'.2 w2 (hw''.trans (hw2.mono hw''.size)))⟩) h)
          · rename_i hw
            rw [if_neg hw] at h
            exact ⟨hC, fun w'' hw'' => wpAnyT_okB hCg hs hQ hQ2 hΦ hof hF p _ _ w'' (hCg _ _ hC hw'') hB' (fun w2 hw2 => h w2 (hw''.trans (hw2.mono hw''.size)))⟩
        · obtain ⟨hwt, hwp⟩ := hF a w hC
          unfold wpOp
          rw [hof]
          show if Region.wanted of (yielded ops a.tmps) = true then _ else _
          rw [if_pos hwt]
          refine .inl (Oper.wp_mono ?_ hwp)
          rintro a' w' ⟨v, rfl, hv, hb⟩
          refine ⟨hCg _ _ hC hb, fun w'' hw'' => ?_⟩
          have hbb := hb.trans (hw''.mono hb.size)
          exact wpAnyT_okA hCg hs hQ hQ2 hΦ hof v ((i, 0) :: p) _ a w'' (hCg _ _ hC hbb) hBA (hΦ _ _ _ hv hw'') (hA0 w'' hbb)
      · rw [if_neg h0] at hB h
        by_cases h3 : k = 3
        · rw [if_pos h3] at hB; cases hB
        rw [if_neg h3] at hB h
        simp only [Bool.and_eq_true, beq_iff_eq] at hB
        obtain ⟨⟨rfl, hr⟩, hB'⟩ := hB
        obtain rfl := Option.some.inj (hof.symm.trans ho)
        refine ⟨fun h => (by rw [hr] at h; cases h), fun j hj => ?_⟩
        rw [hr] at hj
        obtain rfl := List.mem_singleton.1 hj
        obtain ⟨hwt, hwp⟩ := hF a w hC
        unfold wpOp
        rw [hof]
        show if Region.wanted of (yielded ops a.tmps) = true then _ else _
        rw [if_pos hwt]
        refine .inl (Oper.wp_mono ?_ hwp)
        rintro a' w' ⟨v, rfl, hv, hb⟩
        refine ⟨hCg _ _ hC hb, fun w'' hw'' => ?_⟩
        have hbb := hb.trans (hw''.mono hb.size)
        exact wpAnyT_ok0 hCg hs hQ p _ _ w'' (hCg _ _ hC hbb) hB' (h v w'' hbb (hΦ _ _ _ hv hw''))

theorem wp_region_planF {id : Nat} {a : Act} {W : World} (p : List (Nat × Nat)) (f B : Nat) (of : Oper) (hof : ops[f]? = some of) (hm : P.follows .mixedOrders = true)
    (hB : (p.length == ops.size && Region.noSelect ops && Region.okB .any ops f p (Array.replicate ops.size false)) = true) (hBW : B ≤ W.heap.size)
    (hQ : ∀ c a d v w, Q (.panic c) (a.put d v) w → Q (.panic c) a w) (hQ2 : ∀ c a d v w, Q (.panic c) a w → Q (.panic c) (a.put d v) w)
    (hΦ : ∀ v w w', Φ v w → Below w.heap.size w w' → Φ v w')
    (hF : ∀ a w, Below B W w → Region.wanted of (yielded ops a.tmps) = true ∧ of.wp P a w (fun a' w' => ∃ v, a' = a.put of.dst v ∧ Φ v w' ∧ Below w.heap.size w w') Q)
    (h : wpPlanFA P ops (Below B W) Q Φ p a W) : (Code.region id ops true).wp P Q a W := by
  simp only [Bool.and_eq_true, beq_iff_eq] at hB
  obtain ⟨⟨hlen, hs⟩, hP⟩ := hB
  have hCg : ∀ w w', Below B W w → Below w.heap.size w w' → Below B W w' := fun w w' h1 h2 => h1.trans (h2.mono (Nat.le_trans hBW h1.size))
  refine wp_region_any hm (wpAny_of_T (C := Below B W) _ _ _ _ ?_)
  have := wpAnyT_okB (P := P) (Q := Q) (C := Below B W) (md := .any) (ops := ops) (Φ := Φ) hCg hs hQ hQ2 hΦ hof hF p (Array.replicate ops.size false) a { W with drawn := W.drawn + 1 } ((Below.refl B W).drew) hP
    (fun w2 hw2 => h w2 (((Below.refl _ W).drew).trans (hw2.mono (Nat.le_refl _))))
  rw [hlen] at this
  exact this
theorem wpPlanFA_skip {l : List Oper} {i : Nat} {p : List (Nat × Nat)} {a : Act} {W0 : World} (o : Oper) (ho : l[i]? = some o) (hw : Region.wanted o (yielded l.toArray a.tmps) = false)
    (h : wpPlanFA P l.toArray C Q Φ p (a.put o.dst undef) W0) : wpPlanFA P l.toArray C Q Φ ((i, 1) :: p) a W0 :=
  fun w hg => ⟨o, by rw [List.getElem?_toArray]; exact ho, by rw [if_pos rfl]; exact ⟨undef, .inr ⟨hw, rfl⟩, fun w2 hg2 => h w2 (hg.trans (hg2.mono hg.size))⟩⟩
theorem wpPlanFA_soft {l : List Oper} {B i : Nat} {W W0 : World} {p : List (Nat × Nat)} {a : Act} (o : Oper) (v : Value) (ho : l[i]? = some o) (hw : Region.wanted o (yielded l.toArray a.tmps) = true)
    (hv : ∀ w, Below B W w → (∀ b o, b < B → w.cell? ⟨b, o, none⟩ = W.cell? ⟨b, o, none⟩) → o.softAt P a w v)
    (h : wpPlanFA P l.toArray (Below B W) Q Φ p (a.put o.dst v) W0) : wpPlanFA P l.toArray (Below B W) Q Φ ((i, 1) :: p) a W0 :=
  fun w hg => ⟨o, by rw [List.getElem?_toArray]; exact ho, by
    rw [if_pos rfl]
    exact ⟨v, .inl ⟨hw, fun w hb => hv w hb (fun b o h => hb.cell (p := ⟨b, o, none⟩) h)⟩, fun w2 hg2 => h w2 (hg.trans (hg2.mono hg.size))⟩⟩
theorem wpPlanFA_hard {l : List Oper} {i : Nat} {p : List (Nat × Nat)} {a : Act} {W0 : World} (o : Oper) (ho : l[i]? = some o) (hw : Region.wanted o (yielded l.toArray a.tmps) = true)
    (h : ∀ w, Below W0.heap.size W0 w → ∀ K : Act → World → Prop, (∀ a w1, C w1 → Below w.heap.size w w1 → wpPlanFA P l.toArray C Q Φ p a w1 → K a w1) → o.wp P a w K Q) : wpPlanFA P l.toArray C Q Φ ((i, 0) :: p) a W0 :=
  fun w hg => ⟨o, by rw [List.getElem?_toArray]; exact ho, by
    rw [if_neg (by decide), if_pos rfl, if_pos hw]
    exact h w hg _ fun _ _ h1 h2 h3 => ⟨⟨h1, h2⟩, h3⟩⟩
theorem wpPlanFA_float {l : List Oper} {i : Nat} {p : List (Nat × Nat)} {a : Act} {W0 : World} (o : Oper) (ho : l[i]? = some o)
    (h : ∀ v w, Below W0.heap.size W0 w → Φ v w → wpPlanFA P l.toArray C Q Φ p (a.put o.dst v) w) : wpPlanFA P l.toArray C Q Φ ((i, 2) :: p) a W0 :=
  fun w hg => ⟨o, by rw [List.getElem?_toArray]; exact ho, by
    rw [if_neg (by decide), if_neg (by decide), if_neg (by decide)]
    exact fun v w2 hg2 hv => h v w2 (hg.trans (hg2.mono hg.size)) hv w2 (Below.refl _ _)⟩
theorem wpPlanFA_late {l : List Oper} {i : Nat} {p : List (Nat × Nat)} {a : Act} {W0 : World} (o : Oper) (ho : l[i]? = some o) (hw : Region.wanted o (yielded l.toArray a.tmps) = true)
    (h : ∀ w, Below W0.heap.size W0 w → ∀ K : Act → World → Prop, (∀ a w1, C w1 → wpPlanFA P l.toArray C Q Φ p a w1 → K a w1) → o.wp P a w K Q) : wpPlanFA P l.toArray C Q Φ ((i, 3) :: p) a W0 :=
  fun w hg => ⟨o, by rw [List.getElem?_toArray]; exact ho, by
    rw [if_neg (by decide), if_neg (by decide), if_pos rfl, if_pos hw]
    exact h w hg _ fun _ _ h1 h3 => ⟨h1, h3⟩⟩
theorem wpPlanFA_nil {a : Act} {W0 : World} (h : ∀ w, Below W0.heap.size W0 w → Q .normal a w) : wpPlanFA P ops C Q Φ [] a W0 := h
end
end Go
namespace Go.Proofs.YtndhjkammoeikaaGreatDoor
open Go.RowKit
set_option maxHeartbeats 4000000
set_option maxRecDepth 20000

/-- a new block of zeros -/
def Fresh (B : Nat) (zs : Array Value) (t : TypeId) (v : Value) (w : World) : Prop := ∃ g : Nat, v = .pointer (some ⟨g, 0, none⟩) ∧ B ≤ g ∧ w.heap[g]? = some (.cells zs t (0, 0))
theorem Fresh.below {B : Nat} {zs : Array Value} {t : TypeId} {v : Value} {w w' : World} (h : Fresh B zs t v w) (hb : Below w.heap.size w w') : Fresh B zs t v w' := by
  obtain ⟨g, h1, h2, h3⟩ := h
  exact ⟨g, h1, h2, blkb h3 hb⟩
theorem own_form {w : World} {base : Nat} {e : TypeId} {size : Nat} {v : Value} {n : Nat} {xs : List Value} (h : w.ownsRow base e size v n xs) :
    ∃ A C, v = .slice A n C ∧ RdS w size A n xs ∧ n ≤ C ∧ C ≤ 9223372036854775807 ∧ ∀ b off, A = some ⟨b, off, none⟩ → b < w.heap.size := by
  have h0 := Sl.of_own h
  obtain ⟨hx, ⟨rfl, hn⟩ | ⟨g, cap, cur, rfl, hg, hh, hn, hc, hs, ht⟩⟩ := h
  · obtain ⟨A, C, he, hr⟩ := h0
    cases he
    exact ⟨none, 0, rfl, hr, by omega, by omega, fun _ _ h => by cases h⟩
  · obtain ⟨A, C, he, hr⟩ := h0
    cases he
    unfold maxLen at hc
    exact ⟨_, _, rfl, hr, hn, by omega, fun b off h => by cases h; exact (Array.getElem?_eq_some_iff.1 hh).1⟩
/-- strings do not lie in a block of integers -/
theorem grown_strs {w w' : World} {g n : Nat} {A : Option Addr} {l : List ByteArray} {cs : Array Value} {t : TypeId} {f : Nat × Nat} (hg : w.grownBy w' (some g)) (hz : w.heap[g]? = some (.cells cs t f)) (hc : (cs.toList.all fun v => match v with | .int _ _ => true | _ => false) = true)
    (h : RdS w 1 A n (l.map Value.string)) (hn : n = l.length) : RdS w' 1 A n (l.map Value.string) := by
  refine ⟨h.1, fun h0 => ?_⟩
  obtain ⟨b, off, rfl, hb, hcell⟩ := h.2 h0
  have hne : b ≠ g := by
    rintro rfl
    obtain ⟨e, he⟩ : ∃ e, l[0]? = some e := ⟨_, List.getElem?_eq_getElem (by omega)⟩
    have h3 := hcell 0 (by rw [h.1]; omega)
    rw [List.getElem?_map, he] at h3
    have h4 : w.cell? ⟨b, off + 0, none⟩ = some (.string e) := h3
    unfold World.cell? at h4
    rw [hz] at h4
    simp only [] at h4
    have hm := Array.mem_of_getElem? h4
    have := List.all_eq_true.1 hc _ (Array.mem_toList_iff.2 hm)
    simp at this
  exact ⟨b, off, rfl, Nat.lt_of_lt_of_le hb hg.size, fun j hj => by
    rw [World.cell?_of_block (w := w) (hg.block b hb (by intro e; cases e; exact hne rfl))]
    exact hcell j hj⟩
/-- results do not lie in a block of integers -/
theorem grown_ress {w w' : World} {g n : Nat} {A : Option Addr} {l : List Res} {cs : Array Value} {t : TypeId} {f : Nat × Nat} (hg : w.grownBy w' (some g)) (hz : w.heap[g]? = some (.cells cs t f)) (hc : (cs.toList.all fun v => match v with | .int _ _ => true | _ => false) = true)
    (h : RdS w 3 A n (l.flatMap Res.enc)) (hn : n = l.length) : RdS w' 3 A n (l.flatMap Res.enc) := by
  refine ⟨h.1, fun h0 => ?_⟩
  obtain ⟨b, off, rfl, hb, hcell⟩ := h.2 h0
  have hne : b ≠ g := by
    rintro rfl
    obtain ⟨e, he⟩ : ∃ e, l[0]? = some e := ⟨_, List.getElem?_eq_getElem (by omega)⟩
    have h2 := flat_get Res.len l 0 0 e he (by decide)
    have h3 := hcell 0 (by rw [h.1]; omega)
    rw [show (0 * 3 + 0 : Nat) = 0 from rfl] at h2
    rw [h2] at h3
    have h4 : w.cell? ⟨b, off + 0, none⟩ = some (.string e.n) := h3
    unfold World.cell? at h4
    rw [hz] at h4
    simp only [] at h4
    have hm := Array.mem_of_getElem? h4
    have := List.all_eq_true.1 hc _ (Array.mem_toList_iff.2 hm)
    simp at this
  exact ⟨b, off, rfl, Nat.lt_of_lt_of_le hb hg.size, fun j hj => by
    rw [World.cell?_of_block (w := w) (hg.block b hb (by intro e; cases e; exact hne rfl))]
    exact hcell j hj⟩
theorem eq85d (a b : Nat → Int) (w : World) : (Op.equalIn 9999 85 (.agg (arr6 a)) (.agg (arr6 b))).run Tryz.prog w = .ok (eq6 a b) w := by
  have u3 := Tryz.underlying3
  have a3 := Tryz.isAgg3
  have z3 := Tryz.sizeOf3
  rw [arr6_eq, arr6_eq, show (9999 : Nat) = 9998 + 1 from rfl, Op.equalIn]
  simp only [Sem.run_bind, run_underlying Tryz.underlying85, Result.andThen_ok]
  simp only [Std.Legacy.Range.forIn_eq_forIn_range', Std.Legacy.Range.size, Nat.sub_zero, Nat.add_sub_cancel, Nat.div_one, List.range'_succ, List.range'_zero, List.forIn_cons, List.forIn_nil]
  go_simp
  unfold eq6
  by_cases h0 : a 0 = b 0 <;> simp [h0]
  by_cases h1 : a 1 = b 1 <;> simp [h1]
  by_cases h2 : a 2 = b 2 <;> simp [h2]
  by_cases h3 : a 3 = b 3 <;> simp [h3]
  by_cases h4 : a 4 = b 4 <;> simp [h4]
  by_cases h5 : a 5 = b 5 <;> simp [h5]
theorem eq87r (V : Inv) (w : World) : (Op.equalIn 10000 87 (.agg #[.int .i64 (V.c 0), .int .i64 (V.c 1), .int .i64 (V.c 2), .int .i64 (V.c 3), .int .i64 (V.c 4), .int .i64 (V.c 5), .int .i64 V.lines, .int .i64 V.total]) (.agg #[.int .i64 (V.c 0), .int .i64 (V.c 1), .int .i64 (V.c 2), .int .i64 (V.c 3), .int .i64 (V.c 4), .int .i64 (V.c 5), .int .i64 V.lines, .int .i64 V.total])).run Tryz.prog w = .ok true w := by
  have u3 := Tryz.underlying3
  have a3 := Tryz.isAgg3
  have z3 := Tryz.sizeOf3
  have u85 := Tryz.underlying85
  have a85 := Tryz.isAgg85
  have z85 := Tryz.sizeOf85
  have E := fun w => eq85d V.c V.c w
  rw [arr6_eq, show eq6 V.c V.c = true from (eq6_iff V.c V.c).2 (fun _ _ => rfl)] at E
  rw [show (10000 : Nat) = 9999 + 1 from rfl, run_equalIn_struct w 9999 87 _ _ (by unfold Program.fieldsOf; rw [Tryz.underlying87]) (by kernel_rfl)]
  unfold Program.fieldsOf
  rw [Tryz.underlying87]
  simp only [Op.eqFields]
  go_simp

theorem l11_ok (c : Con) (A : Option Addr) (cap : Nat) (l : List Ent) (G : Option Addr) (gcap : Nat) (rs : List Res) (w : World) (hl0 : l.length ≤ 9223372036854775807) (hg0 : rs.length ≤ 9223372036854775807) (H : RdL w 3 Ent.enc A l) (HG : RdL w 3 Res.enc G rs) (h3 : Mo.bill c l rs = 0) (h2 : Mo.results rs = 0) :
    Calls Tryz.prog 11 #[.agg #[.int .i64 (c.r 0), .int .i64 (c.r 1), .int .i64 (c.r 2), .int .i64 (c.r 3), .int .i64 (c.r 4), .int .i64 (c.r 5), .int .i64 c.free, .int .i64 c.bonus, .int .i64 c.pen], .slice A l.length cap, .slice G rs.length gcap] w fun en w' => en = .returned (.bool true) ∧ Below w.heap.size w w' := by
  obtain ⟨N, hN⟩ : ∃ N, N = l.length := ⟨_, rfl⟩
  obtain ⟨M, hM⟩ : ∃ M, M = rs.length := ⟨_, rfl⟩
  obtain ⟨V, hV⟩ : ∃ V, V = Mo.billV c l rs := ⟨_, rfl⟩
  obtain ⟨XA, hXA⟩ : ∃ X, X = (Mo.accP rs).1 := ⟨_, rfl⟩
  obtain ⟨XR, hXR⟩ : ∃ X, X = (Mo.accP rs).2 := ⟨_, rfl⟩
  obtain ⟨E2, hE2⟩ : ∃ E, E = Mo.results rs := ⟨_, rfl⟩
  obtain ⟨E3, hE3⟩ : ∃ E, E = Mo.bill c l rs := ⟨_, rfl⟩
  have h51 := fun w1 (H1 : RdS w1 3 A l.length (l.flatMap Ent.enc)) => c51w A cap l w1 hl0 H1
  have h64 := fun w1 (H1 : RdS w1 3 G rs.length (rs.flatMap Res.enc)) => c64w G gcap rs w1 hg0 H1
  have h63 := fun w1 (h : l.length ≤ 1000000) (H1 : RdS w1 3 A l.length (l.flatMap Ent.enc)) => c63 A cap l w1 h H1
  have h53 := fun w1 (h : l.length ≤ 1000000) (H1 : RdS w1 3 A l.length (l.flatMap Ent.enc)) => c53o A cap l w1 h H1
  have h67 := fun w1 (h : rs.length ≤ 1000000) (H1 : RdS w1 3 G rs.length (rs.flatMap Res.enc)) => c67o G gcap rs w1 h H1
  have h69 := fun w1 G (gcap : Nat) (h : rs.length ≤ 1000000) hc1 hc2 hs (H1 : RdS w1 3 G rs.length (rs.flatMap Res.enc)) => c69 G gcap rs w1 h hc1 hc2 hs H1
  have h66 := fun w1 A (cap : Nat) G (gcap : Nat) (h : l.length ≤ 1000000) (h' : rs.length ≤ 1000000) hc1 hc2 hs hs' (H1 : RdS w1 3 A l.length (l.flatMap Ent.enc)) (H2 : RdS w1 3 G rs.length (rs.flatMap Res.enc)) => c66 c A cap l G gcap rs w1 h h' hc1 hc2 hs hs' H1 H2
  have h68 := fun w1 A (cap : Nat) G (gcap : Nat) (h : l.length ≤ 1000000) (h' : rs.length ≤ 1000000) hc1 hc2 hs hs' (H1 : RdS w1 3 A l.length (l.flatMap Ent.enc)) (H2 : RdS w1 3 G rs.length (rs.flatMap Res.enc)) hnw => c68 c A cap l G gcap rs w1 h h' hc1 hc2 hs hs' H1 H2 hnw
  have h70 := fun w1 (h : rs.length ≤ 1000000) hs (H1 : RdS w1 3 G rs.length (rs.flatMap Res.enc)) => c70 G gcap rs w1 h hs H1
  have h65 := fun w1 (h : l.length ≤ 1000000) (h' : rs.length ≤ 1000000) hs hs' (H1 : RdS w1 3 A l.length (l.flatMap Ent.enc)) (H2 : RdS w1 3 G rs.length (rs.flatMap Res.enc)) => c65 c A cap l G gcap rs w1 h h' hs hs' H1 H2
  have h71 := fun w1 (h : rs.length ≤ 1000000) (H1 : RdS w1 3 G rs.length (rs.flatMap Res.enc)) => c71 G gcap rs w1 h H1
  have h72 := fun w1 (H1 : RdS w1 3 A l.length (l.flatMap Ent.enc)) (H2 : RdS w1 3 G rs.length (rs.flatMap Res.enc)) hE => c72 c A cap l G gcap rs w1 H1 H2 hE
  have h75 := fun w1 G (gcap : Nat) (h : rs.length ≤ 1000000) hc1 hc2 hs (H1 : RdS w1 3 G rs.length (rs.flatMap Res.enc)) => c75 G gcap rs w1 h hc1 hc2 hs H1
  have h73 := c73 c
  have h74 := c74 c
  obtain ⟨E1, hE1⟩ : ∃ E, E = Mo.con c := ⟨_, rfl⟩
  rw [← hE1] at h73 h74
  rw [← hV, ← hE3] at h66 h68
  rw [← hXA, ← hXR, ← hE2] at h69
  rw [← hE2] at h70 h75
  rw [← hE3] at h65
  unfold Inv.arr at h66 h68 h72
  have hx : XA.length ≤ 1000000 ∨ True := Or.inr trivial
  have hxl : rs.length ≤ 65 → XA.length ≤ 65 ∧ XR.length ≤ 65 := by
    intro h
    rw [hXA, hXR]
    unfold Mo.accP
    split
    · simp
    · have h1 : (Mo.acc rs).length ≤ rs.length := by unfold Mo.acc; rw [List.length_map]; exact List.length_filter_le _ _
      have h2 : (Mo.rej rs).length ≤ rs.length := by unfold Mo.rej; rw [List.length_map]; exact List.length_filter_le _ _
      simp only []
      omega
  have hacc : Mo.acc rs = XA := by rw [hXA]; unfold Mo.accP; rw [if_neg (by rw [h2]; simp)]
  have hrej : Mo.rej rs = XR := by rw [hXR]; unfold Mo.accP; rw [if_neg (by rw [h2]; simp)]
  rw [hacc, hrej] at h71
  rw [h2] at hE2
  subst hE2
  clear hacc hrej
  have hbv : Mo.billI c l rs = V := by rw [hV]; unfold Mo.billV; rw [if_neg (by rw [h3]; simp)]
  rw [hbv] at h72
  have HH3 := Lib.hid h3
  rw [h3] at hE3
  subst hE3
  have E87 := eq87r V
  clear hbv
  replace H : RdS w 3 A l.length (l.flatMap Ent.enc) := H
  replace HG : RdS w 3 G rs.length (rs.flatMap Res.enc) := HG
  rw [← hN] at H h51 h63 h53 h66 h68 h65 h72 ⊢
  rw [← hM] at HG h64 h67 h69 h66 h68 h70 h65 h75 h71 h72 hxl ⊢
  have HXL := Lib.hid hxl
  have HN := Lib.hid hN
  have HM0 := Lib.hid hM
  clear hx hxl hN hM hV hXA hXR hl0 hg0 h3 hE1
  have H51 := Lib.hid h51
  have H64 := Lib.hid h64
  have H63 := Lib.hid h63
  have H53 := Lib.hid h53
  have H67 := Lib.hid h67
  have H69 := Lib.hid h69
  have H66 := Lib.hid h66
  have H68 := Lib.hid h68
  have H70 := Lib.hid h70
  have H65 := Lib.hid h65
  have H75 := Lib.hid h75
  have H73 := Lib.hid h73
  have H74 := Lib.hid h74
  have H71 := Lib.hid h71
  have H72 := Lib.hid h72
  clear h51 h64 h63 h53 h67 h69 h66 h68 h70 h65 h75 h73 h74 h71 h72
  go_enter Tryz.func11, Tryz.ntmps11
  obtain ⟨w0, hW⟩ : ∃ W, W = w.alloc (Obj.cells #[.int .i64 (c.r 0), .int .i64 (c.r 1), .int .i64 (c.r 2), .int .i64 (c.r 3), .int .i64 (c.r 4), .int .i64 (c.r 5), .int .i64 c.free, .int .i64 c.bonus, .int .i64 c.pen] 122) := ⟨_, rfl⟩
  have hT0 : w0.heap[w.heap.size]? = some (.cells #[.int .i64 (c.r 0), .int .i64 (c.r 1), .int .i64 (c.r 2), .int .i64 (c.r 3), .int .i64 (c.r 4), .int .i64 (c.r 5), .int .i64 c.free, .int .i64 c.bonus, .int .i64 c.pen] 122 (0, 0)) := by rw [hW]; exact heap_new (by simp)
  have hB0 : Below w.heap.size w w0 := by rw [hW]; exact ((Below.refl _ _).alloc (by first | omega | (simp <;> omega)) _)
  replace H := H.below hB0
  replace HG := HG.below hB0
  go_wp2_with fail
  rw [← hW]
  clear hW
  have qhT0_0 : w0.cell? ⟨w.heap.size, 0, none⟩ = some (.int .i64 (c.r 0)) := cell_at hT0 rfl
  have qhT0_1 : w0.cell? ⟨w.heap.size, 1, none⟩ = some (.int .i64 (c.r 1)) := cell_at hT0 rfl
  have qhT0_2 : w0.cell? ⟨w.heap.size, 2, none⟩ = some (.int .i64 (c.r 2)) := cell_at hT0 rfl
  have qhT0_3 : w0.cell? ⟨w.heap.size, 3, none⟩ = some (.int .i64 (c.r 3)) := cell_at hT0 rfl
  have qhT0_4 : w0.cell? ⟨w.heap.size, 4, none⟩ = some (.int .i64 (c.r 4)) := cell_at hT0 rfl
  have qhT0_5 : w0.cell? ⟨w.heap.size, 5, none⟩ = some (.int .i64 (c.r 5)) := cell_at hT0 rfl
  have qhT0_6 : w0.cell? ⟨w.heap.size, 6, none⟩ = some (.int .i64 c.free) := cell_at hT0 rfl
  have qhT0_7 : w0.cell? ⟨w.heap.size, 7, none⟩ = some (.int .i64 c.bonus) := cell_at hT0 rfl
  have qhT0_8 : w0.cell? ⟨w.heap.size, 8, none⟩ = some (.int .i64 c.pen) := cell_at hT0 rfl
  go_wp2_with fail
  refine (H51.out _ H).mono ?_
  rintro e w' ⟨⟨b, rfl, hb1⟩, rfl⟩
  clear H51
  cases b
  case false =>
    go_wp2_with fail
    refine (c15 _).mono ?_
    rintro e wz ⟨rfl, hz⟩
    go_wp2
    go_ret
    exact ⟨rfl, hB0.call hz rfl⟩
  obtain ⟨hl, hs⟩ := hb1 rfl
  clear hb1
  have HSZ : Hid (∀ e ∈ l, e.c.size ≤ 1000000) := Lib.hid (fun e he => by have := hs e he; omega)
  clear hs
  have HL : Hid (N ≤ 1000000) := Lib.hid (by omega)
  clear hl
  go_wp2_with fail
  refine (H63.out _ HL.out H).mono ?_
  rintro e w1 ⟨⟨b, rfl, hb2⟩, hb⟩
  clear qhT0_0 qhT0_1 qhT0_2 qhT0_3 qhT0_4 qhT0_5 qhT0_6 qhT0_7 qhT0_8
  have hS := hb
  have hB1 := hB0.call hS rfl
  replace hT0 := blkb hT0 hS
  replace H := H.below hS
  replace HG := HG.below hS
  clear hS hB0
  have qhT0_0 : w1.cell? ⟨w.heap.size, 0, none⟩ = some (.int .i64 (c.r 0)) := cell_at hT0 rfl
  have qhT0_1 : w1.cell? ⟨w.heap.size, 1, none⟩ = some (.int .i64 (c.r 1)) := cell_at hT0 rfl
  have qhT0_2 : w1.cell? ⟨w.heap.size, 2, none⟩ = some (.int .i64 (c.r 2)) := cell_at hT0 rfl
  have qhT0_3 : w1.cell? ⟨w.heap.size, 3, none⟩ = some (.int .i64 (c.r 3)) := cell_at hT0 rfl
  have qhT0_4 : w1.cell? ⟨w.heap.size, 4, none⟩ = some (.int .i64 (c.r 4)) := cell_at hT0 rfl
  have qhT0_5 : w1.cell? ⟨w.heap.size, 5, none⟩ = some (.int .i64 (c.r 5)) := cell_at hT0 rfl
  have qhT0_6 : w1.cell? ⟨w.heap.size, 6, none⟩ = some (.int .i64 c.free) := cell_at hT0 rfl
  have qhT0_7 : w1.cell? ⟨w.heap.size, 7, none⟩ = some (.int .i64 c.bonus) := cell_at hT0 rfl
  have qhT0_8 : w1.cell? ⟨w.heap.size, 8, none⟩ = some (.int .i64 c.pen) := cell_at hT0 rfl
  clear hb
  clear hb2
  cases b
  case false =>
    go_wp2_with fail
    refine (c15 _).mono ?_
    rintro e wz ⟨rfl, hz⟩
    go_wp2
    go_ret
    exact ⟨rfl, hB1.call hz rfl⟩
  go_wp2_with fail
  refine (H64.out _ HG).mono ?_
  rintro e w' ⟨⟨b, rfl, hb1⟩, rfl⟩
  clear H64 H63
  cases b
  case false =>
    go_wp2_with fail
    refine (c15 _).mono ?_
    rintro e wz ⟨rfl, hz⟩
    go_wp2
    go_ret
    exact ⟨rfl, hB1.call hz rfl⟩
  obtain ⟨hm, hs⟩ := hb1 rfl
  clear hb1
  have HRZ : Hid (∀ x ∈ rs, x.n.size ≤ 1000000) := Lib.hid (fun e he => by have := hs e he; omega)
  clear hs
  have HM : Hid (M ≤ 1000000) := Lib.hid (by omega)
  obtain ⟨hxa, hxr⟩ := HXL.out hm
  have HXA : Hid (XA.length ≤ 1000000) := Lib.hid (by omega)
  have HXR : Hid (XR.length ≤ 1000000) := Lib.hid (by omega)
  clear hxa hxr
  clear hm HXL
  go_wp2_with fail
  refine (H67.out _ HM.out HG).mono ?_
  rintro e w2 ⟨x, rfl, ho, hb⟩
  clear qhT0_0 qhT0_1 qhT0_2 qhT0_3 qhT0_4 qhT0_5 qhT0_6 qhT0_7 qhT0_8
  have hS := hb
  have hB2 := hB1.call hS rfl
  replace hT0 := blkb hT0 hS
  replace H := H.below hS
  replace HG := HG.below hS
  clear hS hB1
  have qhT0_0 : w2.cell? ⟨w.heap.size, 0, none⟩ = some (.int .i64 (c.r 0)) := cell_at hT0 rfl
  have qhT0_1 : w2.cell? ⟨w.heap.size, 1, none⟩ = some (.int .i64 (c.r 1)) := cell_at hT0 rfl
  have qhT0_2 : w2.cell? ⟨w.heap.size, 2, none⟩ = some (.int .i64 (c.r 2)) := cell_at hT0 rfl
  have qhT0_3 : w2.cell? ⟨w.heap.size, 3, none⟩ = some (.int .i64 (c.r 3)) := cell_at hT0 rfl
  have qhT0_4 : w2.cell? ⟨w.heap.size, 4, none⟩ = some (.int .i64 (c.r 4)) := cell_at hT0 rfl
  have qhT0_5 : w2.cell? ⟨w.heap.size, 5, none⟩ = some (.int .i64 (c.r 5)) := cell_at hT0 rfl
  have qhT0_6 : w2.cell? ⟨w.heap.size, 6, none⟩ = some (.int .i64 c.free) := cell_at hT0 rfl
  have qhT0_7 : w2.cell? ⟨w.heap.size, 7, none⟩ = some (.int .i64 c.bonus) := cell_at hT0 rfl
  have qhT0_8 : w2.cell? ⟨w.heap.size, 8, none⟩ = some (.int .i64 c.pen) := cell_at hT0 rfl
  clear hb
  obtain ⟨AR, CR, rfl, hr, hr1, hr2, hr3⟩ := own_form ho
  have HR1 := Lib.hid hr1
  have HR2 := Lib.hid hr2
  clear ho hr1 hr2 hr3
  go_wp2_with fail
  refine (H69.out _ AR CR HM.out HR1.out HR2.out HRZ.out hr).mono ?_
  rintro e w3 ⟨_, _, rfl, ⟨A1, C1, rfl, h1⟩, ⟨A2, C2, rfl, h2⟩, hb⟩
  clear qhT0_0 qhT0_1 qhT0_2 qhT0_3 qhT0_4 qhT0_5 qhT0_6 qhT0_7 qhT0_8
  have hS := hb
  have hB3 := hB2.call hS rfl
  replace hT0 := blkb hT0 hS
  replace H := H.below hS
  replace HG := HG.below hS
  replace hr := hr.below hS
  clear hS hB2
  have qhT0_0 : w3.cell? ⟨w.heap.size, 0, none⟩ = some (.int .i64 (c.r 0)) := cell_at hT0 rfl
  have qhT0_1 : w3.cell? ⟨w.heap.size, 1, none⟩ = some (.int .i64 (c.r 1)) := cell_at hT0 rfl
  have qhT0_2 : w3.cell? ⟨w.heap.size, 2, none⟩ = some (.int .i64 (c.r 2)) := cell_at hT0 rfl
  have qhT0_3 : w3.cell? ⟨w.heap.size, 3, none⟩ = some (.int .i64 (c.r 3)) := cell_at hT0 rfl
  have qhT0_4 : w3.cell? ⟨w.heap.size, 4, none⟩ = some (.int .i64 (c.r 4)) := cell_at hT0 rfl
  have qhT0_5 : w3.cell? ⟨w.heap.size, 5, none⟩ = some (.int .i64 (c.r 5)) := cell_at hT0 rfl
  have qhT0_6 : w3.cell? ⟨w.heap.size, 6, none⟩ = some (.int .i64 c.free) := cell_at hT0 rfl
  have qhT0_7 : w3.cell? ⟨w.heap.size, 7, none⟩ = some (.int .i64 c.bonus) := cell_at hT0 rfl
  have qhT0_8 : w3.cell? ⟨w.heap.size, 8, none⟩ = some (.int .i64 c.pen) := cell_at hT0 rfl
  clear hb
  clear hr
  clear HR1 HR2
  go_wp2
  refine wp_region_planF (Φ := Fresh w3.heap.size #[.int .i64 0, .int .i64 0, .int .i64 0, .int .i64 0, .int .i64 0, .int .i64 0, .int .i64 0, .int .i64 0] 91) [(0, 1), (1, 1), (3, 1), (2, 0), (4, 0), (5, 0), (6, 1), (7, 1), (8, 1), (9, 2), (10, 3), (11, 1)] 9 w3.heap.size _ rfl (by kernel_rfl) (by kernel_rfl) (Nat.le_refl _) (fun _ _ d _ _ h => by cases d <;> exact h) (fun _ _ d _ _ h => by cases d <;> exact h) (fun v w w' hv hb => hv.below hb) ?hF ?_
  case hF =>
    intro a wq hq
    refine ⟨rfl, ?_⟩
    have hsz := hq.size
    go_simp
    exact ⟨_, rfl, ⟨_, rfl, hsz, heap_new rfl⟩, (Below.refl _ _).alloc (Nat.le_refl _) _⟩
  have hC : Below w3.heap.size w3 w3 := Below.refl _ _
  have hBr := hB3
  have zhT0 : w.heap.size < w3.heap.size := (Array.getElem?_eq_some_iff.1 hT0).1
  have hT00 := hT0
  have H0 := H
  have HG0 := HG
  have h10 := h1
  have h20 := h2
  repeat (first | (refine wpPlanFA_skip _ rfl (by rfl) ?_; simp only [Act.put, List.setIfInBounds_toArray, List.set_cons_zero, List.set_cons_succ]) | (refine wpPlanFA_soft _ ?_ rfl (by rfl) ?_ ?_; rotate_left; (intro wq hq hcq; go_simp; first | exact rfl | exact ⟨rfl, rfl⟩); simp only [Act.put, List.setIfInBounds_toArray, List.set_cons_zero, List.set_cons_succ]))
  refine wpPlanFA_hard _ rfl (by rfl) (fun w4 hS K hK => ?_)
  have hB4 := hB3.call hS rfl
  replace hC := hC.call hS rfl
  replace hT0 := blkb hT0 hS
  replace H := H.below hS
  replace HG := HG.below hS
  replace h1 := h1.below hS
  replace h2 := h2.below hS
  clear hS hB3
  go_simp
  refine (H53.out _ HL.out H).mono ?_
  rintro e w5 ⟨x, rfl, ho, hb⟩
  have hB5 := hB4.call hb rfl
  replace hC := hC.call hb rfl
  replace hT0 := blkb hT0 hb
  replace H := H.below hb
  replace HG := HG.below hb
  replace h1 := h1.below hb
  replace h2 := h2.below hb
  obtain ⟨AE, CE, rfl, he, _, _, he3⟩ := own_form ho
  have HE3 := Lib.hid he3
  clear ho he3
  have hse : Below w5.heap.size w5 w5 := Below.refl _ _
  refine hK _ _ hC hb ?_
  clear hK K hb hB4
  try simp only [Act.put, List.setIfInBounds_toArray, List.set_cons_zero, List.set_cons_succ]
  refine wpPlanFA_hard _ rfl (by rfl) (fun w6 hS K hK => ?_)
  have hB6 := hB5.call hS rfl
  replace hC := hC.call hS rfl
  replace hT0 := blkb hT0 hS
  replace H := H.below hS
  replace HG := HG.below hS
  replace h1 := h1.below hS
  replace h2 := h2.below hS
  replace he := he.below hS
  replace hse := hse.call hS rfl
  clear hS hB5
  go_simp
  refine (H67.out _ HM.out HG).mono ?_
  rintro e w7 ⟨x, rfl, ho, hb⟩
  have hB7 := hB6.call hb rfl
  replace hC := hC.call hb rfl
  replace hT0 := blkb hT0 hb
  replace H := H.below hb
  replace HG := HG.below hb
  replace h1 := h1.below hb
  replace h2 := h2.below hb
  replace he := he.below hb
  replace hse := hse.call hb rfl
  obtain ⟨AR, CR, rfl, hr, hr1, hr2, hr3⟩ := own_form ho
  have HR1 := Lib.hid hr1
  have HR2 := Lib.hid hr2
  clear ho hr1 hr2 hr3
  refine hK _ _ hC hb ?_
  clear hK K hb hB6
  try simp only [Act.put, List.setIfInBounds_toArray, List.set_cons_zero, List.set_cons_succ]
  refine wpPlanFA_hard _ rfl (by rfl) (fun w8 hS K hK => ?_)
  have hB8 := hB7.call hS rfl
  replace hC := hC.call hS rfl
  replace hT0 := blkb hT0 hS
  replace H := H.below hS
  replace HG := HG.below hS
  replace h1 := h1.below hS
  replace h2 := h2.below hS
  replace he := he.below hS
  replace hse := hse.call hS rfl
  replace hr := hr.below hS
  clear hS hB7
  go_simp
  refine (H66.out _ AE CE AR CR HL.out HM.out HR1.out HR2.out HSZ.out HRZ.out he hr).mono ?_
  rintro e w9 ⟨rfl, hb⟩
  have hB9 := hB8.call hb rfl
  replace hC := hC.call hb rfl
  replace hT0 := blkb hT0 hb
  replace H := H.below hb
  replace HG := HG.below hb
  replace h1 := h1.below hb
  replace h2 := h2.below hb
  replace he := he.below hb
  replace hse := hse.call hb rfl
  replace hr := hr.below hb
  refine hK _ _ hC hb ?_
  clear hK K hb hB8
  try simp only [Act.put, List.setIfInBounds_toArray, List.set_cons_zero, List.set_cons_succ]
  repeat (first | (refine wpPlanFA_skip _ rfl (by rfl) ?_; simp only [Act.put, List.setIfInBounds_toArray, List.set_cons_zero, List.set_cons_succ]) | (refine wpPlanFA_soft _ ?_ rfl (by rfl) ?_ ?_; rotate_left; (intro wq hq hcq; go_simp; first | exact rfl | exact ⟨rfl, rfl⟩); simp only [Act.put, List.setIfInBounds_toArray, List.set_cons_zero, List.set_cons_succ]))
  refine wpPlanFA_float _ rfl (fun v w10 hS hv => ?_)
  obtain ⟨bt10, rfl, hge, t10⟩ := hv
  have hB10 := hB9.call hS rfl
  replace hC := hC.call hS rfl
  replace hT0 := blkb hT0 hS
  replace H := H.below hS
  replace HG := HG.below hS
  replace h1 := h1.below hS
  replace h2 := h2.below hS
  replace he := he.below hS
  replace hse := hse.call hS rfl
  replace hr := hr.below hS
  clear hS hB9
  try simp only [Act.put, List.setIfInBounds_toArray, List.set_cons_zero, List.set_cons_succ]
  repeat (first | (refine wpPlanFA_skip _ rfl (by rfl) ?_; simp only [Act.put, List.setIfInBounds_toArray, List.set_cons_zero, List.set_cons_succ]) | (refine wpPlanFA_soft _ ?_ rfl (by rfl) ?_ ?_; rotate_left; (intro wq hq hcq; go_simp; first | exact rfl | exact ⟨rfl, rfl⟩); simp only [Act.put, List.setIfInBounds_toArray, List.set_cons_zero, List.set_cons_succ]))
  refine wpPlanFA_late _ rfl (by rfl) (fun w11 hS K hK => ?_)
  replace hC := hC.call hS rfl
  replace t10 := blkb t10 hS
  clear hS hB10 hT0 H HG h1 h2 he hse hr
  refine wp_store_blk 91 _ _ rfl bt10 _ rfl rfl t10 ?s1 ?s2 ?s3 ?_
  case s1 => rfl
  case s2 => kernel_rfl
  case s3 => simp [Value.oneCell']
  intro w12 t10n hg3 hs3
  replace hC : Below w3.heap.size w3 w12 := hC.grown hg3 hC.size (fun j hj => by cases hj; exact hge)
  refine hK _ _ hC ?_
  clear hK K t10 hg3 hs3
  have t10 := t10n
  clear t10n
  have hB12 := hBr.call hC rfl
  have hT0 := blkb hT00 hC
  have H := H0.below hC
  have HG := HG0.below hC
  have h1 := h10.below hC
  have h2 := h20.below hC
  try simp only [Act.put, List.setIfInBounds_toArray, List.set_cons_zero, List.set_cons_succ]
  repeat (first | (refine wpPlanFA_skip _ rfl (by rfl) ?_; simp only [Act.put, List.setIfInBounds_toArray, List.set_cons_zero, List.set_cons_succ]) | (refine wpPlanFA_soft _ ?_ rfl (by rfl) ?_ ?_; rotate_left; (intro wq hq hcq; go_simp; first | exact rfl | exact ⟨rfl, rfl⟩); simp only [Act.put, List.setIfInBounds_toArray, List.set_cons_zero, List.set_cons_succ]))
  clear qhT0_0 qhT0_1 qhT0_2 qhT0_3 qhT0_4 qhT0_5 qhT0_6 qhT0_7 qhT0_8
  refine wpPlanFA_nil (fun w13 hS => ?_)
  clear hC hge hBr zhT0 hT00 H0 HG0 h10 h20
  have hB13 := hB12.call hS rfl
  replace hT0 := blkb hT0 hS
  replace H := H.below hS
  replace HG := HG.below hS
  replace h1 := h1.below hS
  replace h2 := h2.below hS
  replace t10 := blkb t10 hS
  clear hS hB12
  have qhT0_0 : w13.cell? ⟨w.heap.size, 0, none⟩ = some (.int .i64 (c.r 0)) := cell_at hT0 rfl
  have qhT0_1 : w13.cell? ⟨w.heap.size, 1, none⟩ = some (.int .i64 (c.r 1)) := cell_at hT0 rfl
  have qhT0_2 : w13.cell? ⟨w.heap.size, 2, none⟩ = some (.int .i64 (c.r 2)) := cell_at hT0 rfl
  have qhT0_3 : w13.cell? ⟨w.heap.size, 3, none⟩ = some (.int .i64 (c.r 3)) := cell_at hT0 rfl
  have qhT0_4 : w13.cell? ⟨w.heap.size, 4, none⟩ = some (.int .i64 (c.r 4)) := cell_at hT0 rfl
  have qhT0_5 : w13.cell? ⟨w.heap.size, 5, none⟩ = some (.int .i64 (c.r 5)) := cell_at hT0 rfl
  have qhT0_6 : w13.cell? ⟨w.heap.size, 6, none⟩ = some (.int .i64 c.free) := cell_at hT0 rfl
  have qhT0_7 : w13.cell? ⟨w.heap.size, 7, none⟩ = some (.int .i64 c.bonus) := cell_at hT0 rfl
  have qhT0_8 : w13.cell? ⟨w.heap.size, 8, none⟩ = some (.int .i64 c.pen) := cell_at hT0 rfl
  clear HE3 HR1 HR2
  go_wp2
  refine wp_region_planF (Φ := Fresh w13.heap.size #[.int .i64 0, .int .i64 0, .int .i64 0, .int .i64 0, .int .i64 0, .int .i64 0, .int .i64 0, .int .i64 0] 91) [(0, 1), (1, 1), (3, 1), (2, 0), (4, 0), (5, 0), (6, 1), (7, 1), (8, 1), (9, 2), (10, 3), (11, 1)] 9 w13.heap.size _ rfl (by kernel_rfl) (by kernel_rfl) (Nat.le_refl _) (fun _ _ d _ _ h => by cases d <;> exact h) (fun _ _ d _ _ h => by cases d <;> exact h) (fun v w w' hv hb => hv.below hb) ?hF ?_
  case hF =>
    intro a wq hq
    refine ⟨rfl, ?_⟩
    have hsz := hq.size
    go_simp
    exact ⟨_, rfl, ⟨_, rfl, hsz, heap_new rfl⟩, (Below.refl _ _).alloc (Nat.le_refl _) _⟩
  have hC : Below w13.heap.size w13 w13 := Below.refl _ _
  have hBr := hB13
  have zhT0 : w.heap.size < w13.heap.size := (Array.getElem?_eq_some_iff.1 hT0).1
  have hT00 := hT0
  have H0 := H
  have HG0 := HG
  have h10 := h1
  have h20 := h2
  have t100 := t10
  repeat (first | (refine wpPlanFA_skip _ rfl (by rfl) ?_; simp only [Act.put, List.setIfInBounds_toArray, List.set_cons_zero, List.set_cons_succ]) | (refine wpPlanFA_soft _ ?_ rfl (by rfl) ?_ ?_; rotate_left; (intro wq hq hcq; go_simp; first | exact rfl | exact ⟨rfl, rfl⟩); simp only [Act.put, List.setIfInBounds_toArray, List.set_cons_zero, List.set_cons_succ]))
  refine wpPlanFA_hard _ rfl (by rfl) (fun w14 hS K hK => ?_)
  have hB14 := hB13.call hS rfl
  replace hC := hC.call hS rfl
  replace hT0 := blkb hT0 hS
  replace H := H.below hS
  replace HG := HG.below hS
  replace h1 := h1.below hS
  replace h2 := h2.below hS
  replace t10 := blkb t10 hS
  clear hS hB13
  go_simp
  refine (H53.out _ HL.out H).mono ?_
  rintro e w15 ⟨x, rfl, ho, hb⟩
  have hB15 := hB14.call hb rfl
  replace hC := hC.call hb rfl
  replace hT0 := blkb hT0 hb
  replace H := H.below hb
  replace HG := HG.below hb
  replace h1 := h1.below hb
  replace h2 := h2.below hb
  replace t10 := blkb t10 hb
  obtain ⟨AE, CE, rfl, he, _, _, he3⟩ := own_form ho
  have HE3 := Lib.hid he3
  clear ho he3
  have hse : Below w15.heap.size w15 w15 := Below.refl _ _
  refine hK _ _ hC hb ?_
  clear hK K hb hB14
  try simp only [Act.put, List.setIfInBounds_toArray, List.set_cons_zero, List.set_cons_succ]
  refine wpPlanFA_hard _ rfl (by rfl) (fun w16 hS K hK => ?_)
  have hB16 := hB15.call hS rfl
  replace hC := hC.call hS rfl
  replace hT0 := blkb hT0 hS
  replace H := H.below hS
  replace HG := HG.below hS
  replace h1 := h1.below hS
  replace h2 := h2.below hS
  replace t10 := blkb t10 hS
  replace he := he.below hS
  replace hse := hse.call hS rfl
  clear hS hB15
  go_simp
  refine (H67.out _ HM.out HG).mono ?_
  rintro e w17 ⟨x, rfl, ho, hb⟩
  have hB17 := hB16.call hb rfl
  replace hC := hC.call hb rfl
  replace hT0 := blkb hT0 hb
  replace H := H.below hb
  replace HG := HG.below hb
  replace h1 := h1.below hb
  replace h2 := h2.below hb
  replace t10 := blkb t10 hb
  replace he := he.below hb
  replace hse := hse.call hb rfl
  obtain ⟨AR, CR, rfl, hr, hr1, hr2, hr3⟩ := own_form ho
  have HR1 := Lib.hid hr1
  have HR2 := Lib.hid hr2
  clear ho hr1 hr2 hr3
  refine hK _ _ hC hb ?_
  clear hK K hb hB16
  try simp only [Act.put, List.setIfInBounds_toArray, List.set_cons_zero, List.set_cons_succ]
  refine wpPlanFA_hard _ rfl (by rfl) (fun w18 hS K hK => ?_)
  have hB18 := hB17.call hS rfl
  replace hC := hC.call hS rfl
  replace hT0 := blkb hT0 hS
  replace H := H.below hS
  replace HG := HG.below hS
  replace h1 := h1.below hS
  replace h2 := h2.below hS
  replace t10 := blkb t10 hS
  replace he := he.below hS
  replace hse := hse.call hS rfl
  replace hr := hr.below hS
  clear hS hB17
  go_simp
  refine (H68.out _ AE CE AR CR HL.out HM.out HR1.out HR2.out HSZ.out HRZ.out he hr (fun b off h => Nat.lt_of_lt_of_le (HE3.out b off h) hse.size)).mono ?_
  rintro e w19 ⟨rfl, hb⟩
  have hB19 := hB18.call hb rfl
  replace hC := hC.call hb rfl
  replace hT0 := blkb hT0 hb
  replace H := H.below hb
  replace HG := HG.below hb
  replace h1 := h1.below hb
  replace h2 := h2.below hb
  replace t10 := blkb t10 hb
  replace he := he.below hb
  replace hse := hse.call hb rfl
  replace hr := hr.below hb
  refine hK _ _ hC hb ?_
  clear hK K hb hB18
  try simp only [Act.put, List.setIfInBounds_toArray, List.set_cons_zero, List.set_cons_succ]
  repeat (first | (refine wpPlanFA_skip _ rfl (by rfl) ?_; simp only [Act.put, List.setIfInBounds_toArray, List.set_cons_zero, List.set_cons_succ]) | (refine wpPlanFA_soft _ ?_ rfl (by rfl) ?_ ?_; rotate_left; (intro wq hq hcq; go_simp; first | exact rfl | exact ⟨rfl, rfl⟩); simp only [Act.put, List.setIfInBounds_toArray, List.set_cons_zero, List.set_cons_succ]))
  refine wpPlanFA_float _ rfl (fun v w20 hS hv => ?_)
  obtain ⟨bt12, rfl, hge, t12⟩ := hv
  have hB20 := hB19.call hS rfl
  replace hC := hC.call hS rfl
  replace hT0 := blkb hT0 hS
  replace H := H.below hS
  replace HG := HG.below hS
  replace h1 := h1.below hS
  replace h2 := h2.below hS
  replace t10 := blkb t10 hS
  replace he := he.below hS
  replace hse := hse.call hS rfl
  replace hr := hr.below hS
  clear hS hB19
  try simp only [Act.put, List.setIfInBounds_toArray, List.set_cons_zero, List.set_cons_succ]
  repeat (first | (refine wpPlanFA_skip _ rfl (by rfl) ?_; simp only [Act.put, List.setIfInBounds_toArray, List.set_cons_zero, List.set_cons_succ]) | (refine wpPlanFA_soft _ ?_ rfl (by rfl) ?_ ?_; rotate_left; (intro wq hq hcq; go_simp; first | exact rfl | exact ⟨rfl, rfl⟩); simp only [Act.put, List.setIfInBounds_toArray, List.set_cons_zero, List.set_cons_succ]))
  refine wpPlanFA_late _ rfl (by rfl) (fun w21 hS K hK => ?_)
  replace hC := hC.call hS rfl
  replace t12 := blkb t12 hS
  clear hS hB20 hT0 H HG h1 h2 t10 he hse hr
  refine wp_store_blk 91 _ _ rfl bt12 _ rfl rfl t12 ?s1 ?s2 ?s3 ?_
  case s1 => rfl
  case s2 => kernel_rfl
  case s3 => simp [Value.oneCell']
  intro w22 t12n hg3 hs3
  replace hC : Below w13.heap.size w13 w22 := hC.grown hg3 hC.size (fun j hj => by cases hj; exact hge)
  refine hK _ _ hC ?_
  clear hK K t12 hg3 hs3
  have t12 := t12n
  clear t12n
  have hB22 := hBr.call hC rfl
  have hT0 := blkb hT00 hC
  have H := H0.below hC
  have HG := HG0.below hC
  have h1 := h10.below hC
  have h2 := h20.below hC
  have t10 := blkb t100 hC
  try simp only [Act.put, List.setIfInBounds_toArray, List.set_cons_zero, List.set_cons_succ]
  repeat (first | (refine wpPlanFA_skip _ rfl (by rfl) ?_; simp only [Act.put, List.setIfInBounds_toArray, List.set_cons_zero, List.set_cons_succ]) | (refine wpPlanFA_soft _ ?_ rfl (by rfl) ?_ ?_; rotate_left; (intro wq hq hcq; go_simp; first | exact rfl | exact ⟨rfl, rfl⟩); simp only [Act.put, List.setIfInBounds_toArray, List.set_cons_zero, List.set_cons_succ]))
  clear qhT0_0 qhT0_1 qhT0_2 qhT0_3 qhT0_4 qhT0_5 qhT0_6 qhT0_7 qhT0_8
  refine wpPlanFA_nil (fun w23 hS => ?_)
  clear hC hge hBr zhT0 hT00 H0 HG0 h10 h20 t100
  have hB23 := hB22.call hS rfl
  replace hT0 := blkb hT0 hS
  replace H := H.below hS
  replace HG := HG.below hS
  replace h1 := h1.below hS
  replace h2 := h2.below hS
  replace t10 := blkb t10 hS
  replace t12 := blkb t12 hS
  clear hS hB22
  have qhT0_0 : w23.cell? ⟨w.heap.size, 0, none⟩ = some (.int .i64 (c.r 0)) := cell_at hT0 rfl
  have qhT0_1 : w23.cell? ⟨w.heap.size, 1, none⟩ = some (.int .i64 (c.r 1)) := cell_at hT0 rfl
  have qhT0_2 : w23.cell? ⟨w.heap.size, 2, none⟩ = some (.int .i64 (c.r 2)) := cell_at hT0 rfl
  have qhT0_3 : w23.cell? ⟨w.heap.size, 3, none⟩ = some (.int .i64 (c.r 3)) := cell_at hT0 rfl
  have qhT0_4 : w23.cell? ⟨w.heap.size, 4, none⟩ = some (.int .i64 (c.r 4)) := cell_at hT0 rfl
  have qhT0_5 : w23.cell? ⟨w.heap.size, 5, none⟩ = some (.int .i64 (c.r 5)) := cell_at hT0 rfl
  have qhT0_6 : w23.cell? ⟨w.heap.size, 6, none⟩ = some (.int .i64 c.free) := cell_at hT0 rfl
  have qhT0_7 : w23.cell? ⟨w.heap.size, 7, none⟩ = some (.int .i64 c.bonus) := cell_at hT0 rfl
  have qhT0_8 : w23.cell? ⟨w.heap.size, 8, none⟩ = some (.int .i64 c.pen) := cell_at hT0 rfl
  clear HE3 HR1 HR2
  go_wp2
  refine wp_region_plan [(0, true), (2, true), (3, true), (4, true), (1, false), (5, false), (6, true), (7, true)] w23.heap.size (by kernel_rfl) (by kernel_rfl) (Nat.le_refl _) (fun _ _ d _ _ h => by cases d <;> exact h) ?_
  have hC : Below w23.heap.size w23 w23 := Below.refl _ _
  have zhT0 : w.heap.size < w23.heap.size := (Array.getElem?_eq_some_iff.1 hT0).1
  repeat (first | (refine wpPlanA_skip _ rfl (by rfl) ?_; simp only [Act.put, List.setIfInBounds_toArray, List.set_cons_zero, List.set_cons_succ]) | (refine wpPlanA_soft _ ?_ rfl (by rfl) ?_ ?_; rotate_left; (intro wq hq hcq; go_simp; first | exact rfl | exact ⟨rfl, rfl⟩); simp only [Act.put, List.setIfInBounds_toArray, List.set_cons_zero, List.set_cons_succ]))
  refine wpPlanA_hard _ rfl (by rfl) (fun w24 hS K hK => ?_)
  have hB24 := hB23.call hS rfl
  replace hC := hC.call hS rfl
  replace hT0 := blkb hT0 hS
  replace H := H.below hS
  replace HG := HG.below hS
  replace h1 := h1.below hS
  replace h2 := h2.below hS
  replace t10 := blkb t10 hS
  replace t12 := blkb t12 hS
  clear hS hB23
  go_simp
  refine (H70.out _ HM.out HRZ.out HG).mono ?_
  rintro e w25 ⟨rfl, hb⟩
  have hB25 := hB24.call hb rfl
  replace hC := hC.call hb rfl
  replace hT0 := blkb hT0 hb
  replace H := H.below hb
  replace HG := HG.below hb
  replace h1 := h1.below hb
  replace h2 := h2.below hb
  replace t10 := blkb t10 hb
  replace t12 := blkb t12 hb
  clear hb hB24
  refine hK _ _ hC ?_
  clear hK K
  try simp only [Act.put, List.setIfInBounds_toArray, List.set_cons_zero, List.set_cons_succ]
  refine wpPlanA_hard _ rfl (by rfl) (fun w26 hS K hK => ?_)
  have hB26 := hB25.call hS rfl
  replace hC := hC.call hS rfl
  replace hT0 := blkb hT0 hS
  replace H := H.below hS
  replace HG := HG.below hS
  replace h1 := h1.below hS
  replace h2 := h2.below hS
  replace t10 := blkb t10 hS
  replace t12 := blkb t12 hS
  clear hS hB25
  go_simp
  refine (H65.out _ HL.out HM.out HSZ.out HRZ.out H HG).mono ?_
  rintro e w27 ⟨rfl, hb⟩
  have hB27 := hB26.call hb rfl
  replace hC := hC.call hb rfl
  replace hT0 := blkb hT0 hb
  replace H := H.below hb
  replace HG := HG.below hb
  replace h1 := h1.below hb
  replace h2 := h2.below hb
  replace t10 := blkb t10 hb
  replace t12 := blkb t12 hb
  clear hb hB26
  refine hK _ _ hC ?_
  clear hK K
  try simp only [Act.put, List.setIfInBounds_toArray, List.set_cons_zero, List.set_cons_succ]
  repeat (first | (refine wpPlanA_skip _ rfl (by rfl) ?_; simp only [Act.put, List.setIfInBounds_toArray, List.set_cons_zero, List.set_cons_succ]) | (refine wpPlanA_soft _ ?_ rfl (by rfl) ?_ ?_; rotate_left; (intro wq hq hcq; go_simp; first | exact rfl | exact ⟨rfl, rfl⟩); simp only [Act.put, List.setIfInBounds_toArray, List.set_cons_zero, List.set_cons_succ]))
  clear qhT0_0 qhT0_1 qhT0_2 qhT0_3 qhT0_4 qhT0_5 qhT0_6 qhT0_7 qhT0_8
  refine wpPlanA_nil (fun w28 hS => ?_)
  clear hC zhT0
  have hB28 := hB27.call hS rfl
  replace hT0 := blkb hT0 hS
  replace H := H.below hS
  replace HG := HG.below hS
  replace h1 := h1.below hS
  replace h2 := h2.below hS
  replace t10 := blkb t10 hS
  replace t12 := blkb t12 hS
  clear hS hB27
  have qhT0_0 : w28.cell? ⟨w.heap.size, 0, none⟩ = some (.int .i64 (c.r 0)) := cell_at hT0 rfl
  have qhT0_1 : w28.cell? ⟨w.heap.size, 1, none⟩ = some (.int .i64 (c.r 1)) := cell_at hT0 rfl
  have qhT0_2 : w28.cell? ⟨w.heap.size, 2, none⟩ = some (.int .i64 (c.r 2)) := cell_at hT0 rfl
  have qhT0_3 : w28.cell? ⟨w.heap.size, 3, none⟩ = some (.int .i64 (c.r 3)) := cell_at hT0 rfl
  have qhT0_4 : w28.cell? ⟨w.heap.size, 4, none⟩ = some (.int .i64 (c.r 4)) := cell_at hT0 rfl
  have qhT0_5 : w28.cell? ⟨w.heap.size, 5, none⟩ = some (.int .i64 (c.r 5)) := cell_at hT0 rfl
  have qhT0_6 : w28.cell? ⟨w.heap.size, 6, none⟩ = some (.int .i64 c.free) := cell_at hT0 rfl
  have qhT0_7 : w28.cell? ⟨w.heap.size, 7, none⟩ = some (.int .i64 c.bonus) := cell_at hT0 rfl
  have qhT0_8 : w28.cell? ⟨w.heap.size, 8, none⟩ = some (.int .i64 c.pen) := cell_at hT0 rfl
  have lt10 := (Array.getElem?_eq_some_iff.1 t10).1
  have lt12 := (Array.getElem?_eq_some_iff.1 t12).1
  have ltT := (Array.getElem?_eq_some_iff.1 hT0).1
  have hw18 := hB28.size
  go_wp2_with fail
  refine (H71.out _ HM.out (RdS.al HG _)).mono ?_
  rintro e w29 ⟨_, _, rfl, ⟨A3, C3, rfl, h3⟩, ⟨A4, C4, rfl, h4⟩, hb⟩
  have t18 := blkb (heap_new (w := w28) (o := (Obj.cells #[.int .i64 0, .int .i64 0, .int .i64 0, .int .i64 0, .int .i64 0, .int .i64 0, .int .i64 0, .int .i64 0] 87)) rfl) hb
  clear qhT0_0 qhT0_1 qhT0_2 qhT0_3 qhT0_4 qhT0_5 qhT0_6 qhT0_7 qhT0_8
  have hS := ((Below.refl _ _).alloc (by first | exact Nat.le_refl _ | (simp <;> omega)) _).call hb rfl
  have hB29 := hB28.call hS rfl
  replace hT0 := blkb hT0 hS
  replace H := H.below hS
  replace HG := HG.below hS
  replace h1 := h1.below hS
  replace h2 := h2.below hS
  replace t10 := blkb t10 hS
  replace t12 := blkb t12 hS
  clear hS hB28
  have qhT0_0 : w29.cell? ⟨w.heap.size, 0, none⟩ = some (.int .i64 (c.r 0)) := cell_at hT0 rfl
  have qhT0_1 : w29.cell? ⟨w.heap.size, 1, none⟩ = some (.int .i64 (c.r 1)) := cell_at hT0 rfl
  have qhT0_2 : w29.cell? ⟨w.heap.size, 2, none⟩ = some (.int .i64 (c.r 2)) := cell_at hT0 rfl
  have qhT0_3 : w29.cell? ⟨w.heap.size, 3, none⟩ = some (.int .i64 (c.r 3)) := cell_at hT0 rfl
  have qhT0_4 : w29.cell? ⟨w.heap.size, 4, none⟩ = some (.int .i64 (c.r 4)) := cell_at hT0 rfl
  have qhT0_5 : w29.cell? ⟨w.heap.size, 5, none⟩ = some (.int .i64 (c.r 5)) := cell_at hT0 rfl
  have qhT0_6 : w29.cell? ⟨w.heap.size, 6, none⟩ = some (.int .i64 c.free) := cell_at hT0 rfl
  have qhT0_7 : w29.cell? ⟨w.heap.size, 7, none⟩ = some (.int .i64 c.bonus) := cell_at hT0 rfl
  have qhT0_8 : w29.cell? ⟨w.heap.size, 8, none⟩ = some (.int .i64 c.pen) := cell_at hT0 rfl
  clear hb
  obtain ⟨bt18, hbt18⟩ : ∃ b, b = w28.heap.size := ⟨_, rfl⟩
  rw [← hbt18] at t18 lt10 lt12 ltT hw18 ⊢
  clear hbt18
  go_wp2_with fail
  refine (H72.out _ H HG HH3.out).mono ?_
  rintro e w30 ⟨rfl, hb⟩
  clear qhT0_0 qhT0_1 qhT0_2 qhT0_3 qhT0_4 qhT0_5 qhT0_6 qhT0_7 qhT0_8
  have hS := hb
  have hB30 := hB29.call hS rfl
  replace hT0 := blkb hT0 hS
  replace H := H.below hS
  replace HG := HG.below hS
  replace h1 := h1.below hS
  replace h2 := h2.below hS
  replace t10 := blkb t10 hS
  replace t12 := blkb t12 hS
  replace t18 := blkb t18 hS
  replace h3 := h3.below hS
  replace h4 := h4.below hS
  clear hS hB29
  have qhT0_0 : w30.cell? ⟨w.heap.size, 0, none⟩ = some (.int .i64 (c.r 0)) := cell_at hT0 rfl
  have qhT0_1 : w30.cell? ⟨w.heap.size, 1, none⟩ = some (.int .i64 (c.r 1)) := cell_at hT0 rfl
  have qhT0_2 : w30.cell? ⟨w.heap.size, 2, none⟩ = some (.int .i64 (c.r 2)) := cell_at hT0 rfl
  have qhT0_3 : w30.cell? ⟨w.heap.size, 3, none⟩ = some (.int .i64 (c.r 3)) := cell_at hT0 rfl
  have qhT0_4 : w30.cell? ⟨w.heap.size, 4, none⟩ = some (.int .i64 (c.r 4)) := cell_at hT0 rfl
  have qhT0_5 : w30.cell? ⟨w.heap.size, 5, none⟩ = some (.int .i64 (c.r 5)) := cell_at hT0 rfl
  have qhT0_6 : w30.cell? ⟨w.heap.size, 6, none⟩ = some (.int .i64 c.free) := cell_at hT0 rfl
  have qhT0_7 : w30.cell? ⟨w.heap.size, 7, none⟩ = some (.int .i64 c.bonus) := cell_at hT0 rfl
  have qhT0_8 : w30.cell? ⟨w.heap.size, 8, none⟩ = some (.int .i64 c.pen) := cell_at hT0 rfl
  clear hb
  clear qhT0_0 qhT0_1 qhT0_2 qhT0_3 qhT0_4 qhT0_5 qhT0_6 qhT0_7 qhT0_8
  go_wp2_with (refine wpList_store_blk rfl 87 _ _ rfl bt18 _ rfl rfl t18 ?s1 ?s2 ?s3 ?_)
  case s1 => rfl
  case s2 => kernel_rfl
  case s3 => simp [Value.oneCell']
  intro w31 t18n hg3 hs3
  have hB31 : Below w.heap.size w w31 := hB30.grown hg3 hB30.size (fun j hj => by cases hj; exact hw18)
  replace hT0 := grown_blk hg3 hT0 (by omega)
  replace H := grown_ents hg3 t18 rfl H HN.out
  replace HG := grown_ress hg3 t18 rfl HG HM0.out
  replace h1 := grown_strs hg3 t18 rfl h1 rfl
  replace h2 := grown_strs hg3 t18 rfl h2 rfl
  replace t10 := grown_blk hg3 t10 (by omega)
  replace t12 := grown_blk hg3 t12 (by omega)
  replace h3 := grown_strs hg3 t18 rfl h3 rfl
  replace h4 := grown_strs hg3 t18 rfl h4 rfl
  clear t18 hg3 hs3 lt10 lt12 ltT hw18
  have t18 := t18n
  clear t18n
  clear hB30
  have qhT0_0 : w31.cell? ⟨w.heap.size, 0, none⟩ = some (.int .i64 (c.r 0)) := cell_at hT0 rfl
  have qhT0_1 : w31.cell? ⟨w.heap.size, 1, none⟩ = some (.int .i64 (c.r 1)) := cell_at hT0 rfl
  have qhT0_2 : w31.cell? ⟨w.heap.size, 2, none⟩ = some (.int .i64 (c.r 2)) := cell_at hT0 rfl
  have qhT0_3 : w31.cell? ⟨w.heap.size, 3, none⟩ = some (.int .i64 (c.r 3)) := cell_at hT0 rfl
  have qhT0_4 : w31.cell? ⟨w.heap.size, 4, none⟩ = some (.int .i64 (c.r 4)) := cell_at hT0 rfl
  have qhT0_5 : w31.cell? ⟨w.heap.size, 5, none⟩ = some (.int .i64 (c.r 5)) := cell_at hT0 rfl
  have qhT0_6 : w31.cell? ⟨w.heap.size, 6, none⟩ = some (.int .i64 c.free) := cell_at hT0 rfl
  have qhT0_7 : w31.cell? ⟨w.heap.size, 7, none⟩ = some (.int .i64 c.bonus) := cell_at hT0 rfl
  have qhT0_8 : w31.cell? ⟨w.heap.size, 8, none⟩ = some (.int .i64 c.pen) := cell_at hT0 rfl
  clear qhT0_0 qhT0_1 qhT0_2 qhT0_3 qhT0_4 qhT0_5 qhT0_6 qhT0_7 qhT0_8
  have qhT0_0 : w31.cell? ⟨w.heap.size, 0, none⟩ = some (.int .i64 (c.r 0)) := cell_at hT0 rfl
  have qhT0_1 : w31.cell? ⟨w.heap.size, 1, none⟩ = some (.int .i64 (c.r 1)) := cell_at hT0 rfl
  have qhT0_2 : w31.cell? ⟨w.heap.size, 2, none⟩ = some (.int .i64 (c.r 2)) := cell_at hT0 rfl
  have qhT0_3 : w31.cell? ⟨w.heap.size, 3, none⟩ = some (.int .i64 (c.r 3)) := cell_at hT0 rfl
  have qhT0_4 : w31.cell? ⟨w.heap.size, 4, none⟩ = some (.int .i64 (c.r 4)) := cell_at hT0 rfl
  have qhT0_5 : w31.cell? ⟨w.heap.size, 5, none⟩ = some (.int .i64 (c.r 5)) := cell_at hT0 rfl
  have qhT0_6 : w31.cell? ⟨w.heap.size, 6, none⟩ = some (.int .i64 c.free) := cell_at hT0 rfl
  have qhT0_7 : w31.cell? ⟨w.heap.size, 7, none⟩ = some (.int .i64 c.bonus) := cell_at hT0 rfl
  have qhT0_8 : w31.cell? ⟨w.heap.size, 8, none⟩ = some (.int .i64 c.pen) := cell_at hT0 rfl
  have qt10_0 : w31.cell? ⟨bt10, 0, none⟩ = some (.int .i64 (V.c 0)) := cell_at t10 rfl
  have qt10_1 : w31.cell? ⟨bt10, 1, none⟩ = some (.int .i64 (V.c 1)) := cell_at t10 rfl
  have qt10_2 : w31.cell? ⟨bt10, 2, none⟩ = some (.int .i64 (V.c 2)) := cell_at t10 rfl
  have qt10_3 : w31.cell? ⟨bt10, 3, none⟩ = some (.int .i64 (V.c 3)) := cell_at t10 rfl
  have qt10_4 : w31.cell? ⟨bt10, 4, none⟩ = some (.int .i64 (V.c 4)) := cell_at t10 rfl
  have qt10_5 : w31.cell? ⟨bt10, 5, none⟩ = some (.int .i64 (V.c 5)) := cell_at t10 rfl
  have qt10_6 : w31.cell? ⟨bt10, 6, none⟩ = some (.int .i64 V.lines) := cell_at t10 rfl
  have qt10_7 : w31.cell? ⟨bt10, 7, none⟩ = some (.int .i64 V.total) := cell_at t10 rfl
  have qt12_0 : w31.cell? ⟨bt12, 0, none⟩ = some (.int .i64 (V.c 0)) := cell_at t12 rfl
  have qt12_1 : w31.cell? ⟨bt12, 1, none⟩ = some (.int .i64 (V.c 1)) := cell_at t12 rfl
  have qt12_2 : w31.cell? ⟨bt12, 2, none⟩ = some (.int .i64 (V.c 2)) := cell_at t12 rfl
  have qt12_3 : w31.cell? ⟨bt12, 3, none⟩ = some (.int .i64 (V.c 3)) := cell_at t12 rfl
  have qt12_4 : w31.cell? ⟨bt12, 4, none⟩ = some (.int .i64 (V.c 4)) := cell_at t12 rfl
  have qt12_5 : w31.cell? ⟨bt12, 5, none⟩ = some (.int .i64 (V.c 5)) := cell_at t12 rfl
  have qt12_6 : w31.cell? ⟨bt12, 6, none⟩ = some (.int .i64 V.lines) := cell_at t12 rfl
  have qt12_7 : w31.cell? ⟨bt12, 7, none⟩ = some (.int .i64 V.total) := cell_at t12 rfl
  have qt18_0 : w31.cell? ⟨bt18, 0, none⟩ = some (.int .i64 (V.c 0)) := cell_at t18 rfl
  have qt18_1 : w31.cell? ⟨bt18, 1, none⟩ = some (.int .i64 (V.c 1)) := cell_at t18 rfl
  have qt18_2 : w31.cell? ⟨bt18, 2, none⟩ = some (.int .i64 (V.c 2)) := cell_at t18 rfl
  have qt18_3 : w31.cell? ⟨bt18, 3, none⟩ = some (.int .i64 (V.c 3)) := cell_at t18 rfl
  have qt18_4 : w31.cell? ⟨bt18, 4, none⟩ = some (.int .i64 (V.c 4)) := cell_at t18 rfl
  have qt18_5 : w31.cell? ⟨bt18, 5, none⟩ = some (.int .i64 (V.c 5)) := cell_at t18 rfl
  have qt18_6 : w31.cell? ⟨bt18, 6, none⟩ = some (.int .i64 V.lines) := cell_at t18 rfl
  have qt18_7 : w31.cell? ⟨bt18, 7, none⟩ = some (.int .i64 V.total) := cell_at t18 rfl
  go_wp2
  refine wp_region_plan [(0, true), (2, true), (1, false), (3, false), (4, true), (5, true), (6, true), (9, true), (7, false), (8, false), (10, true), (11, true), (12, true), (13, true), (14, true), (15, false), (16, true), (17, true), (18, true), (19, true), (20, false), (21, true), (22, true), (23, true), (24, true), (25, true), (26, true), (27, true), (28, true), (29, true), (30, true), (31, true), (32, true), (33, true), (34, true), (35, true), (36, true), (37, true), (38, true), (39, true), (40, true), (41, true), (42, true), (43, true), (44, true), (45, true), (46, true), (47, true), (48, false), (49, true), (50, true)] w31.heap.size (by kernel_rfl) (by kernel_rfl) (Nat.le_refl _) (fun _ _ d _ _ h => by cases d <;> exact h) ?_
  have hC : Below w31.heap.size w31 w31 := Below.refl _ _
  have zhT0 : w.heap.size < w31.heap.size := (Array.getElem?_eq_some_iff.1 hT0).1
  have zt10 : bt10 < w31.heap.size := (Array.getElem?_eq_some_iff.1 t10).1
  have zt12 : bt12 < w31.heap.size := (Array.getElem?_eq_some_iff.1 t12).1
  have zt18 : bt18 < w31.heap.size := (Array.getElem?_eq_some_iff.1 t18).1
  repeat (first | (refine wpPlanA_skip _ rfl (by rfl) ?_; simp only [Act.put, List.setIfInBounds_toArray, List.set_cons_zero, List.set_cons_succ]) | (refine wpPlanA_soft _ ?_ rfl (by rfl) ?_ ?_; rotate_left; (intro wq hq hcq; go_simp; first | exact rfl | exact ⟨rfl, rfl⟩); simp only [Act.put, List.setIfInBounds_toArray, List.set_cons_zero, List.set_cons_succ]))
  refine wpPlanA_hard _ rfl (by rfl) (fun w32 hS K hK => ?_)
  have hB32 := hB31.call hS rfl
  replace hC := hC.call hS rfl
  replace hT0 := blkb hT0 hS
  replace H := H.below hS
  replace HG := HG.below hS
  replace h1 := h1.below hS
  replace h2 := h2.below hS
  replace t10 := blkb t10 hS
  replace t12 := blkb t12 hS
  replace t18 := blkb t18 hS
  replace h3 := h3.below hS
  replace h4 := h4.below hS
  clear hS hB31
  go_simp
  refine (H73.out _).mono ?_
  rintro e w33 ⟨rfl, hb⟩
  have hB33 := hB32.call hb rfl
  replace hC := hC.call hb rfl
  replace hT0 := blkb hT0 hb
  replace H := H.below hb
  replace HG := HG.below hb
  replace h1 := h1.below hb
  replace h2 := h2.below hb
  replace t10 := blkb t10 hb
  replace t12 := blkb t12 hb
  replace t18 := blkb t18 hb
  replace h3 := h3.below hb
  replace h4 := h4.below hb
  clear hb hB32
  refine hK _ _ hC ?_
  clear hK K
  try simp only [Act.put, List.setIfInBounds_toArray, List.set_cons_zero, List.set_cons_succ]
  refine wpPlanA_hard _ rfl (by rfl) (fun w34 hS K hK => ?_)
  have hB34 := hB33.call hS rfl
  replace hC := hC.call hS rfl
  replace hT0 := blkb hT0 hS
  replace H := H.below hS
  replace HG := HG.below hS
  replace h1 := h1.below hS
  replace h2 := h2.below hS
  replace t10 := blkb t10 hS
  replace t12 := blkb t12 hS
  replace t18 := blkb t18 hS
  replace h3 := h3.below hS
  replace h4 := h4.below hS
  clear hS hB33
  go_simp
  refine (H74.out _).mono ?_
  rintro e w35 ⟨rfl, hb⟩
  have hB35 := hB34.call hb rfl
  replace hC := hC.call hb rfl
  replace hT0 := blkb hT0 hb
  replace H := H.below hb
  replace HG := HG.below hb
  replace h1 := h1.below hb
  replace h2 := h2.below hb
  replace t10 := blkb t10 hb
  replace t12 := blkb t12 hb
  replace t18 := blkb t18 hb
  replace h3 := h3.below hb
  replace h4 := h4.below hb
  clear hb hB34
  refine hK _ _ hC ?_
  clear hK K
  try simp only [Act.put, List.setIfInBounds_toArray, List.set_cons_zero, List.set_cons_succ]
  repeat (first | (refine wpPlanA_skip _ rfl (by rfl) ?_; simp only [Act.put, List.setIfInBounds_toArray, List.set_cons_zero, List.set_cons_succ]) | (refine wpPlanA_soft _ ?_ rfl (by rfl) ?_ ?_; rotate_left; (intro wq hq hcq; go_simp; first | exact rfl | exact ⟨rfl, rfl⟩); simp only [Act.put, List.setIfInBounds_toArray, List.set_cons_zero, List.set_cons_succ]))
  refine wpPlanA_hard _ rfl (by rfl) (fun w36 hS K hK => ?_)
  have hB36 := hB35.call hS rfl
  replace hC := hC.call hS rfl
  replace hT0 := blkb hT0 hS
  replace H := H.below hS
  replace HG := HG.below hS
  replace h1 := h1.below hS
  replace h2 := h2.below hS
  replace t10 := blkb t10 hS
  replace t12 := blkb t12 hS
  replace t18 := blkb t18 hS
  replace h3 := h3.below hS
  replace h4 := h4.below hS
  clear hS hB35
  go_simp
  refine (H67.out _ HM.out HG).mono ?_
  rintro e w37 ⟨x, rfl, ho, hb⟩
  have hB37 := hB36.call hb rfl
  replace hC := hC.call hb rfl
  replace hT0 := blkb hT0 hb
  replace H := H.below hb
  replace HG := HG.below hb
  replace h1 := h1.below hb
  replace h2 := h2.below hb
  replace t10 := blkb t10 hb
  replace t12 := blkb t12 hb
  replace t18 := blkb t18 hb
  replace h3 := h3.below hb
  replace h4 := h4.below hb
  clear hb hB36
  obtain ⟨AR, CR, rfl, hr, hr1, hr2, hr3⟩ := own_form ho
  have HR1 := Lib.hid hr1
  have HR2 := Lib.hid hr2
  clear ho hr1 hr2 hr3
  refine hK _ _ hC ?_
  clear hK K
  try simp only [Act.put, List.setIfInBounds_toArray, List.set_cons_zero, List.set_cons_succ]
  refine wpPlanA_hard _ rfl (by rfl) (fun w38 hS K hK => ?_)
  have hB38 := hB37.call hS rfl
  replace hC := hC.call hS rfl
  replace hT0 := blkb hT0 hS
  replace H := H.below hS
  replace HG := HG.below hS
  replace h1 := h1.below hS
  replace h2 := h2.below hS
  replace t10 := blkb t10 hS
  replace t12 := blkb t12 hS
  replace t18 := blkb t18 hS
  replace h3 := h3.below hS
  replace h4 := h4.below hS
  replace hr := hr.below hS
  clear hS hB37
  go_simp
  refine (H75.out _ AR CR HM.out HR1.out HR2.out HRZ.out hr).mono ?_
  rintro e w39 ⟨rfl, hb⟩
  have hB39 := hB38.call hb rfl
  replace hC := hC.call hb rfl
  replace hT0 := blkb hT0 hb
  replace H := H.below hb
  replace HG := HG.below hb
  replace h1 := h1.below hb
  replace h2 := h2.below hb
  replace t10 := blkb t10 hb
  replace t12 := blkb t12 hb
  replace t18 := blkb t18 hb
  replace h3 := h3.below hb
  replace h4 := h4.below hb
  replace hr := hr.below hb
  clear hb hB38
  refine hK _ _ hC ?_
  clear hK K
  try simp only [Act.put, List.setIfInBounds_toArray, List.set_cons_zero, List.set_cons_succ]
  repeat (first | (refine wpPlanA_skip _ rfl (by rfl) ?_; simp only [Act.put, List.setIfInBounds_toArray, List.set_cons_zero, List.set_cons_succ]) | (refine wpPlanA_soft _ ?_ rfl (by rfl) ?_ ?_; rotate_left; (intro wq hq hcq; go_simp; first | exact rfl | exact ⟨rfl, rfl⟩); simp only [Act.put, List.setIfInBounds_toArray, List.set_cons_zero, List.set_cons_succ]))
  refine wpPlanA_hard _ rfl (by rfl) (fun w40 hS K hK => ?_)
  have hB40 := hB39.call hS rfl
  replace hC := hC.call hS rfl
  replace hT0 := blkb hT0 hS
  replace H := H.below hS
  replace HG := HG.below hS
  replace h1 := h1.below hS
  replace h2 := h2.below hS
  replace t10 := blkb t10 hS
  replace t12 := blkb t12 hS
  replace t18 := blkb t18 hS
  replace h3 := h3.below hS
  replace h4 := h4.below hS
  replace hr := hr.below hS
  clear hS hB39
  go_simp
  refine (c46 A1 A3 C1 C3 XA _ HXA.out h1 h3).mono ?_
  rintro e w41 ⟨rfl, hb⟩
  have hB41 := hB40.call hb rfl
  replace hC := hC.call hb rfl
  replace hT0 := blkb hT0 hb
  replace H := H.below hb
  replace HG := HG.below hb
  replace h1 := h1.below hb
  replace h2 := h2.below hb
  replace t10 := blkb t10 hb
  replace t12 := blkb t12 hb
  replace t18 := blkb t18 hb
  replace h3 := h3.below hb
  replace h4 := h4.below hb
  replace hr := hr.below hb
  clear hb hB40
  refine hK _ _ hC ?_
  clear hK K
  try simp only [Act.put, List.setIfInBounds_toArray, List.set_cons_zero, List.set_cons_succ]
  repeat (first | (refine wpPlanA_skip _ rfl (by rfl) ?_; simp only [Act.put, List.setIfInBounds_toArray, List.set_cons_zero, List.set_cons_succ]) | (refine wpPlanA_soft _ ?_ rfl (by rfl) ?_ ?_; rotate_left; (intro wq hq hcq; go_simp; first | exact rfl | exact ⟨rfl, rfl⟩); simp only [Act.put, List.setIfInBounds_toArray, List.set_cons_zero, List.set_cons_succ]))
  refine wpPlanA_hard _ rfl (by rfl) (fun w42 hS K hK => ?_)
  have hB42 := hB41.call hS rfl
  replace hC := hC.call hS rfl
  replace hT0 := blkb hT0 hS
  replace H := H.below hS
  replace HG := HG.below hS
  replace h1 := h1.below hS
  replace h2 := h2.below hS
  replace t10 := blkb t10 hS
  replace t12 := blkb t12 hS
  replace t18 := blkb t18 hS
  replace h3 := h3.below hS
  replace h4 := h4.below hS
  replace hr := hr.below hS
  clear hS hB41
  go_simp
  refine (c46 A2 A4 C2 C4 XR _ HXR.out h2 h4).mono ?_
  rintro e w43 ⟨rfl, hb⟩
  have hB43 := hB42.call hb rfl
  replace hC := hC.call hb rfl
  replace hT0 := blkb hT0 hb
  replace H := H.below hb
  replace HG := HG.below hb
  replace h1 := h1.below hb
  replace h2 := h2.below hb
  replace t10 := blkb t10 hb
  replace t12 := blkb t12 hb
  replace t18 := blkb t18 hb
  replace h3 := h3.below hb
  replace h4 := h4.below hb
  replace hr := hr.below hb
  clear hb hB42
  refine hK _ _ hC ?_
  clear hK K
  try simp only [Act.put, List.setIfInBounds_toArray, List.set_cons_zero, List.set_cons_succ]
  repeat (first | (refine wpPlanA_skip _ rfl (by rfl) ?_; simp only [Act.put, List.setIfInBounds_toArray, List.set_cons_zero, List.set_cons_succ]) | (refine wpPlanA_soft _ ?_ rfl (by rfl) ?_ ?_; rotate_left; (intro wq hq hcq; go_simp; first | exact rfl | exact ⟨rfl, rfl⟩); simp only [Act.put, List.setIfInBounds_toArray, List.set_cons_zero, List.set_cons_succ]))
  refine wpPlanA_hard _ rfl (by rfl) (fun w44 hS K hK => ?_)
  have hB44 := hB43.call hS rfl
  replace hC := hC.call hS rfl
  replace hT0 := blkb hT0 hS
  replace H := H.below hS
  replace HG := HG.below hS
  replace h1 := h1.below hS
  replace h2 := h2.below hS
  replace t10 := blkb t10 hS
  replace t12 := blkb t12 hS
  replace t18 := blkb t18 hS
  replace h3 := h3.below hS
  replace h4 := h4.below hS
  replace hr := hr.below hS
  clear hS hB43
  go_simp
  refine (c15 _).mono ?_
  rintro e w45 ⟨rfl, hb⟩
  have hB45 := hB44.call hb rfl
  replace hC := hC.call hb rfl
  replace hT0 := blkb hT0 hb
  replace H := H.below hb
  replace HG := HG.below hb
  replace h1 := h1.below hb
  replace h2 := h2.below hb
  replace t10 := blkb t10 hb
  replace t12 := blkb t12 hb
  replace t18 := blkb t18 hb
  replace h3 := h3.below hb
  replace h4 := h4.below hb
  replace hr := hr.below hb
  clear hb hB44
  refine hK _ _ hC ?_
  clear hK K
  try simp only [Act.put, List.setIfInBounds_toArray, List.set_cons_zero, List.set_cons_succ]
  repeat (first | (refine wpPlanA_skip _ rfl (by rfl) ?_; simp only [Act.put, List.setIfInBounds_toArray, List.set_cons_zero, List.set_cons_succ]) | (refine wpPlanA_soft _ ?_ rfl (by rfl) ?_ ?_; rotate_left; (intro wq hq hcq; go_simp; first | exact rfl | exact ⟨rfl, rfl⟩); simp only [Act.put, List.setIfInBounds_toArray, List.set_cons_zero, List.set_cons_succ]))
  clear qhT0_0 qhT0_1 qhT0_2 qhT0_3 qhT0_4 qhT0_5 qhT0_6 qhT0_7 qhT0_8 qt10_0 qt10_1 qt10_2 qt10_3 qt10_4 qt10_5 qt10_6 qt10_7 qt12_0 qt12_1 qt12_2 qt12_3 qt12_4 qt12_5 qt12_6 qt12_7 qt18_0 qt18_1 qt18_2 qt18_3 qt18_4 qt18_5 qt18_6 qt18_7
  refine wpPlanA_nil (fun w46 hS => ?_)
  clear hC zhT0 zt10 zt12 zt18
  have hB46 := hB45.call hS rfl
  replace hT0 := blkb hT0 hS
  replace H := H.below hS
  replace HG := HG.below hS
  replace h1 := h1.below hS
  replace h2 := h2.below hS
  replace t10 := blkb t10 hS
  replace t12 := blkb t12 hS
  replace t18 := blkb t18 hS
  replace h3 := h3.below hS
  replace h4 := h4.below hS
  replace hr := hr.below hS
  clear hS hB45
  have qhT0_0 : w46.cell? ⟨w.heap.size, 0, none⟩ = some (.int .i64 (c.r 0)) := cell_at hT0 rfl
  have qhT0_1 : w46.cell? ⟨w.heap.size, 1, none⟩ = some (.int .i64 (c.r 1)) := cell_at hT0 rfl
  have qhT0_2 : w46.cell? ⟨w.heap.size, 2, none⟩ = some (.int .i64 (c.r 2)) := cell_at hT0 rfl
  have qhT0_3 : w46.cell? ⟨w.heap.size, 3, none⟩ = some (.int .i64 (c.r 3)) := cell_at hT0 rfl
  have qhT0_4 : w46.cell? ⟨w.heap.size, 4, none⟩ = some (.int .i64 (c.r 4)) := cell_at hT0 rfl
  have qhT0_5 : w46.cell? ⟨w.heap.size, 5, none⟩ = some (.int .i64 (c.r 5)) := cell_at hT0 rfl
  have qhT0_6 : w46.cell? ⟨w.heap.size, 6, none⟩ = some (.int .i64 c.free) := cell_at hT0 rfl
  have qhT0_7 : w46.cell? ⟨w.heap.size, 7, none⟩ = some (.int .i64 c.bonus) := cell_at hT0 rfl
  have qhT0_8 : w46.cell? ⟨w.heap.size, 8, none⟩ = some (.int .i64 c.pen) := cell_at hT0 rfl
  have qt10_0 : w46.cell? ⟨bt10, 0, none⟩ = some (.int .i64 (V.c 0)) := cell_at t10 rfl
  have qt10_1 : w46.cell? ⟨bt10, 1, none⟩ = some (.int .i64 (V.c 1)) := cell_at t10 rfl
  have qt10_2 : w46.cell? ⟨bt10, 2, none⟩ = some (.int .i64 (V.c 2)) := cell_at t10 rfl
  have qt10_3 : w46.cell? ⟨bt10, 3, none⟩ = some (.int .i64 (V.c 3)) := cell_at t10 rfl
  have qt10_4 : w46.cell? ⟨bt10, 4, none⟩ = some (.int .i64 (V.c 4)) := cell_at t10 rfl
  have qt10_5 : w46.cell? ⟨bt10, 5, none⟩ = some (.int .i64 (V.c 5)) := cell_at t10 rfl
  have qt10_6 : w46.cell? ⟨bt10, 6, none⟩ = some (.int .i64 V.lines) := cell_at t10 rfl
  have qt10_7 : w46.cell? ⟨bt10, 7, none⟩ = some (.int .i64 V.total) := cell_at t10 rfl
  have qt12_0 : w46.cell? ⟨bt12, 0, none⟩ = some (.int .i64 (V.c 0)) := cell_at t12 rfl
  have qt12_1 : w46.cell? ⟨bt12, 1, none⟩ = some (.int .i64 (V.c 1)) := cell_at t12 rfl
  have qt12_2 : w46.cell? ⟨bt12, 2, none⟩ = some (.int .i64 (V.c 2)) := cell_at t12 rfl
  have qt12_3 : w46.cell? ⟨bt12, 3, none⟩ = some (.int .i64 (V.c 3)) := cell_at t12 rfl
  have qt12_4 : w46.cell? ⟨bt12, 4, none⟩ = some (.int .i64 (V.c 4)) := cell_at t12 rfl
  have qt12_5 : w46.cell? ⟨bt12, 5, none⟩ = some (.int .i64 (V.c 5)) := cell_at t12 rfl
  have qt12_6 : w46.cell? ⟨bt12, 6, none⟩ = some (.int .i64 V.lines) := cell_at t12 rfl
  have qt12_7 : w46.cell? ⟨bt12, 7, none⟩ = some (.int .i64 V.total) := cell_at t12 rfl
  have qt18_0 : w46.cell? ⟨bt18, 0, none⟩ = some (.int .i64 (V.c 0)) := cell_at t18 rfl
  have qt18_1 : w46.cell? ⟨bt18, 1, none⟩ = some (.int .i64 (V.c 1)) := cell_at t18 rfl
  have qt18_2 : w46.cell? ⟨bt18, 2, none⟩ = some (.int .i64 (V.c 2)) := cell_at t18 rfl
  have qt18_3 : w46.cell? ⟨bt18, 3, none⟩ = some (.int .i64 (V.c 3)) := cell_at t18 rfl
  have qt18_4 : w46.cell? ⟨bt18, 4, none⟩ = some (.int .i64 (V.c 4)) := cell_at t18 rfl
  have qt18_5 : w46.cell? ⟨bt18, 5, none⟩ = some (.int .i64 (V.c 5)) := cell_at t18 rfl
  have qt18_6 : w46.cell? ⟨bt18, 6, none⟩ = some (.int .i64 V.lines) := cell_at t18 rfl
  have qt18_7 : w46.cell? ⟨bt18, 7, none⟩ = some (.int .i64 V.total) := cell_at t18 rfl
  go_wp2
  go_ret
  exact ⟨rfl, hB46⟩

theorem l11_mid (c : Con) (A : Option Addr) (cap : Nat) (l : List Ent) (G : Option Addr) (gcap : Nat) (rs : List Res) (w : World) (hl0 : l.length ≤ 9223372036854775807) (hg0 : rs.length ≤ 9223372036854775807) (H : RdL w 3 Ent.enc A l) (HG : RdL w 3 Res.enc G rs) (h3 : Mo.bill c l rs ≠ 0) (h2 : Mo.results rs = 0) :
    Calls Tryz.prog 11 #[.agg #[.int .i64 (c.r 0), .int .i64 (c.r 1), .int .i64 (c.r 2), .int .i64 (c.r 3), .int .i64 (c.r 4), .int .i64 (c.r 5), .int .i64 c.free, .int .i64 c.bonus, .int .i64 c.pen], .slice A l.length cap, .slice G rs.length gcap] w fun en w' => en = .returned (.bool true) ∧ Below w.heap.size w w' := by
  obtain ⟨N, hN⟩ : ∃ N, N = l.length := ⟨_, rfl⟩
  obtain ⟨M, hM⟩ : ∃ M, M = rs.length := ⟨_, rfl⟩
  obtain ⟨V, hV⟩ : ∃ V, V = Mo.billV c l rs := ⟨_, rfl⟩
  obtain ⟨XA, hXA⟩ : ∃ X, X = (Mo.accP rs).1 := ⟨_, rfl⟩
  obtain ⟨XR, hXR⟩ : ∃ X, X = (Mo.accP rs).2 := ⟨_, rfl⟩
  obtain ⟨E2, hE2⟩ : ∃ E, E = Mo.results rs := ⟨_, rfl⟩
  obtain ⟨E3, hE3⟩ : ∃ E, E = Mo.bill c l rs := ⟨_, rfl⟩
  have h51 := fun w1 (H1 : RdS w1 3 A l.length (l.flatMap Ent.enc)) => c51w A cap l w1 hl0 H1
  have h64 := fun w1 (H1 : RdS w1 3 G rs.length (rs.flatMap Res.enc)) => c64w G gcap rs w1 hg0 H1
  have h63 := fun w1 (h : l.length ≤ 1000000) (H1 : RdS w1 3 A l.length (l.flatMap Ent.enc)) => c63 A cap l w1 h H1
  have h53 := fun w1 (h : l.length ≤ 1000000) (H1 : RdS w1 3 A l.length (l.flatMap Ent.enc)) => c53o A cap l w1 h H1
  have h67 := fun w1 (h : rs.length ≤ 1000000) (H1 : RdS w1 3 G rs.length (rs.flatMap Res.enc)) => c67o G gcap rs w1 h H1
  have h69 := fun w1 G (gcap : Nat) (h : rs.length ≤ 1000000) hc1 hc2 hs (H1 : RdS w1 3 G rs.length (rs.flatMap Res.enc)) => c69 G gcap rs w1 h hc1 hc2 hs H1
  have h66 := fun w1 A (cap : Nat) G (gcap : Nat) (h : l.length ≤ 1000000) (h' : rs.length ≤ 1000000) hc1 hc2 hs hs' (H1 : RdS w1 3 A l.length (l.flatMap Ent.enc)) (H2 : RdS w1 3 G rs.length (rs.flatMap Res.enc)) => c66 c A cap l G gcap rs w1 h h' hc1 hc2 hs hs' H1 H2
  have h68 := fun w1 A (cap : Nat) G (gcap : Nat) (h : l.length ≤ 1000000) (h' : rs.length ≤ 1000000) hc1 hc2 hs hs' (H1 : RdS w1 3 A l.length (l.flatMap Ent.enc)) (H2 : RdS w1 3 G rs.length (rs.flatMap Res.enc)) hnw => c68 c A cap l G gcap rs w1 h h' hc1 hc2 hs hs' H1 H2 hnw
  have h70 := fun w1 (h : rs.length ≤ 1000000) hs (H1 : RdS w1 3 G rs.length (rs.flatMap Res.enc)) => c70 G gcap rs w1 h hs H1
  have h65 := fun w1 (h : l.length ≤ 1000000) (h' : rs.length ≤ 1000000) hs hs' (H1 : RdS w1 3 A l.length (l.flatMap Ent.enc)) (H2 : RdS w1 3 G rs.length (rs.flatMap Res.enc)) => c65 c A cap l G gcap rs w1 h h' hs hs' H1 H2
  have h71 := fun w1 (h : rs.length ≤ 1000000) (H1 : RdS w1 3 G rs.length (rs.flatMap Res.enc)) => c71 G gcap rs w1 h H1
  have h72 := fun w1 (H1 : RdS w1 3 A l.length (l.flatMap Ent.enc)) (H2 : RdS w1 3 G rs.length (rs.flatMap Res.enc)) hE => c72 c A cap l G gcap rs w1 H1 H2 hE
  have h75 := fun w1 G (gcap : Nat) (h : rs.length ≤ 1000000) hc1 hc2 hs (H1 : RdS w1 3 G rs.length (rs.flatMap Res.enc)) => c75 G gcap rs w1 h hc1 hc2 hs H1
  have h73 := c73 c
  have h74 := c74 c
  obtain ⟨E1, hE1⟩ : ∃ E, E = Mo.con c := ⟨_, rfl⟩
  rw [← hE1] at h73 h74
  rw [← hV, ← hE3] at h66 h68
  rw [← hXA, ← hXR, ← hE2] at h69
  rw [← hE2] at h70 h75
  rw [← hE3] at h65
  unfold Inv.arr at h66 h68 h72
  have hx : XA.length ≤ 1000000 ∨ True := Or.inr trivial
  have hxl : rs.length ≤ 65 → XA.length ≤ 65 ∧ XR.length ≤ 65 := by
    intro h
    rw [hXA, hXR]
    unfold Mo.accP
    split
    · simp
    · have h1 : (Mo.acc rs).length ≤ rs.length := by unfold Mo.acc; rw [List.length_map]; exact List.length_filter_le _ _
      have h2 : (Mo.rej rs).length ≤ rs.length := by unfold Mo.rej; rw [List.length_map]; exact List.length_filter_le _ _
      simp only []
      omega
  have hacc : Mo.acc rs = XA := by rw [hXA]; unfold Mo.accP; rw [if_neg (by rw [h2]; simp)]
  have hrej : Mo.rej rs = XR := by rw [hXR]; unfold Mo.accP; rw [if_neg (by rw [h2]; simp)]
  rw [hacc, hrej] at h71
  rw [h2] at hE2
  subst hE2
  clear hacc hrej
  have hv0 : V = Mo.zeroI := by rw [hV]; unfold Mo.billV; rw [if_pos h3]
  rw [← hE3] at h3
  have hq3 : (E3 == 0) = false := by simpa using h3
  have E87 := eq87r ⟨fun _ => 0, 0, 0⟩
  rw [hv0] at h66 h68
  unfold Mo.zeroI at h66 h68
  clear h72 hv0
  replace H : RdS w 3 A l.length (l.flatMap Ent.enc) := H
  replace HG : RdS w 3 G rs.length (rs.flatMap Res.enc) := HG
  rw [← hN] at H h51 h63 h53 h66 h68 h65 ⊢
  rw [← hM] at HG h64 h67 h69 h66 h68 h70 h65 h75 h71 hxl ⊢
  have HXL := Lib.hid hxl
  have HN := Lib.hid hN
  have HM0 := Lib.hid hM
  clear hx hxl hN hM hV hXA hXR hl0 hg0 h3 hE1 hE3
  have H51 := Lib.hid h51
  have H64 := Lib.hid h64
  have H63 := Lib.hid h63
  have H53 := Lib.hid h53
  have H67 := Lib.hid h67
  have H69 := Lib.hid h69
  have H66 := Lib.hid h66
  have H68 := Lib.hid h68
  have H70 := Lib.hid h70
  have H65 := Lib.hid h65
  have H75 := Lib.hid h75
  have H73 := Lib.hid h73
  have H74 := Lib.hid h74
  have H71 := Lib.hid h71
  clear h51 h64 h63 h53 h67 h69 h66 h68 h70 h65 h75 h73 h74 h71
  go_enter Tryz.func11, Tryz.ntmps11
  obtain ⟨w0, hW⟩ : ∃ W, W = w.alloc (Obj.cells #[.int .i64 (c.r 0), .int .i64 (c.r 1), .int .i64 (c.r 2), .int .i64 (c.r 3), .int .i64 (c.r 4), .int .i64 (c.r 5), .int .i64 c.free, .int .i64 c.bonus, .int .i64 c.pen] 122) := ⟨_, rfl⟩
  have hT0 : w0.heap[w.heap.size]? = some (.cells #[.int .i64 (c.r 0), .int .i64 (c.r 1), .int .i64 (c.r 2), .int .i64 (c.r 3), .int .i64 (c.r 4), .int .i64 (c.r 5), .int .i64 c.free, .int .i64 c.bonus, .int .i64 c.pen] 122 (0, 0)) := by rw [hW]; exact heap_new (by simp)
  have hB0 : Below w.heap.size w w0 := by rw [hW]; exact ((Below.refl _ _).alloc (by first | omega | (simp <;> omega)) _)
  replace H := H.below hB0
  replace HG := HG.below hB0
  go_wp2_with fail
  rw [← hW]
  clear hW
  have qhT0_0 : w0.cell? ⟨w.heap.size, 0, none⟩ = some (.int .i64 (c.r 0)) := cell_at hT0 rfl
  have qhT0_1 : w0.cell? ⟨w.heap.size, 1, none⟩ = some (.int .i64 (c.r 1)) := cell_at hT0 rfl
  have qhT0_2 : w0.cell? ⟨w.heap.size, 2, none⟩ = some (.int .i64 (c.r 2)) := cell_at hT0 rfl
  have qhT0_3 : w0.cell? ⟨w.heap.size, 3, none⟩ = some (.int .i64 (c.r 3)) := cell_at hT0 rfl
  have qhT0_4 : w0.cell? ⟨w.heap.size, 4, none⟩ = some (.int .i64 (c.r 4)) := cell_at hT0 rfl
  have qhT0_5 : w0.cell? ⟨w.heap.size, 5, none⟩ = some (.int .i64 (c.r 5)) := cell_at hT0 rfl
  have qhT0_6 : w0.cell? ⟨w.heap.size, 6, none⟩ = some (.int .i64 c.free) := cell_at hT0 rfl
  have qhT0_7 : w0.cell? ⟨w.heap.size, 7, none⟩ = some (.int .i64 c.bonus) := cell_at hT0 rfl
  have qhT0_8 : w0.cell? ⟨w.heap.size, 8, none⟩ = some (.int .i64 c.pen) := cell_at hT0 rfl
  go_wp2_with fail
  refine (H51.out _ H).mono ?_
  rintro e w' ⟨⟨b, rfl, hb1⟩, rfl⟩
  clear H51
  cases b
  case false =>
    go_wp2_with fail
    refine (c15 _).mono ?_
    rintro e wz ⟨rfl, hz⟩
    go_wp2
    go_ret
    exact ⟨rfl, hB0.call hz rfl⟩
  obtain ⟨hl, hs⟩ := hb1 rfl
  clear hb1
  have HSZ : Hid (∀ e ∈ l, e.c.size ≤ 1000000) := Lib.hid (fun e he => by have := hs e he; omega)
  clear hs
  have HL : Hid (N ≤ 1000000) := Lib.hid (by omega)
  clear hl
  go_wp2_with fail
  refine (H63.out _ HL.out H).mono ?_
  rintro e w1 ⟨⟨b, rfl, hb2⟩, hb⟩
  clear qhT0_0 qhT0_1 qhT0_2 qhT0_3 qhT0_4 qhT0_5 qhT0_6 qhT0_7 qhT0_8
  have hS := hb
  have hB1 := hB0.call hS rfl
  replace hT0 := blkb hT0 hS
  replace H := H.below hS
  replace HG := HG.below hS
  clear hS hB0
  have qhT0_0 : w1.cell? ⟨w.heap.size, 0, none⟩ = some (.int .i64 (c.r 0)) := cell_at hT0 rfl
  have qhT0_1 : w1.cell? ⟨w.heap.size, 1, none⟩ = some (.int .i64 (c.r 1)) := cell_at hT0 rfl
  have qhT0_2 : w1.cell? ⟨w.heap.size, 2, none⟩ = some (.int .i64 (c.r 2)) := cell_at hT0 rfl
  have qhT0_3 : w1.cell? ⟨w.heap.size, 3, none⟩ = some (.int .i64 (c.r 3)) := cell_at hT0 rfl
  have qhT0_4 : w1.cell? ⟨w.heap.size, 4, none⟩ = some (.int .i64 (c.r 4)) := cell_at hT0 rfl
  have qhT0_5 : w1.cell? ⟨w.heap.size, 5, none⟩ = some (.int .i64 (c.r 5)) := cell_at hT0 rfl
  have qhT0_6 : w1.cell? ⟨w.heap.size, 6, none⟩ = some (.int .i64 c.free) := cell_at hT0 rfl
  have qhT0_7 : w1.cell? ⟨w.heap.size, 7, none⟩ = some (.int .i64 c.bonus) := cell_at hT0 rfl
  have qhT0_8 : w1.cell? ⟨w.heap.size, 8, none⟩ = some (.int .i64 c.pen) := cell_at hT0 rfl
  clear hb
  clear hb2
  cases b
  case false =>
    go_wp2_with fail
    refine (c15 _).mono ?_
    rintro e wz ⟨rfl, hz⟩
    go_wp2
    go_ret
    exact ⟨rfl, hB1.call hz rfl⟩
  go_wp2_with fail
  refine (H64.out _ HG).mono ?_
  rintro e w' ⟨⟨b, rfl, hb1⟩, rfl⟩
  clear H64 H63
  cases b
  case false =>
    go_wp2_with fail
    refine (c15 _).mono ?_
    rintro e wz ⟨rfl, hz⟩
    go_wp2
    go_ret
    exact ⟨rfl, hB1.call hz rfl⟩
  obtain ⟨hm, hs⟩ := hb1 rfl
  clear hb1
  have HRZ : Hid (∀ x ∈ rs, x.n.size ≤ 1000000) := Lib.hid (fun e he => by have := hs e he; omega)
  clear hs
  have HM : Hid (M ≤ 1000000) := Lib.hid (by omega)
  obtain ⟨hxa, hxr⟩ := HXL.out hm
  have HXA : Hid (XA.length ≤ 1000000) := Lib.hid (by omega)
  have HXR : Hid (XR.length ≤ 1000000) := Lib.hid (by omega)
  clear hxa hxr
  clear hm HXL
  go_wp2_with fail
  refine (H67.out _ HM.out HG).mono ?_
  rintro e w2 ⟨x, rfl, ho, hb⟩
  clear qhT0_0 qhT0_1 qhT0_2 qhT0_3 qhT0_4 qhT0_5 qhT0_6 qhT0_7 qhT0_8
  have hS := hb
  have hB2 := hB1.call hS rfl
  replace hT0 := blkb hT0 hS
  replace H := H.below hS
  replace HG := HG.below hS
  clear hS hB1
  have qhT0_0 : w2.cell? ⟨w.heap.size, 0, none⟩ = some (.int .i64 (c.r 0)) := cell_at hT0 rfl
  have qhT0_1 : w2.cell? ⟨w.heap.size, 1, none⟩ = some (.int .i64 (c.r 1)) := cell_at hT0 rfl
  have qhT0_2 : w2.cell? ⟨w.heap.size, 2, none⟩ = some (.int .i64 (c.r 2)) := cell_at hT0 rfl
  have qhT0_3 : w2.cell? ⟨w.heap.size, 3, none⟩ = some (.int .i64 (c.r 3)) := cell_at hT0 rfl
  have qhT0_4 : w2.cell? ⟨w.heap.size, 4, none⟩ = some (.int .i64 (c.r 4)) := cell_at hT0 rfl
  have qhT0_5 : w2.cell? ⟨w.heap.size, 5, none⟩ = some (.int .i64 (c.r 5)) := cell_at hT0 rfl
  have qhT0_6 : w2.cell? ⟨w.heap.size, 6, none⟩ = some (.int .i64 c.free) := cell_at hT0 rfl
  have qhT0_7 : w2.cell? ⟨w.heap.size, 7, none⟩ = some (.int .i64 c.bonus) := cell_at hT0 rfl
  have qhT0_8 : w2.cell? ⟨w.heap.size, 8, none⟩ = some (.int .i64 c.pen) := cell_at hT0 rfl
  clear hb
  obtain ⟨AR, CR, rfl, hr, hr1, hr2, hr3⟩ := own_form ho
  have HR1 := Lib.hid hr1
  have HR2 := Lib.hid hr2
  clear ho hr1 hr2 hr3
  go_wp2_with fail
  refine (H69.out _ AR CR HM.out HR1.out HR2.out HRZ.out hr).mono ?_
  rintro e w3 ⟨_, _, rfl, ⟨A1, C1, rfl, h1⟩, ⟨A2, C2, rfl, h2⟩, hb⟩
  clear qhT0_0 qhT0_1 qhT0_2 qhT0_3 qhT0_4 qhT0_5 qhT0_6 qhT0_7 qhT0_8
  have hS := hb
  have hB3 := hB2.call hS rfl
  replace hT0 := blkb hT0 hS
  replace H := H.below hS
  replace HG := HG.below hS
  replace hr := hr.below hS
  clear hS hB2
  have qhT0_0 : w3.cell? ⟨w.heap.size, 0, none⟩ = some (.int .i64 (c.r 0)) := cell_at hT0 rfl
  have qhT0_1 : w3.cell? ⟨w.heap.size, 1, none⟩ = some (.int .i64 (c.r 1)) := cell_at hT0 rfl
  have qhT0_2 : w3.cell? ⟨w.heap.size, 2, none⟩ = some (.int .i64 (c.r 2)) := cell_at hT0 rfl
  have qhT0_3 : w3.cell? ⟨w.heap.size, 3, none⟩ = some (.int .i64 (c.r 3)) := cell_at hT0 rfl
  have qhT0_4 : w3.cell? ⟨w.heap.size, 4, none⟩ = some (.int .i64 (c.r 4)) := cell_at hT0 rfl
  have qhT0_5 : w3.cell? ⟨w.heap.size, 5, none⟩ = some (.int .i64 (c.r 5)) := cell_at hT0 rfl
  have qhT0_6 : w3.cell? ⟨w.heap.size, 6, none⟩ = some (.int .i64 c.free) := cell_at hT0 rfl
  have qhT0_7 : w3.cell? ⟨w.heap.size, 7, none⟩ = some (.int .i64 c.bonus) := cell_at hT0 rfl
  have qhT0_8 : w3.cell? ⟨w.heap.size, 8, none⟩ = some (.int .i64 c.pen) := cell_at hT0 rfl
  clear hb
  clear hr
  clear HR1 HR2
  go_wp2
  refine wp_region_planF (Φ := Fresh w3.heap.size #[.int .i64 0, .int .i64 0, .int .i64 0, .int .i64 0, .int .i64 0, .int .i64 0, .int .i64 0, .int .i64 0] 91) [(0, 1), (1, 1), (3, 1), (2, 0), (4, 0), (5, 0), (6, 1), (7, 1), (8, 1), (9, 2), (10, 3), (11, 1)] 9 w3.heap.size _ rfl (by kernel_rfl) (by kernel_rfl) (Nat.le_refl _) (fun _ _ d _ _ h => by cases d <;> exact h) (fun _ _ d _ _ h => by cases d <;> exact h) (fun v w w' hv hb => hv.below hb) ?hF ?_
  case hF =>
    intro a wq hq
    refine ⟨rfl, ?_⟩
    have hsz := hq.size
    go_simp
    exact ⟨_, rfl, ⟨_, rfl, hsz, heap_new rfl⟩, (Below.refl _ _).alloc (Nat.le_refl _) _⟩
  have hC : Below w3.heap.size w3 w3 := Below.refl _ _
  have hBr := hB3
  have zhT0 : w.heap.size < w3.heap.size := (Array.getElem?_eq_some_iff.1 hT0).1
  have hT00 := hT0
  have H0 := H
  have HG0 := HG
  have h10 := h1
  have h20 := h2
  repeat (first | (refine wpPlanFA_skip _ rfl (by rfl) ?_; simp only [Act.put, List.setIfInBounds_toArray, List.set_cons_zero, List.set_cons_succ]) | (refine wpPlanFA_soft _ ?_ rfl (by rfl) ?_ ?_; rotate_left; (intro wq hq hcq; go_simp; first | exact rfl | exact ⟨rfl, rfl⟩); simp only [Act.put, List.setIfInBounds_toArray, List.set_cons_zero, List.set_cons_succ]))
  refine wpPlanFA_hard _ rfl (by rfl) (fun w4 hS K hK => ?_)
  have hB4 := hB3.call hS rfl
  replace hC := hC.call hS rfl
  replace hT0 := blkb hT0 hS
  replace H := H.below hS
  replace HG := HG.below hS
  replace h1 := h1.below hS
  replace h2 := h2.below hS
  clear hS hB3
  go_simp
  refine (H53.out _ HL.out H).mono ?_
  rintro e w5 ⟨x, rfl, ho, hb⟩
  have hB5 := hB4.call hb rfl
  replace hC := hC.call hb rfl
  replace hT0 := blkb hT0 hb
  replace H := H.below hb
  replace HG := HG.below hb
  replace h1 := h1.below hb
  replace h2 := h2.below hb
  obtain ⟨AE, CE, rfl, he, _, _, he3⟩ := own_form ho
  have HE3 := Lib.hid he3
  clear ho he3
  have hse : Below w5.heap.size w5 w5 := Below.refl _ _
  refine hK _ _ hC hb ?_
  clear hK K hb hB4
  try simp only [Act.put, List.setIfInBounds_toArray, List.set_cons_zero, List.set_cons_succ]
  refine wpPlanFA_hard _ rfl (by rfl) (fun w6 hS K hK => ?_)
  have hB6 := hB5.call hS rfl
  replace hC := hC.call hS rfl
  replace hT0 := blkb hT0 hS
  replace H := H.below hS
  replace HG := HG.below hS
  replace h1 := h1.below hS
  replace h2 := h2.below hS
  replace he := he.below hS
  replace hse := hse.call hS rfl
  clear hS hB5
  go_simp
  refine (H67.out _ HM.out HG).mono ?_
  rintro e w7 ⟨x, rfl, ho, hb⟩
  have hB7 := hB6.call hb rfl
  replace hC := hC.call hb rfl
  replace hT0 := blkb hT0 hb
  replace H := H.below hb
  replace HG := HG.below hb
  replace h1 := h1.below hb
  replace h2 := h2.below hb
  replace he := he.below hb
  replace hse := hse.call hb rfl
  obtain ⟨AR, CR, rfl, hr, hr1, hr2, hr3⟩ := own_form ho
  have HR1 := Lib.hid hr1
  have HR2 := Lib.hid hr2
  clear ho hr1 hr2 hr3
  refine hK _ _ hC hb ?_
  clear hK K hb hB6
  try simp only [Act.put, List.setIfInBounds_toArray, List.set_cons_zero, List.set_cons_succ]
  refine wpPlanFA_hard _ rfl (by rfl) (fun w8 hS K hK => ?_)
  have hB8 := hB7.call hS rfl
  replace hC := hC.call hS rfl
  replace hT0 := blkb hT0 hS
  replace H := H.below hS
  replace HG := HG.below hS
  replace h1 := h1.below hS
  replace h2 := h2.below hS
  replace he := he.below hS
  replace hse := hse.call hS rfl
  replace hr := hr.below hS
  clear hS hB7
  go_simp
  refine (H66.out _ AE CE AR CR HL.out HM.out HR1.out HR2.out HSZ.out HRZ.out he hr).mono ?_
  rintro e w9 ⟨rfl, hb⟩
  have hB9 := hB8.call hb rfl
  replace hC := hC.call hb rfl
  replace hT0 := blkb hT0 hb
  replace H := H.below hb
  replace HG := HG.below hb
  replace h1 := h1.below hb
  replace h2 := h2.below hb
  replace he := he.below hb
  replace hse := hse.call hb rfl
  replace hr := hr.below hb
  refine hK _ _ hC hb ?_
  clear hK K hb hB8
  try simp only [Act.put, List.setIfInBounds_toArray, List.set_cons_zero, List.set_cons_succ]
  repeat (first | (refine wpPlanFA_skip _ rfl (by rfl) ?_; simp only [Act.put, List.setIfInBounds_toArray, List.set_cons_zero, List.set_cons_succ]) | (refine wpPlanFA_soft _ ?_ rfl (by rfl) ?_ ?_; rotate_left; (intro wq hq hcq; go_simp; first | exact rfl | exact ⟨rfl, rfl⟩); simp only [Act.put, List.setIfInBounds_toArray, List.set_cons_zero, List.set_cons_succ]))
  refine wpPlanFA_float _ rfl (fun v w10 hS hv => ?_)
  obtain ⟨bt10, rfl, hge, t10⟩ := hv
  have hB10 := hB9.call hS rfl
  replace hC := hC.call hS rfl
  replace hT0 := blkb hT0 hS
  replace H := H.below hS
  replace HG := HG.below hS
  replace h1 := h1.below hS
  replace h2 := h2.below hS
  replace he := he.below hS
  replace hse := hse.call hS rfl
  replace hr := hr.below hS
  clear hS hB9
  try simp only [Act.put, List.setIfInBounds_toArray, List.set_cons_zero, List.set_cons_succ]
  repeat (first | (refine wpPlanFA_skip _ rfl (by rfl) ?_; simp only [Act.put, List.setIfInBounds_toArray, List.set_cons_zero, List.set_cons_succ]) | (refine wpPlanFA_soft _ ?_ rfl (by rfl) ?_ ?_; rotate_left; (intro wq hq hcq; go_simp; first | exact rfl | exact ⟨rfl, rfl⟩); simp only [Act.put, List.setIfInBounds_toArray, List.set_cons_zero, List.set_cons_succ]))
  refine wpPlanFA_late _ rfl (by rfl) (fun w11 hS K hK => ?_)
  replace hC := hC.call hS rfl
  replace t10 := blkb t10 hS
  clear hS hB10 hT0 H HG h1 h2 he hse hr
  refine wp_store_blk 91 _ _ rfl bt10 _ rfl rfl t10 ?s1 ?s2 ?s3 ?_
  case s1 => rfl
  case s2 => kernel_rfl
  case s3 => simp [Value.oneCell']
  intro w12 t10n hg3 hs3
  replace hC : Below w3.heap.size w3 w12 := hC.grown hg3 hC.size (fun j hj => by cases hj; exact hge)
  refine hK _ _ hC ?_
  clear hK K t10 hg3 hs3
  have t10 := t10n
  clear t10n
  have hB12 := hBr.call hC rfl
  have hT0 := blkb hT00 hC
  have H := H0.below hC
  have HG := HG0.below hC
  have h1 := h10.below hC
  have h2 := h20.below hC
  try simp only [Act.put, List.setIfInBounds_toArray, List.set_cons_zero, List.set_cons_succ]
  repeat (first | (refine wpPlanFA_skip _ rfl (by rfl) ?_; simp only [Act.put, List.setIfInBounds_toArray, List.set_cons_zero, List.set_cons_succ]) | (refine wpPlanFA_soft _ ?_ rfl (by rfl) ?_ ?_; rotate_left; (intro wq hq hcq; go_simp; first | exact rfl | exact ⟨rfl, rfl⟩); simp only [Act.put, List.setIfInBounds_toArray, List.set_cons_zero, List.set_cons_succ]))
  clear qhT0_0 qhT0_1 qhT0_2 qhT0_3 qhT0_4 qhT0_5 qhT0_6 qhT0_7 qhT0_8
  refine wpPlanFA_nil (fun w13 hS => ?_)
  clear hC hge hBr zhT0 hT00 H0 HG0 h10 h20
  have hB13 := hB12.call hS rfl
  replace hT0 := blkb hT0 hS
  replace H := H.below hS
  replace HG := HG.below hS
  replace h1 := h1.below hS
  replace h2 := h2.below hS
  replace t10 := blkb t10 hS
  clear hS hB12
  have qhT0_0 : w13.cell? ⟨w.heap.size, 0, none⟩ = some (.int .i64 (c.r 0)) := cell_at hT0 rfl
  have qhT0_1 : w13.cell? ⟨w.heap.size, 1, none⟩ = some (.int .i64 (c.r 1)) := cell_at hT0 rfl
  have qhT0_2 : w13.cell? ⟨w.heap.size, 2, none⟩ = some (.int .i64 (c.r 2)) := cell_at hT0 rfl
  have qhT0_3 : w13.cell? ⟨w.heap.size, 3, none⟩ = some (.int .i64 (c.r 3)) := cell_at hT0 rfl
  have qhT0_4 : w13.cell? ⟨w.heap.size, 4, none⟩ = some (.int .i64 (c.r 4)) := cell_at hT0 rfl
  have qhT0_5 : w13.cell? ⟨w.heap.size, 5, none⟩ = some (.int .i64 (c.r 5)) := cell_at hT0 rfl
  have qhT0_6 : w13.cell? ⟨w.heap.size, 6, none⟩ = some (.int .i64 c.free) := cell_at hT0 rfl
  have qhT0_7 : w13.cell? ⟨w.heap.size, 7, none⟩ = some (.int .i64 c.bonus) := cell_at hT0 rfl
  have qhT0_8 : w13.cell? ⟨w.heap.size, 8, none⟩ = some (.int .i64 c.pen) := cell_at hT0 rfl
  clear HE3 HR1 HR2
  go_wp2
  refine wp_region_planF (Φ := Fresh w13.heap.size #[.int .i64 0, .int .i64 0, .int .i64 0, .int .i64 0, .int .i64 0, .int .i64 0, .int .i64 0, .int .i64 0] 91) [(0, 1), (1, 1), (3, 1), (2, 0), (4, 0), (5, 0), (6, 1), (7, 1), (8, 1), (9, 2), (10, 3), (11, 1)] 9 w13.heap.size _ rfl (by kernel_rfl) (by kernel_rfl) (Nat.le_refl _) (fun _ _ d _ _ h => by cases d <;> exact h) (fun _ _ d _ _ h => by cases d <;> exact h) (fun v w w' hv hb => hv.below hb) ?hF ?_
  case hF =>
    intro a wq hq
    refine ⟨rfl, ?_⟩
    have hsz := hq.size
    go_simp
    exact ⟨_, rfl, ⟨_, rfl, hsz, heap_new rfl⟩, (Below.refl _ _).alloc (Nat.le_refl _) _⟩
  have hC : Below w13.heap.size w13 w13 := Below.refl _ _
  have hBr := hB13
  have zhT0 : w.heap.size < w13.heap.size := (Array.getElem?_eq_some_iff.1 hT0).1
  have hT00 := hT0
  have H0 := H
  have HG0 := HG
  have h10 := h1
  have h20 := h2
  have t100 := t10
  repeat (first | (refine wpPlanFA_skip _ rfl (by rfl) ?_; simp only [Act.put, List.setIfInBounds_toArray, List.set_cons_zero, List.set_cons_succ]) | (refine wpPlanFA_soft _ ?_ rfl (by rfl) ?_ ?_; rotate_left; (intro wq hq hcq; go_simp; first | exact rfl | exact ⟨rfl, rfl⟩); simp only [Act.put, List.setIfInBounds_toArray, List.set_cons_zero, List.set_cons_succ]))
  refine wpPlanFA_hard _ rfl (by rfl) (fun w14 hS K hK => ?_)
  have hB14 := hB13.call hS rfl
  replace hC := hC.call hS rfl
  replace hT0 := blkb hT0 hS
  replace H := H.below hS
  replace HG := HG.below hS
  replace h1 := h1.below hS
  replace h2 := h2.below hS
  replace t10 := blkb t10 hS
  clear hS hB13
  go_simp
  refine (H53.out _ HL.out H).mono ?_
  rintro e w15 ⟨x, rfl, ho, hb⟩
  have hB15 := hB14.call hb rfl
  replace hC := hC.call hb rfl
  replace hT0 := blkb hT0 hb
  replace H := H.below hb
  replace HG := HG.below hb
  replace h1 := h1.below hb
  replace h2 := h2.below hb
  replace t10 := blkb t10 hb
  obtain ⟨AE, CE, rfl, he, _, _, he3⟩ := own_form ho
  have HE3 := Lib.hid he3
  clear ho he3
  have hse : Below w15.heap.size w15 w15 := Below.refl _ _
  refine hK _ _ hC hb ?_
  clear hK K hb hB14
  try simp only [Act.put, List.setIfInBounds_toArray, List.set_cons_zero, List.set_cons_succ]
  refine wpPlanFA_hard _ rfl (by rfl) (fun w16 hS K hK => ?_)
  have hB16 := hB15.call hS rfl
  replace hC := hC.call hS rfl
  replace hT0 := blkb hT0 hS
  replace H := H.below hS
  replace HG := HG.below hS
  replace h1 := h1.below hS
  replace h2 := h2.below hS
  replace t10 := blkb t10 hS
  replace he := he.below hS
  replace hse := hse.call hS rfl
  clear hS hB15
  go_simp
  refine (H67.out _ HM.out HG).mono ?_
  rintro e w17 ⟨x, rfl, ho, hb⟩
  have hB17 := hB16.call hb rfl
  replace hC := hC.call hb rfl
  replace hT0 := blkb hT0 hb
  replace H := H.below hb
  replace HG := HG.below hb
  replace h1 := h1.below hb
  replace h2 := h2.below hb
  replace t10 := blkb t10 hb
  replace he := he.below hb
  replace hse := hse.call hb rfl
  obtain ⟨AR, CR, rfl, hr, hr1, hr2, hr3⟩ := own_form ho
  have HR1 := Lib.hid hr1
  have HR2 := Lib.hid hr2
  clear ho hr1 hr2 hr3
  refine hK _ _ hC hb ?_
  clear hK K hb hB16
  try simp only [Act.put, List.setIfInBounds_toArray, List.set_cons_zero, List.set_cons_succ]
  refine wpPlanFA_hard _ rfl (by rfl) (fun w18 hS K hK => ?_)
  have hB18 := hB17.call hS rfl
  replace hC := hC.call hS rfl
  replace hT0 := blkb hT0 hS
  replace H := H.below hS
  replace HG := HG.below hS
  replace h1 := h1.below hS
  replace h2 := h2.below hS
  replace t10 := blkb t10 hS
  replace he := he.below hS
  replace hse := hse.call hS rfl
  replace hr := hr.below hS
  clear hS hB17
  go_simp
  refine (H68.out _ AE CE AR CR HL.out HM.out HR1.out HR2.out HSZ.out HRZ.out he hr (fun b off h => Nat.lt_of_lt_of_le (HE3.out b off h) hse.size)).mono ?_
  rintro e w19 ⟨rfl, hb⟩
  have hB19 := hB18.call hb rfl
  replace hC := hC.call hb rfl
  replace hT0 := blkb hT0 hb
  replace H := H.below hb
  replace HG := HG.below hb
  replace h1 := h1.below hb
  replace h2 := h2.below hb
  replace t10 := blkb t10 hb
  replace he := he.below hb
  replace hse := hse.call hb rfl
  replace hr := hr.below hb
  refine hK _ _ hC hb ?_
  clear hK K hb hB18
  try simp only [Act.put, List.setIfInBounds_toArray, List.set_cons_zero, List.set_cons_succ]
  repeat (first | (refine wpPlanFA_skip _ rfl (by rfl) ?_; simp only [Act.put, List.setIfInBounds_toArray, List.set_cons_zero, List.set_cons_succ]) | (refine wpPlanFA_soft _ ?_ rfl (by rfl) ?_ ?_; rotate_left; (intro wq hq hcq; go_simp; first | exact rfl | exact ⟨rfl, rfl⟩); simp only [Act.put, List.setIfInBounds_toArray, List.set_cons_zero, List.set_cons_succ]))
  refine wpPlanFA_float _ rfl (fun v w20 hS hv => ?_)
  obtain ⟨bt12, rfl, hge, t12⟩ := hv
  have hB20 := hB19.call hS rfl
  replace hC := hC.call hS rfl
  replace hT0 := blkb hT0 hS
  replace H := H.below hS
  replace HG := HG.below hS
  replace h1 := h1.below hS
  replace h2 := h2.below hS
  replace t10 := blkb t10 hS
  replace he := he.below hS
  replace hse := hse.call hS rfl
  replace hr := hr.below hS
  clear hS hB19
  try simp only [Act.put, List.setIfInBounds_toArray, List.set_cons_zero, List.set_cons_succ]
  repeat (first | (refine wpPlanFA_skip _ rfl (by rfl) ?_; simp only [Act.put, List.setIfInBounds_toArray, List.set_cons_zero, List.set_cons_succ]) | (refine wpPlanFA_soft _ ?_ rfl (by rfl) ?_ ?_; rotate_left; (intro wq hq hcq; go_simp; first | exact rfl | exact ⟨rfl, rfl⟩); simp only [Act.put, List.setIfInBounds_toArray, List.set_cons_zero, List.set_cons_succ]))
  refine wpPlanFA_late _ rfl (by rfl) (fun w21 hS K hK => ?_)
  replace hC := hC.call hS rfl
  replace t12 := blkb t12 hS
  clear hS hB20 hT0 H HG h1 h2 t10 he hse hr
  refine wp_store_blk 91 _ _ rfl bt12 _ rfl rfl t12 ?s1 ?s2 ?s3 ?_
  case s1 => rfl
  case s2 => kernel_rfl
  case s3 => simp [Value.oneCell']
  intro w22 t12n hg3 hs3
  replace hC : Below w13.heap.size w13 w22 := hC.grown hg3 hC.size (fun j hj => by cases hj; exact hge)
  refine hK _ _ hC ?_
  clear hK K t12 hg3 hs3
  have t12 := t12n
  clear t12n
  have hB22 := hBr.call hC rfl
  have hT0 := blkb hT00 hC
  have H := H0.below hC
  have HG := HG0.below hC
  have h1 := h10.below hC
  have h2 := h20.below hC
  have t10 := blkb t100 hC
  try simp only [Act.put, List.setIfInBounds_toArray, List.set_cons_zero, List.set_cons_succ]
  repeat (first | (refine wpPlanFA_skip _ rfl (by rfl) ?_; simp only [Act.put, List.setIfInBounds_toArray, List.set_cons_zero, List.set_cons_succ]) | (refine wpPlanFA_soft _ ?_ rfl (by rfl) ?_ ?_; rotate_left; (intro wq hq hcq; go_simp; first | exact rfl | exact ⟨rfl, rfl⟩); simp only [Act.put, List.setIfInBounds_toArray, List.set_cons_zero, List.set_cons_succ]))
  clear qhT0_0 qhT0_1 qhT0_2 qhT0_3 qhT0_4 qhT0_5 qhT0_6 qhT0_7 qhT0_8
  refine wpPlanFA_nil (fun w23 hS => ?_)
  clear hC hge hBr zhT0 hT00 H0 HG0 h10 h20 t100
  have hB23 := hB22.call hS rfl
  replace hT0 := blkb hT0 hS
  replace H := H.below hS
  replace HG := HG.below hS
  replace h1 := h1.below hS
  replace h2 := h2.below hS
  replace t10 := blkb t10 hS
  replace t12 := blkb t12 hS
  clear hS hB22
  have qhT0_0 : w23.cell? ⟨w.heap.size, 0, none⟩ = some (.int .i64 (c.r 0)) := cell_at hT0 rfl
  have qhT0_1 : w23.cell? ⟨w.heap.size, 1, none⟩ = some (.int .i64 (c.r 1)) := cell_at hT0 rfl
  have qhT0_2 : w23.cell? ⟨w.heap.size, 2, none⟩ = some (.int .i64 (c.r 2)) := cell_at hT0 rfl
  have qhT0_3 : w23.cell? ⟨w.heap.size, 3, none⟩ = some (.int .i64 (c.r 3)) := cell_at hT0 rfl
  have qhT0_4 : w23.cell? ⟨w.heap.size, 4, none⟩ = some (.int .i64 (c.r 4)) := cell_at hT0 rfl
  have qhT0_5 : w23.cell? ⟨w.heap.size, 5, none⟩ = some (.int .i64 (c.r 5)) := cell_at hT0 rfl
  have qhT0_6 : w23.cell? ⟨w.heap.size, 6, none⟩ = some (.int .i64 c.free) := cell_at hT0 rfl
  have qhT0_7 : w23.cell? ⟨w.heap.size, 7, none⟩ = some (.int .i64 c.bonus) := cell_at hT0 rfl
  have qhT0_8 : w23.cell? ⟨w.heap.size, 8, none⟩ = some (.int .i64 c.pen) := cell_at hT0 rfl
  clear HE3 HR1 HR2
  go_wp2
  refine wp_region_plan [(0, true), (2, true), (3, true), (4, true), (1, false), (5, false), (6, true), (7, true)] w23.heap.size (by kernel_rfl) (by kernel_rfl) (Nat.le_refl _) (fun _ _ d _ _ h => by cases d <;> exact h) ?_
  have hC : Below w23.heap.size w23 w23 := Below.refl _ _
  have zhT0 : w.heap.size < w23.heap.size := (Array.getElem?_eq_some_iff.1 hT0).1
  repeat (first | (refine wpPlanA_skip _ rfl (by rfl) ?_; simp only [Act.put, List.setIfInBounds_toArray, List.set_cons_zero, List.set_cons_succ]) | (refine wpPlanA_soft _ ?_ rfl (by rfl) ?_ ?_; rotate_left; (intro wq hq hcq; go_simp; first | exact rfl | exact ⟨rfl, rfl⟩); simp only [Act.put, List.setIfInBounds_toArray, List.set_cons_zero, List.set_cons_succ]))
  refine wpPlanA_hard _ rfl (by rfl) (fun w24 hS K hK => ?_)
  have hB24 := hB23.call hS rfl
  replace hC := hC.call hS rfl
  replace hT0 := blkb hT0 hS
  replace H := H.below hS
  replace HG := HG.below hS
  replace h1 := h1.below hS
  replace h2 := h2.below hS
  replace t10 := blkb t10 hS
  replace t12 := blkb t12 hS
  clear hS hB23
  go_simp
  refine (H70.out _ HM.out HRZ.out HG).mono ?_
  rintro e w25 ⟨rfl, hb⟩
  have hB25 := hB24.call hb rfl
  replace hC := hC.call hb rfl
  replace hT0 := blkb hT0 hb
  replace H := H.below hb
  replace HG := HG.below hb
  replace h1 := h1.below hb
  replace h2 := h2.below hb
  replace t10 := blkb t10 hb
  replace t12 := blkb t12 hb
  clear hb hB24
  refine hK _ _ hC ?_
  clear hK K
  try simp only [Act.put, List.setIfInBounds_toArray, List.set_cons_zero, List.set_cons_succ]
  refine wpPlanA_hard _ rfl (by rfl) (fun w26 hS K hK => ?_)
  have hB26 := hB25.call hS rfl
  replace hC := hC.call hS rfl
  replace hT0 := blkb hT0 hS
  replace H := H.below hS
  replace HG := HG.below hS
  replace h1 := h1.below hS
  replace h2 := h2.below hS
  replace t10 := blkb t10 hS
  replace t12 := blkb t12 hS
  clear hS hB25
  go_simp
  refine (H65.out _ HL.out HM.out HSZ.out HRZ.out H HG).mono ?_
  rintro e w27 ⟨rfl, hb⟩
  have hB27 := hB26.call hb rfl
  replace hC := hC.call hb rfl
  replace hT0 := blkb hT0 hb
  replace H := H.below hb
  replace HG := HG.below hb
  replace h1 := h1.below hb
  replace h2 := h2.below hb
  replace t10 := blkb t10 hb
  replace t12 := blkb t12 hb
  clear hb hB26
  refine hK _ _ hC ?_
  clear hK K
  try simp only [Act.put, List.setIfInBounds_toArray, List.set_cons_zero, List.set_cons_succ]
  repeat (first | (refine wpPlanA_skip _ rfl (by rfl) ?_; simp only [Act.put, List.setIfInBounds_toArray, List.set_cons_zero, List.set_cons_succ]) | (refine wpPlanA_soft _ ?_ rfl (by rfl) ?_ ?_; rotate_left; (intro wq hq hcq; go_simp; first | exact rfl | exact ⟨rfl, rfl⟩); simp only [Act.put, List.setIfInBounds_toArray, List.set_cons_zero, List.set_cons_succ]))
  clear qhT0_0 qhT0_1 qhT0_2 qhT0_3 qhT0_4 qhT0_5 qhT0_6 qhT0_7 qhT0_8
  refine wpPlanA_nil (fun w28 hS => ?_)
  clear hC zhT0
  have hB28 := hB27.call hS rfl
  replace hT0 := blkb hT0 hS
  replace H := H.below hS
  replace HG := HG.below hS
  replace h1 := h1.below hS
  replace h2 := h2.below hS
  replace t10 := blkb t10 hS
  replace t12 := blkb t12 hS
  clear hS hB27
  have qhT0_0 : w28.cell? ⟨w.heap.size, 0, none⟩ = some (.int .i64 (c.r 0)) := cell_at hT0 rfl
  have qhT0_1 : w28.cell? ⟨w.heap.size, 1, none⟩ = some (.int .i64 (c.r 1)) := cell_at hT0 rfl
  have qhT0_2 : w28.cell? ⟨w.heap.size, 2, none⟩ = some (.int .i64 (c.r 2)) := cell_at hT0 rfl
  have qhT0_3 : w28.cell? ⟨w.heap.size, 3, none⟩ = some (.int .i64 (c.r 3)) := cell_at hT0 rfl
  have qhT0_4 : w28.cell? ⟨w.heap.size, 4, none⟩ = some (.int .i64 (c.r 4)) := cell_at hT0 rfl
  have qhT0_5 : w28.cell? ⟨w.heap.size, 5, none⟩ = some (.int .i64 (c.r 5)) := cell_at hT0 rfl
  have qhT0_6 : w28.cell? ⟨w.heap.size, 6, none⟩ = some (.int .i64 c.free) := cell_at hT0 rfl
  have qhT0_7 : w28.cell? ⟨w.heap.size, 7, none⟩ = some (.int .i64 c.bonus) := cell_at hT0 rfl
  have qhT0_8 : w28.cell? ⟨w.heap.size, 8, none⟩ = some (.int .i64 c.pen) := cell_at hT0 rfl
  have lt10 := (Array.getElem?_eq_some_iff.1 t10).1
  have lt12 := (Array.getElem?_eq_some_iff.1 t12).1
  have ltT := (Array.getElem?_eq_some_iff.1 hT0).1
  have hw18 := hB28.size
  go_wp2_with fail
  refine (H71.out _ HM.out (RdS.al HG _)).mono ?_
  rintro e w29 ⟨_, _, rfl, ⟨A3, C3, rfl, h3⟩, ⟨A4, C4, rfl, h4⟩, hb⟩
  have t18 := blkb (heap_new (w := w28) (o := (Obj.cells #[.int .i64 0, .int .i64 0, .int .i64 0, .int .i64 0, .int .i64 0, .int .i64 0, .int .i64 0, .int .i64 0] 87)) rfl) hb
  clear qhT0_0 qhT0_1 qhT0_2 qhT0_3 qhT0_4 qhT0_5 qhT0_6 qhT0_7 qhT0_8
  have hS := ((Below.refl _ _).alloc (by first | exact Nat.le_refl _ | (simp <;> omega)) _).call hb rfl
  have hB29 := hB28.call hS rfl
  replace hT0 := blkb hT0 hS
  replace H := H.below hS
  replace HG := HG.below hS
  replace h1 := h1.below hS
  replace h2 := h2.below hS
  replace t10 := blkb t10 hS
  replace t12 := blkb t12 hS
  clear hS hB28
  have qhT0_0 : w29.cell? ⟨w.heap.size, 0, none⟩ = some (.int .i64 (c.r 0)) := cell_at hT0 rfl
  have qhT0_1 : w29.cell? ⟨w.heap.size, 1, none⟩ = some (.int .i64 (c.r 1)) := cell_at hT0 rfl
  have qhT0_2 : w29.cell? ⟨w.heap.size, 2, none⟩ = some (.int .i64 (c.r 2)) := cell_at hT0 rfl
  have qhT0_3 : w29.cell? ⟨w.heap.size, 3, none⟩ = some (.int .i64 (c.r 3)) := cell_at hT0 rfl
  have qhT0_4 : w29.cell? ⟨w.heap.size, 4, none⟩ = some (.int .i64 (c.r 4)) := cell_at hT0 rfl
  have qhT0_5 : w29.cell? ⟨w.heap.size, 5, none⟩ = some (.int .i64 (c.r 5)) := cell_at hT0 rfl
  have qhT0_6 : w29.cell? ⟨w.heap.size, 6, none⟩ = some (.int .i64 c.free) := cell_at hT0 rfl
  have qhT0_7 : w29.cell? ⟨w.heap.size, 7, none⟩ = some (.int .i64 c.bonus) := cell_at hT0 rfl
  have qhT0_8 : w29.cell? ⟨w.heap.size, 8, none⟩ = some (.int .i64 c.pen) := cell_at hT0 rfl
  clear hb
  obtain ⟨bt18, hbt18⟩ : ∃ b, b = w28.heap.size := ⟨_, rfl⟩
  rw [← hbt18] at t18 lt10 lt12 ltT hw18 ⊢
  clear hbt18
  clear lt10 lt12 ltT hw18
  clear qhT0_0 qhT0_1 qhT0_2 qhT0_3 qhT0_4 qhT0_5 qhT0_6 qhT0_7 qhT0_8
  have qhT0_0 : w29.cell? ⟨w.heap.size, 0, none⟩ = some (.int .i64 (c.r 0)) := cell_at hT0 rfl
  have qhT0_1 : w29.cell? ⟨w.heap.size, 1, none⟩ = some (.int .i64 (c.r 1)) := cell_at hT0 rfl
  have qhT0_2 : w29.cell? ⟨w.heap.size, 2, none⟩ = some (.int .i64 (c.r 2)) := cell_at hT0 rfl
  have qhT0_3 : w29.cell? ⟨w.heap.size, 3, none⟩ = some (.int .i64 (c.r 3)) := cell_at hT0 rfl
  have qhT0_4 : w29.cell? ⟨w.heap.size, 4, none⟩ = some (.int .i64 (c.r 4)) := cell_at hT0 rfl
  have qhT0_5 : w29.cell? ⟨w.heap.size, 5, none⟩ = some (.int .i64 (c.r 5)) := cell_at hT0 rfl
  have qhT0_6 : w29.cell? ⟨w.heap.size, 6, none⟩ = some (.int .i64 c.free) := cell_at hT0 rfl
  have qhT0_7 : w29.cell? ⟨w.heap.size, 7, none⟩ = some (.int .i64 c.bonus) := cell_at hT0 rfl
  have qhT0_8 : w29.cell? ⟨w.heap.size, 8, none⟩ = some (.int .i64 c.pen) := cell_at hT0 rfl
  have qt10_0 : w29.cell? ⟨bt10, 0, none⟩ = some (.int .i64 0) := cell_at t10 rfl
  have qt10_1 : w29.cell? ⟨bt10, 1, none⟩ = some (.int .i64 0) := cell_at t10 rfl
  have qt10_2 : w29.cell? ⟨bt10, 2, none⟩ = some (.int .i64 0) := cell_at t10 rfl
  have qt10_3 : w29.cell? ⟨bt10, 3, none⟩ = some (.int .i64 0) := cell_at t10 rfl
  have qt10_4 : w29.cell? ⟨bt10, 4, none⟩ = some (.int .i64 0) := cell_at t10 rfl
  have qt10_5 : w29.cell? ⟨bt10, 5, none⟩ = some (.int .i64 0) := cell_at t10 rfl
  have qt10_6 : w29.cell? ⟨bt10, 6, none⟩ = some (.int .i64 0) := cell_at t10 rfl
  have qt10_7 : w29.cell? ⟨bt10, 7, none⟩ = some (.int .i64 0) := cell_at t10 rfl
  have qt12_0 : w29.cell? ⟨bt12, 0, none⟩ = some (.int .i64 0) := cell_at t12 rfl
  have qt12_1 : w29.cell? ⟨bt12, 1, none⟩ = some (.int .i64 0) := cell_at t12 rfl
  have qt12_2 : w29.cell? ⟨bt12, 2, none⟩ = some (.int .i64 0) := cell_at t12 rfl
  have qt12_3 : w29.cell? ⟨bt12, 3, none⟩ = some (.int .i64 0) := cell_at t12 rfl
  have qt12_4 : w29.cell? ⟨bt12, 4, none⟩ = some (.int .i64 0) := cell_at t12 rfl
  have qt12_5 : w29.cell? ⟨bt12, 5, none⟩ = some (.int .i64 0) := cell_at t12 rfl
  have qt12_6 : w29.cell? ⟨bt12, 6, none⟩ = some (.int .i64 0) := cell_at t12 rfl
  have qt12_7 : w29.cell? ⟨bt12, 7, none⟩ = some (.int .i64 0) := cell_at t12 rfl
  have qt18_0 : w29.cell? ⟨bt18, 0, none⟩ = some (.int .i64 0) := cell_at t18 rfl
  have qt18_1 : w29.cell? ⟨bt18, 1, none⟩ = some (.int .i64 0) := cell_at t18 rfl
  have qt18_2 : w29.cell? ⟨bt18, 2, none⟩ = some (.int .i64 0) := cell_at t18 rfl
  have qt18_3 : w29.cell? ⟨bt18, 3, none⟩ = some (.int .i64 0) := cell_at t18 rfl
  have qt18_4 : w29.cell? ⟨bt18, 4, none⟩ = some (.int .i64 0) := cell_at t18 rfl
  have qt18_5 : w29.cell? ⟨bt18, 5, none⟩ = some (.int .i64 0) := cell_at t18 rfl
  have qt18_6 : w29.cell? ⟨bt18, 6, none⟩ = some (.int .i64 0) := cell_at t18 rfl
  have qt18_7 : w29.cell? ⟨bt18, 7, none⟩ = some (.int .i64 0) := cell_at t18 rfl
  go_wp2
  refine wp_region_plan [(0, true), (2, true), (1, false), (3, false), (4, true), (5, true), (6, true), (9, true), (7, false), (8, false), (10, true), (11, true), (12, true), (13, true), (14, true), (15, false), (16, true), (17, true), (18, true), (19, true), (20, false), (21, true), (22, true), (23, true), (24, true), (25, true), (26, true), (27, true), (28, true), (29, true), (30, true), (31, true), (32, true), (33, true), (34, true), (35, true), (36, true), (37, true), (38, true), (39, true), (40, true), (41, true), (42, true), (43, true), (44, true), (45, true), (46, true), (47, true), (48, false), (49, true), (50, true)] w29.heap.size (by kernel_rfl) (by kernel_rfl) (Nat.le_refl _) (fun _ _ d _ _ h => by cases d <;> exact h) ?_
  have hC : Below w29.heap.size w29 w29 := Below.refl _ _
  have zhT0 : w.heap.size < w29.heap.size := (Array.getElem?_eq_some_iff.1 hT0).1
  have zt10 : bt10 < w29.heap.size := (Array.getElem?_eq_some_iff.1 t10).1
  have zt12 : bt12 < w29.heap.size := (Array.getElem?_eq_some_iff.1 t12).1
  have zt18 : bt18 < w29.heap.size := (Array.getElem?_eq_some_iff.1 t18).1
  repeat (first | (refine wpPlanA_skip _ rfl (by rfl) ?_; simp only [Act.put, List.setIfInBounds_toArray, List.set_cons_zero, List.set_cons_succ]) | (refine wpPlanA_soft _ ?_ rfl (by rfl) ?_ ?_; rotate_left; (intro wq hq hcq; go_simp; first | exact rfl | exact ⟨rfl, rfl⟩); simp only [Act.put, List.setIfInBounds_toArray, List.set_cons_zero, List.set_cons_succ]))
  refine wpPlanA_hard _ rfl (by rfl) (fun w30 hS K hK => ?_)
  have hB30 := hB29.call hS rfl
  replace hC := hC.call hS rfl
  replace hT0 := blkb hT0 hS
  replace H := H.below hS
  replace HG := HG.below hS
  replace h1 := h1.below hS
  replace h2 := h2.below hS
  replace t10 := blkb t10 hS
  replace t12 := blkb t12 hS
  replace t18 := blkb t18 hS
  replace h3 := h3.below hS
  replace h4 := h4.below hS
  clear hS hB29
  go_simp
  refine (H73.out _).mono ?_
  rintro e w31 ⟨rfl, hb⟩
  have hB31 := hB30.call hb rfl
  replace hC := hC.call hb rfl
  replace hT0 := blkb hT0 hb
  replace H := H.below hb
  replace HG := HG.below hb
  replace h1 := h1.below hb
  replace h2 := h2.below hb
  replace t10 := blkb t10 hb
  replace t12 := blkb t12 hb
  replace t18 := blkb t18 hb
  replace h3 := h3.below hb
  replace h4 := h4.below hb
  clear hb hB30
  refine hK _ _ hC ?_
  clear hK K
  try simp only [Act.put, List.setIfInBounds_toArray, List.set_cons_zero, List.set_cons_succ]
  refine wpPlanA_hard _ rfl (by rfl) (fun w32 hS K hK => ?_)
  have hB32 := hB31.call hS rfl
  replace hC := hC.call hS rfl
  replace hT0 := blkb hT0 hS
  replace H := H.below hS
  replace HG := HG.below hS
  replace h1 := h1.below hS
  replace h2 := h2.below hS
  replace t10 := blkb t10 hS
  replace t12 := blkb t12 hS
  replace t18 := blkb t18 hS
  replace h3 := h3.below hS
  replace h4 := h4.below hS
  clear hS hB31
  go_simp
  refine (H74.out _).mono ?_
  rintro e w33 ⟨rfl, hb⟩
  have hB33 := hB32.call hb rfl
  replace hC := hC.call hb rfl
  replace hT0 := blkb hT0 hb
  replace H := H.below hb
  replace HG := HG.below hb
  replace h1 := h1.below hb
  replace h2 := h2.below hb
  replace t10 := blkb t10 hb
  replace t12 := blkb t12 hb
  replace t18 := blkb t18 hb
  replace h3 := h3.below hb
  replace h4 := h4.below hb
  clear hb hB32
  refine hK _ _ hC ?_
  clear hK K
  try simp only [Act.put, List.setIfInBounds_toArray, List.set_cons_zero, List.set_cons_succ]
  repeat (first | (refine wpPlanA_skip _ rfl (by rfl) ?_; simp only [Act.put, List.setIfInBounds_toArray, List.set_cons_zero, List.set_cons_succ]) | (refine wpPlanA_soft _ ?_ rfl (by rfl) ?_ ?_; rotate_left; (intro wq hq hcq; go_simp; first | exact rfl | exact ⟨rfl, rfl⟩); simp only [Act.put, List.setIfInBounds_toArray, List.set_cons_zero, List.set_cons_succ]))
  refine wpPlanA_hard _ rfl (by rfl) (fun w34 hS K hK => ?_)
  have hB34 := hB33.call hS rfl
  replace hC := hC.call hS rfl
  replace hT0 := blkb hT0 hS
  replace H := H.below hS
  replace HG := HG.below hS
  replace h1 := h1.below hS
  replace h2 := h2.below hS
  replace t10 := blkb t10 hS
  replace t12 := blkb t12 hS
  replace t18 := blkb t18 hS
  replace h3 := h3.below hS
  replace h4 := h4.below hS
  clear hS hB33
  go_simp
  refine (H67.out _ HM.out HG).mono ?_
  rintro e w35 ⟨x, rfl, ho, hb⟩
  have hB35 := hB34.call hb rfl
  replace hC := hC.call hb rfl
  replace hT0 := blkb hT0 hb
  replace H := H.below hb
  replace HG := HG.below hb
  replace h1 := h1.below hb
  replace h2 := h2.below hb
  replace t10 := blkb t10 hb
  replace t12 := blkb t12 hb
  replace t18 := blkb t18 hb
  replace h3 := h3.below hb
  replace h4 := h4.below hb
  clear hb hB34
  obtain ⟨AR, CR, rfl, hr, hr1, hr2, hr3⟩ := own_form ho
  have HR1 := Lib.hid hr1
  have HR2 := Lib.hid hr2
  clear ho hr1 hr2 hr3
  refine hK _ _ hC ?_
  clear hK K
  try simp only [Act.put, List.setIfInBounds_toArray, List.set_cons_zero, List.set_cons_succ]
  refine wpPlanA_hard _ rfl (by rfl) (fun w36 hS K hK => ?_)
  have hB36 := hB35.call hS rfl
  replace hC := hC.call hS rfl
  replace hT0 := blkb hT0 hS
  replace H := H.below hS
  replace HG := HG.below hS
  replace h1 := h1.below hS
  replace h2 := h2.below hS
  replace t10 := blkb t10 hS
  replace t12 := blkb t12 hS
  replace t18 := blkb t18 hS
  replace h3 := h3.below hS
  replace h4 := h4.below hS
  replace hr := hr.below hS
  clear hS hB35
  go_simp
  refine (H75.out _ AR CR HM.out HR1.out HR2.out HRZ.out hr).mono ?_
  rintro e w37 ⟨rfl, hb⟩
  have hB37 := hB36.call hb rfl
  replace hC := hC.call hb rfl
  replace hT0 := blkb hT0 hb
  replace H := H.below hb
  replace HG := HG.below hb
  replace h1 := h1.below hb
  replace h2 := h2.below hb
  replace t10 := blkb t10 hb
  replace t12 := blkb t12 hb
  replace t18 := blkb t18 hb
  replace h3 := h3.below hb
  replace h4 := h4.below hb
  replace hr := hr.below hb
  clear hb hB36
  refine hK _ _ hC ?_
  clear hK K
  try simp only [Act.put, List.setIfInBounds_toArray, List.set_cons_zero, List.set_cons_succ]
  repeat (first | (refine wpPlanA_skip _ rfl (by rfl) ?_; simp only [Act.put, List.setIfInBounds_toArray, List.set_cons_zero, List.set_cons_succ]) | (refine wpPlanA_soft _ ?_ rfl (by rfl) ?_ ?_; rotate_left; (intro wq hq hcq; go_simp; first | exact rfl | exact ⟨rfl, rfl⟩); simp only [Act.put, List.setIfInBounds_toArray, List.set_cons_zero, List.set_cons_succ]))
  refine wpPlanA_hard _ rfl (by rfl) (fun w38 hS K hK => ?_)
  have hB38 := hB37.call hS rfl
  replace hC := hC.call hS rfl
  replace hT0 := blkb hT0 hS
  replace H := H.below hS
  replace HG := HG.below hS
  replace h1 := h1.below hS
  replace h2 := h2.below hS
  replace t10 := blkb t10 hS
  replace t12 := blkb t12 hS
  replace t18 := blkb t18 hS
  replace h3 := h3.below hS
  replace h4 := h4.below hS
  replace hr := hr.below hS
  clear hS hB37
  go_simp
  refine (c46 A1 A3 C1 C3 XA _ HXA.out h1 h3).mono ?_
  rintro e w39 ⟨rfl, hb⟩
  have hB39 := hB38.call hb rfl
  replace hC := hC.call hb rfl
  replace hT0 := blkb hT0 hb
  replace H := H.below hb
  replace HG := HG.below hb
  replace h1 := h1.below hb
  replace h2 := h2.below hb
  replace t10 := blkb t10 hb
  replace t12 := blkb t12 hb
  replace t18 := blkb t18 hb
  replace h3 := h3.below hb
  replace h4 := h4.below hb
  replace hr := hr.below hb
  clear hb hB38
  refine hK _ _ hC ?_
  clear hK K
  try simp only [Act.put, List.setIfInBounds_toArray, List.set_cons_zero, List.set_cons_succ]
  repeat (first | (refine wpPlanA_skip _ rfl (by rfl) ?_; simp only [Act.put, List.setIfInBounds_toArray, List.set_cons_zero, List.set_cons_succ]) | (refine wpPlanA_soft _ ?_ rfl (by rfl) ?_ ?_; rotate_left; (intro wq hq hcq; go_simp; first | exact rfl | exact ⟨rfl, rfl⟩); simp only [Act.put, List.setIfInBounds_toArray, List.set_cons_zero, List.set_cons_succ]))
  refine wpPlanA_hard _ rfl (by rfl) (fun w40 hS K hK => ?_)
  have hB40 := hB39.call hS rfl
  replace hC := hC.call hS rfl
  replace hT0 := blkb hT0 hS
  replace H := H.below hS
  replace HG := HG.below hS
  replace h1 := h1.below hS
  replace h2 := h2.below hS
  replace t10 := blkb t10 hS
  replace t12 := blkb t12 hS
  replace t18 := blkb t18 hS
  replace h3 := h3.below hS
  replace h4 := h4.below hS
  replace hr := hr.below hS
  clear hS hB39
  go_simp
  refine (c46 A2 A4 C2 C4 XR _ HXR.out h2 h4).mono ?_
  rintro e w41 ⟨rfl, hb⟩
  have hB41 := hB40.call hb rfl
  replace hC := hC.call hb rfl
  replace hT0 := blkb hT0 hb
  replace H := H.below hb
  replace HG := HG.below hb
  replace h1 := h1.below hb
  replace h2 := h2.below hb
  replace t10 := blkb t10 hb
  replace t12 := blkb t12 hb
  replace t18 := blkb t18 hb
  replace h3 := h3.below hb
  replace h4 := h4.below hb
  replace hr := hr.below hb
  clear hb hB40
  refine hK _ _ hC ?_
  clear hK K
  try simp only [Act.put, List.setIfInBounds_toArray, List.set_cons_zero, List.set_cons_succ]
  repeat (first | (refine wpPlanA_skip _ rfl (by rfl) ?_; simp only [Act.put, List.setIfInBounds_toArray, List.set_cons_zero, List.set_cons_succ]) | (refine wpPlanA_soft _ ?_ rfl (by rfl) ?_ ?_; rotate_left; (intro wq hq hcq; go_simp; first | exact rfl | exact ⟨rfl, rfl⟩); simp only [Act.put, List.setIfInBounds_toArray, List.set_cons_zero, List.set_cons_succ]))
  refine wpPlanA_hard _ rfl (by rfl) (fun w42 hS K hK => ?_)
  have hB42 := hB41.call hS rfl
  replace hC := hC.call hS rfl
  replace hT0 := blkb hT0 hS
  replace H := H.below hS
  replace HG := HG.below hS
  replace h1 := h1.below hS
  replace h2 := h2.below hS
  replace t10 := blkb t10 hS
  replace t12 := blkb t12 hS
  replace t18 := blkb t18 hS
  replace h3 := h3.below hS
  replace h4 := h4.below hS
  replace hr := hr.below hS
  clear hS hB41
  go_simp
  refine (c15 _).mono ?_
  rintro e w43 ⟨rfl, hb⟩
  have hB43 := hB42.call hb rfl
  replace hC := hC.call hb rfl
  replace hT0 := blkb hT0 hb
  replace H := H.below hb
  replace HG := HG.below hb
  replace h1 := h1.below hb
  replace h2 := h2.below hb
  replace t10 := blkb t10 hb
  replace t12 := blkb t12 hb
  replace t18 := blkb t18 hb
  replace h3 := h3.below hb
  replace h4 := h4.below hb
  replace hr := hr.below hb
  clear hb hB42
  refine hK _ _ hC ?_
  clear hK K
  try simp only [Act.put, List.setIfInBounds_toArray, List.set_cons_zero, List.set_cons_succ]
  repeat (first | (refine wpPlanA_skip _ rfl (by rfl) ?_; simp only [Act.put, List.setIfInBounds_toArray, List.set_cons_zero, List.set_cons_succ]) | (refine wpPlanA_soft _ ?_ rfl (by rfl) ?_ ?_; rotate_left; (intro wq hq hcq; go_simp; first | exact rfl | exact ⟨rfl, rfl⟩); simp only [Act.put, List.setIfInBounds_toArray, List.set_cons_zero, List.set_cons_succ]))
  clear qhT0_0 qhT0_1 qhT0_2 qhT0_3 qhT0_4 qhT0_5 qhT0_6 qhT0_7 qhT0_8 qt10_0 qt10_1 qt10_2 qt10_3 qt10_4 qt10_5 qt10_6 qt10_7 qt12_0 qt12_1 qt12_2 qt12_3 qt12_4 qt12_5 qt12_6 qt12_7 qt18_0 qt18_1 qt18_2 qt18_3 qt18_4 qt18_5 qt18_6 qt18_7
  refine wpPlanA_nil (fun w44 hS => ?_)
  clear hC zhT0 zt10 zt12 zt18
  have hB44 := hB43.call hS rfl
  replace hT0 := blkb hT0 hS
  replace H := H.below hS
  replace HG := HG.below hS
  replace h1 := h1.below hS
  replace h2 := h2.below hS
  replace t10 := blkb t10 hS
  replace t12 := blkb t12 hS
  replace t18 := blkb t18 hS
  replace h3 := h3.below hS
  replace h4 := h4.below hS
  replace hr := hr.below hS
  clear hS hB43
  have qhT0_0 : w44.cell? ⟨w.heap.size, 0, none⟩ = some (.int .i64 (c.r 0)) := cell_at hT0 rfl
  have qhT0_1 : w44.cell? ⟨w.heap.size, 1, none⟩ = some (.int .i64 (c.r 1)) := cell_at hT0 rfl
  have qhT0_2 : w44.cell? ⟨w.heap.size, 2, none⟩ = some (.int .i64 (c.r 2)) := cell_at hT0 rfl
  have qhT0_3 : w44.cell? ⟨w.heap.size, 3, none⟩ = some (.int .i64 (c.r 3)) := cell_at hT0 rfl
  have qhT0_4 : w44.cell? ⟨w.heap.size, 4, none⟩ = some (.int .i64 (c.r 4)) := cell_at hT0 rfl
  have qhT0_5 : w44.cell? ⟨w.heap.size, 5, none⟩ = some (.int .i64 (c.r 5)) := cell_at hT0 rfl
  have qhT0_6 : w44.cell? ⟨w.heap.size, 6, none⟩ = some (.int .i64 c.free) := cell_at hT0 rfl
  have qhT0_7 : w44.cell? ⟨w.heap.size, 7, none⟩ = some (.int .i64 c.bonus) := cell_at hT0 rfl
  have qhT0_8 : w44.cell? ⟨w.heap.size, 8, none⟩ = some (.int .i64 c.pen) := cell_at hT0 rfl
  have qt10_0 : w44.cell? ⟨bt10, 0, none⟩ = some (.int .i64 0) := cell_at t10 rfl
  have qt10_1 : w44.cell? ⟨bt10, 1, none⟩ = some (.int .i64 0) := cell_at t10 rfl
  have qt10_2 : w44.cell? ⟨bt10, 2, none⟩ = some (.int .i64 0) := cell_at t10 rfl
  have qt10_3 : w44.cell? ⟨bt10, 3, none⟩ = some (.int .i64 0) := cell_at t10 rfl
  have qt10_4 : w44.cell? ⟨bt10, 4, none⟩ = some (.int .i64 0) := cell_at t10 rfl
  have qt10_5 : w44.cell? ⟨bt10, 5, none⟩ = some (.int .i64 0) := cell_at t10 rfl
  have qt10_6 : w44.cell? ⟨bt10, 6, none⟩ = some (.int .i64 0) := cell_at t10 rfl
  have qt10_7 : w44.cell? ⟨bt10, 7, none⟩ = some (.int .i64 0) := cell_at t10 rfl
  have qt12_0 : w44.cell? ⟨bt12, 0, none⟩ = some (.int .i64 0) := cell_at t12 rfl
  have qt12_1 : w44.cell? ⟨bt12, 1, none⟩ = some (.int .i64 0) := cell_at t12 rfl
  have qt12_2 : w44.cell? ⟨bt12, 2, none⟩ = some (.int .i64 0) := cell_at t12 rfl
  have qt12_3 : w44.cell? ⟨bt12, 3, none⟩ = some (.int .i64 0) := cell_at t12 rfl
  have qt12_4 : w44.cell? ⟨bt12, 4, none⟩ = some (.int .i64 0) := cell_at t12 rfl
  have qt12_5 : w44.cell? ⟨bt12, 5, none⟩ = some (.int .i64 0) := cell_at t12 rfl
  have qt12_6 : w44.cell? ⟨bt12, 6, none⟩ = some (.int .i64 0) := cell_at t12 rfl
  have qt12_7 : w44.cell? ⟨bt12, 7, none⟩ = some (.int .i64 0) := cell_at t12 rfl
  have qt18_0 : w44.cell? ⟨bt18, 0, none⟩ = some (.int .i64 0) := cell_at t18 rfl
  have qt18_1 : w44.cell? ⟨bt18, 1, none⟩ = some (.int .i64 0) := cell_at t18 rfl
  have qt18_2 : w44.cell? ⟨bt18, 2, none⟩ = some (.int .i64 0) := cell_at t18 rfl
  have qt18_3 : w44.cell? ⟨bt18, 3, none⟩ = some (.int .i64 0) := cell_at t18 rfl
  have qt18_4 : w44.cell? ⟨bt18, 4, none⟩ = some (.int .i64 0) := cell_at t18 rfl
  have qt18_5 : w44.cell? ⟨bt18, 5, none⟩ = some (.int .i64 0) := cell_at t18 rfl
  have qt18_6 : w44.cell? ⟨bt18, 6, none⟩ = some (.int .i64 0) := cell_at t18 rfl
  have qt18_7 : w44.cell? ⟨bt18, 7, none⟩ = some (.int .i64 0) := cell_at t18 rfl
  go_wp2
  go_ret
  exact ⟨rfl, hB44⟩

theorem l11_bad (c : Con) (A : Option Addr) (cap : Nat) (l : List Ent) (G : Option Addr) (gcap : Nat) (rs : List Res) (w : World) (hl0 : l.length ≤ 9223372036854775807) (hg0 : rs.length ≤ 9223372036854775807) (H : RdL w 3 Ent.enc A l) (HG : RdL w 3 Res.enc G rs) (h3 : Mo.bill c l rs ≠ 0) (h2 : Mo.results rs ≠ 0) :
    Calls Tryz.prog 11 #[.agg #[.int .i64 (c.r 0), .int .i64 (c.r 1), .int .i64 (c.r 2), .int .i64 (c.r 3), .int .i64 (c.r 4), .int .i64 (c.r 5), .int .i64 c.free, .int .i64 c.bonus, .int .i64 c.pen], .slice A l.length cap, .slice G rs.length gcap] w fun en w' => en = .returned (.bool true) ∧ Below w.heap.size w w' := by
  obtain ⟨N, hN⟩ : ∃ N, N = l.length := ⟨_, rfl⟩
  obtain ⟨M, hM⟩ : ∃ M, M = rs.length := ⟨_, rfl⟩
  obtain ⟨V, hV⟩ : ∃ V, V = Mo.billV c l rs := ⟨_, rfl⟩
  obtain ⟨XA, hXA⟩ : ∃ X, X = (Mo.accP rs).1 := ⟨_, rfl⟩
  obtain ⟨XR, hXR⟩ : ∃ X, X = (Mo.accP rs).2 := ⟨_, rfl⟩
  obtain ⟨E2, hE2⟩ : ∃ E, E = Mo.results rs := ⟨_, rfl⟩
  obtain ⟨E3, hE3⟩ : ∃ E, E = Mo.bill c l rs := ⟨_, rfl⟩
  have h51 := fun w1 (H1 : RdS w1 3 A l.length (l.flatMap Ent.enc)) => c51w A cap l w1 hl0 H1
  have h64 := fun w1 (H1 : RdS w1 3 G rs.length (rs.flatMap Res.enc)) => c64w G gcap rs w1 hg0 H1
  have h63 := fun w1 (h : l.length ≤ 1000000) (H1 : RdS w1 3 A l.length (l.flatMap Ent.enc)) => c63 A cap l w1 h H1
  have h53 := fun w1 (h : l.length ≤ 1000000) (H1 : RdS w1 3 A l.length (l.flatMap Ent.enc)) => c53o A cap l w1 h H1
  have h67 := fun w1 (h : rs.length ≤ 1000000) (H1 : RdS w1 3 G rs.length (rs.flatMap Res.enc)) => c67o G gcap rs w1 h H1
  have h69 := fun w1 G (gcap : Nat) (h : rs.length ≤ 1000000) hc1 hc2 hs (H1 : RdS w1 3 G rs.length (rs.flatMap Res.enc)) => c69 G gcap rs w1 h hc1 hc2 hs H1
  have h66 := fun w1 A (cap : Nat) G (gcap : Nat) (h : l.length ≤ 1000000) (h' : rs.length ≤ 1000000) hc1 hc2 hs hs' (H1 : RdS w1 3 A l.length (l.flatMap Ent.enc)) (H2 : RdS w1 3 G rs.length (rs.flatMap Res.enc)) => c66 c A cap l G gcap rs w1 h h' hc1 hc2 hs hs' H1 H2
  have h68 := fun w1 A (cap : Nat) G (gcap : Nat) (h : l.length ≤ 1000000) (h' : rs.length ≤ 1000000) hc1 hc2 hs hs' (H1 : RdS w1 3 A l.length (l.flatMap Ent.enc)) (H2 : RdS w1 3 G rs.length (rs.flatMap Res.enc)) hnw => c68 c A cap l G gcap rs w1 h h' hc1 hc2 hs hs' H1 H2 hnw
  have h70 := fun w1 (h : rs.length ≤ 1000000) hs (H1 : RdS w1 3 G rs.length (rs.flatMap Res.enc)) => c70 G gcap rs w1 h hs H1
  have h65 := fun w1 (h : l.length ≤ 1000000) (h' : rs.length ≤ 1000000) hs hs' (H1 : RdS w1 3 A l.length (l.flatMap Ent.enc)) (H2 : RdS w1 3 G rs.length (rs.flatMap Res.enc)) => c65 c A cap l G gcap rs w1 h h' hs hs' H1 H2
  have h71 := fun w1 (h : rs.length ≤ 1000000) (H1 : RdS w1 3 G rs.length (rs.flatMap Res.enc)) => c71 G gcap rs w1 h H1
  have h72 := fun w1 (H1 : RdS w1 3 A l.length (l.flatMap Ent.enc)) (H2 : RdS w1 3 G rs.length (rs.flatMap Res.enc)) hE => c72 c A cap l G gcap rs w1 H1 H2 hE
  have h75 := fun w1 G (gcap : Nat) (h : rs.length ≤ 1000000) hc1 hc2 hs (H1 : RdS w1 3 G rs.length (rs.flatMap Res.enc)) => c75 G gcap rs w1 h hc1 hc2 hs H1
  have h73 := c73 c
  have h74 := c74 c
  obtain ⟨E1, hE1⟩ : ∃ E, E = Mo.con c := ⟨_, rfl⟩
  rw [← hE1] at h73 h74
  rw [← hV, ← hE3] at h66 h68
  rw [← hXA, ← hXR, ← hE2] at h69
  rw [← hE2] at h70 h75
  rw [← hE3] at h65
  unfold Inv.arr at h66 h68 h72
  have hx : XA.length ≤ 1000000 ∨ True := Or.inr trivial
  have hxl : rs.length ≤ 65 → XA.length ≤ 65 ∧ XR.length ≤ 65 := by
    intro h
    rw [hXA, hXR]
    unfold Mo.accP
    split
    · simp
    · have h1 : (Mo.acc rs).length ≤ rs.length := by unfold Mo.acc; rw [List.length_map]; exact List.length_filter_le _ _
      have h2 : (Mo.rej rs).length ≤ rs.length := by unfold Mo.rej; rw [List.length_map]; exact List.length_filter_le _ _
      simp only []
      omega
  have hxa0 : XA = [] := by rw [hXA]; unfold Mo.accP; rw [if_pos h2]
  have hxr0 : XR = [] := by rw [hXR]; unfold Mo.accP; rw [if_pos h2]
  rw [← hE2] at h2
  have hq2 : (E2 == 0) = false := by simpa using h2
  clear h71
  have hv0 : V = Mo.zeroI := by rw [hV]; unfold Mo.billV; rw [if_pos h3]
  rw [← hE3] at h3
  have hq3 : (E3 == 0) = false := by simpa using h3
  have E87 := eq87r ⟨fun _ => 0, 0, 0⟩
  rw [hv0] at h66 h68
  unfold Mo.zeroI at h66 h68
  clear h72 hv0
  replace H : RdS w 3 A l.length (l.flatMap Ent.enc) := H
  replace HG : RdS w 3 G rs.length (rs.flatMap Res.enc) := HG
  rw [← hN] at H h51 h63 h53 h66 h68 h65 ⊢
  rw [← hM] at HG h64 h67 h69 h66 h68 h70 h65 h75 hxl ⊢
  have HXL := Lib.hid hxl
  have HN := Lib.hid hN
  have HM0 := Lib.hid hM
  clear hx hxl hN hM hV hXA hXR hl0 hg0 hE2 h2 h3 hE1 hE3
  subst hxa0
  subst hxr0
  have H51 := Lib.hid h51
  have H64 := Lib.hid h64
  have H63 := Lib.hid h63
  have H53 := Lib.hid h53
  have H67 := Lib.hid h67
  have H69 := Lib.hid h69
  have H66 := Lib.hid h66
  have H68 := Lib.hid h68
  have H70 := Lib.hid h70
  have H65 := Lib.hid h65
  have H75 := Lib.hid h75
  have H73 := Lib.hid h73
  have H74 := Lib.hid h74
  clear h51 h64 h63 h53 h67 h69 h66 h68 h70 h65 h75 h73 h74
  go_enter Tryz.func11, Tryz.ntmps11
  obtain ⟨w0, hW⟩ : ∃ W, W = w.alloc (Obj.cells #[.int .i64 (c.r 0), .int .i64 (c.r 1), .int .i64 (c.r 2), .int .i64 (c.r 3), .int .i64 (c.r 4), .int .i64 (c.r 5), .int .i64 c.free, .int .i64 c.bonus, .int .i64 c.pen] 122) := ⟨_, rfl⟩
  have hT0 : w0.heap[w.heap.size]? = some (.cells #[.int .i64 (c.r 0), .int .i64 (c.r 1), .int .i64 (c.r 2), .int .i64 (c.r 3), .int .i64 (c.r 4), .int .i64 (c.r 5), .int .i64 c.free, .int .i64 c.bonus, .int .i64 c.pen] 122 (0, 0)) := by rw [hW]; exact heap_new (by simp)
  have hB0 : Below w.heap.size w w0 := by rw [hW]; exact ((Below.refl _ _).alloc (by first | omega | (simp <;> omega)) _)
  replace H := H.below hB0
  replace HG := HG.below hB0
  go_wp2_with fail
  rw [← hW]
  clear hW
  have qhT0_0 : w0.cell? ⟨w.heap.size, 0, none⟩ = some (.int .i64 (c.r 0)) := cell_at hT0 rfl
  have qhT0_1 : w0.cell? ⟨w.heap.size, 1, none⟩ = some (.int .i64 (c.r 1)) := cell_at hT0 rfl
  have qhT0_2 : w0.cell? ⟨w.heap.size, 2, none⟩ = some (.int .i64 (c.r 2)) := cell_at hT0 rfl
  have qhT0_3 : w0.cell? ⟨w.heap.size, 3, none⟩ = some (.int .i64 (c.r 3)) := cell_at hT0 rfl
  have qhT0_4 : w0.cell? ⟨w.heap.size, 4, none⟩ = some (.int .i64 (c.r 4)) := cell_at hT0 rfl
  have qhT0_5 : w0.cell? ⟨w.heap.size, 5, none⟩ = some (.int .i64 (c.r 5)) := cell_at hT0 rfl
  have qhT0_6 : w0.cell? ⟨w.heap.size, 6, none⟩ = some (.int .i64 c.free) := cell_at hT0 rfl
  have qhT0_7 : w0.cell? ⟨w.heap.size, 7, none⟩ = some (.int .i64 c.bonus) := cell_at hT0 rfl
  have qhT0_8 : w0.cell? ⟨w.heap.size, 8, none⟩ = some (.int .i64 c.pen) := cell_at hT0 rfl
  go_wp2_with fail
  refine (H51.out _ H).mono ?_
  rintro e w' ⟨⟨b, rfl, hb1⟩, rfl⟩
  clear H51
  cases b
  case false =>
    go_wp2_with fail
    refine (c15 _).mono ?_
    rintro e wz ⟨rfl, hz⟩
    go_wp2
    go_ret
    exact ⟨rfl, hB0.call hz rfl⟩
  obtain ⟨hl, hs⟩ := hb1 rfl
  clear hb1
  have HSZ : Hid (∀ e ∈ l, e.c.size ≤ 1000000) := Lib.hid (fun e he => by have := hs e he; omega)
  clear hs
  have HL : Hid (N ≤ 1000000) := Lib.hid (by omega)
  clear hl
  go_wp2_with fail
  refine (H63.out _ HL.out H).mono ?_
  rintro e w1 ⟨⟨b, rfl, hb2⟩, hb⟩
  clear qhT0_0 qhT0_1 qhT0_2 qhT0_3 qhT0_4 qhT0_5 qhT0_6 qhT0_7 qhT0_8
  have hS := hb
  have hB1 := hB0.call hS rfl
  replace hT0 := blkb hT0 hS
  replace H := H.below hS
  replace HG := HG.below hS
  clear hS hB0
  have qhT0_0 : w1.cell? ⟨w.heap.size, 0, none⟩ = some (.int .i64 (c.r 0)) := cell_at hT0 rfl
  have qhT0_1 : w1.cell? ⟨w.heap.size, 1, none⟩ = some (.int .i64 (c.r 1)) := cell_at hT0 rfl
  have qhT0_2 : w1.cell? ⟨w.heap.size, 2, none⟩ = some (.int .i64 (c.r 2)) := cell_at hT0 rfl
  have qhT0_3 : w1.cell? ⟨w.heap.size, 3, none⟩ = some (.int .i64 (c.r 3)) := cell_at hT0 rfl
  have qhT0_4 : w1.cell? ⟨w.heap.size, 4, none⟩ = some (.int .i64 (c.r 4)) := cell_at hT0 rfl
  have qhT0_5 : w1.cell? ⟨w.heap.size, 5, none⟩ = some (.int .i64 (c.r 5)) := cell_at hT0 rfl
  have qhT0_6 : w1.cell? ⟨w.heap.size, 6, none⟩ = some (.int .i64 c.free) := cell_at hT0 rfl
  have qhT0_7 : w1.cell? ⟨w.heap.size, 7, none⟩ = some (.int .i64 c.bonus) := cell_at hT0 rfl
  have qhT0_8 : w1.cell? ⟨w.heap.size, 8, none⟩ = some (.int .i64 c.pen) := cell_at hT0 rfl
  clear hb
  clear hb2
  cases b
  case false =>
    go_wp2_with fail
    refine (c15 _).mono ?_
    rintro e wz ⟨rfl, hz⟩
    go_wp2
    go_ret
    exact ⟨rfl, hB1.call hz rfl⟩
  go_wp2_with fail
  refine (H64.out _ HG).mono ?_
  rintro e w' ⟨⟨b, rfl, hb1⟩, rfl⟩
  clear H64 H63
  cases b
  case false =>
    go_wp2_with fail
    refine (c15 _).mono ?_
    rintro e wz ⟨rfl, hz⟩
    go_wp2
    go_ret
    exact ⟨rfl, hB1.call hz rfl⟩
  obtain ⟨hm, hs⟩ := hb1 rfl
  clear hb1
  have HRZ : Hid (∀ x ∈ rs, x.n.size ≤ 1000000) := Lib.hid (fun e he => by have := hs e he; omega)
  clear hs
  have HM : Hid (M ≤ 1000000) := Lib.hid (by omega)
  clear hm HXL
  go_wp2_with fail
  refine (H67.out _ HM.out HG).mono ?_
  rintro e w2 ⟨x, rfl, ho, hb⟩
  clear qhT0_0 qhT0_1 qhT0_2 qhT0_3 qhT0_4 qhT0_5 qhT0_6 qhT0_7 qhT0_8
  have hS := hb
  have hB2 := hB1.call hS rfl
  replace hT0 := blkb hT0 hS
  replace H := H.below hS
  replace HG := HG.below hS
  clear hS hB1
  have qhT0_0 : w2.cell? ⟨w.heap.size, 0, none⟩ = some (.int .i64 (c.r 0)) := cell_at hT0 rfl
  have qhT0_1 : w2.cell? ⟨w.heap.size, 1, none⟩ = some (.int .i64 (c.r 1)) := cell_at hT0 rfl
  have qhT0_2 : w2.cell? ⟨w.heap.size, 2, none⟩ = some (.int .i64 (c.r 2)) := cell_at hT0 rfl
  have qhT0_3 : w2.cell? ⟨w.heap.size, 3, none⟩ = some (.int .i64 (c.r 3)) := cell_at hT0 rfl
  have qhT0_4 : w2.cell? ⟨w.heap.size, 4, none⟩ = some (.int .i64 (c.r 4)) := cell_at hT0 rfl
  have qhT0_5 : w2.cell? ⟨w.heap.size, 5, none⟩ = some (.int .i64 (c.r 5)) := cell_at hT0 rfl
  have qhT0_6 : w2.cell? ⟨w.heap.size, 6, none⟩ = some (.int .i64 c.free) := cell_at hT0 rfl
  have qhT0_7 : w2.cell? ⟨w.heap.size, 7, none⟩ = some (.int .i64 c.bonus) := cell_at hT0 rfl
  have qhT0_8 : w2.cell? ⟨w.heap.size, 8, none⟩ = some (.int .i64 c.pen) := cell_at hT0 rfl
  clear hb
  obtain ⟨AR, CR, rfl, hr, hr1, hr2, hr3⟩ := own_form ho
  have HR1 := Lib.hid hr1
  have HR2 := Lib.hid hr2
  clear ho hr1 hr2 hr3
  go_wp2_with fail
  refine (H69.out _ AR CR HM.out HR1.out HR2.out HRZ.out hr).mono ?_
  rintro e w3 ⟨_, _, rfl, ⟨A1, C1, rfl, h1⟩, ⟨A2, C2, rfl, h2⟩, hb⟩
  clear qhT0_0 qhT0_1 qhT0_2 qhT0_3 qhT0_4 qhT0_5 qhT0_6 qhT0_7 qhT0_8
  have hS := hb
  have hB3 := hB2.call hS rfl
  replace hT0 := blkb hT0 hS
  replace H := H.below hS
  replace HG := HG.below hS
  replace hr := hr.below hS
  clear hS hB2
  have qhT0_0 : w3.cell? ⟨w.heap.size, 0, none⟩ = some (.int .i64 (c.r 0)) := cell_at hT0 rfl
  have qhT0_1 : w3.cell? ⟨w.heap.size, 1, none⟩ = some (.int .i64 (c.r 1)) := cell_at hT0 rfl
  have qhT0_2 : w3.cell? ⟨w.heap.size, 2, none⟩ = some (.int .i64 (c.r 2)) := cell_at hT0 rfl
  have qhT0_3 : w3.cell? ⟨w.heap.size, 3, none⟩ = some (.int .i64 (c.r 3)) := cell_at hT0 rfl
  have qhT0_4 : w3.cell? ⟨w.heap.size, 4, none⟩ = some (.int .i64 (c.r 4)) := cell_at hT0 rfl
  have qhT0_5 : w3.cell? ⟨w.heap.size, 5, none⟩ = some (.int .i64 (c.r 5)) := cell_at hT0 rfl
  have qhT0_6 : w3.cell? ⟨w.heap.size, 6, none⟩ = some (.int .i64 c.free) := cell_at hT0 rfl
  have qhT0_7 : w3.cell? ⟨w.heap.size, 7, none⟩ = some (.int .i64 c.bonus) := cell_at hT0 rfl
  have qhT0_8 : w3.cell? ⟨w.heap.size, 8, none⟩ = some (.int .i64 c.pen) := cell_at hT0 rfl
  clear hb
  clear hr
  clear HR1 HR2
  go_wp2
  refine wp_region_planF (Φ := Fresh w3.heap.size #[.int .i64 0, .int .i64 0, .int .i64 0, .int .i64 0, .int .i64 0, .int .i64 0, .int .i64 0, .int .i64 0] 91) [(0, 1), (1, 1), (3, 1), (2, 0), (4, 0), (5, 0), (6, 1), (7, 1), (8, 1), (9, 2), (10, 3), (11, 1)] 9 w3.heap.size _ rfl (by kernel_rfl) (by kernel_rfl) (Nat.le_refl _) (fun _ _ d _ _ h => by cases d <;> exact h) (fun _ _ d _ _ h => by cases d <;> exact h) (fun v w w' hv hb => hv.below hb) ?hF ?_
  case hF =>
    intro a wq hq
    refine ⟨rfl, ?_⟩
    have hsz := hq.size
    go_simp
    exact ⟨_, rfl, ⟨_, rfl, hsz, heap_new rfl⟩, (Below.refl _ _).alloc (Nat.le_refl _) _⟩
  have hC : Below w3.heap.size w3 w3 := Below.refl _ _
  have hBr := hB3
  have zhT0 : w.heap.size < w3.heap.size := (Array.getElem?_eq_some_iff.1 hT0).1
  have hT00 := hT0
  have H0 := H
  have HG0 := HG
  have h10 := h1
  have h20 := h2
  repeat (first | (refine wpPlanFA_skip _ rfl (by rfl) ?_; simp only [Act.put, List.setIfInBounds_toArray, List.set_cons_zero, List.set_cons_succ]) | (refine wpPlanFA_soft _ ?_ rfl (by rfl) ?_ ?_; rotate_left; (intro wq hq hcq; go_simp; first | exact rfl | exact ⟨rfl, rfl⟩); simp only [Act.put, List.setIfInBounds_toArray, List.set_cons_zero, List.set_cons_succ]))
  refine wpPlanFA_hard _ rfl (by rfl) (fun w4 hS K hK => ?_)
  have hB4 := hB3.call hS rfl
  replace hC := hC.call hS rfl
  replace hT0 := blkb hT0 hS
  replace H := H.below hS
  replace HG := HG.below hS
  replace h1 := h1.below hS
  replace h2 := h2.below hS
  clear hS hB3
  go_simp
  refine (H53.out _ HL.out H).mono ?_
  rintro e w5 ⟨x, rfl, ho, hb⟩
  have hB5 := hB4.call hb rfl
  replace hC := hC.call hb rfl
  replace hT0 := blkb hT0 hb
  replace H := H.below hb
  replace HG := HG.below hb
  replace h1 := h1.below hb
  replace h2 := h2.below hb
  obtain ⟨AE, CE, rfl, he, _, _, he3⟩ := own_form ho
  have HE3 := Lib.hid he3
  clear ho he3
  have hse : Below w5.heap.size w5 w5 := Below.refl _ _
  refine hK _ _ hC hb ?_
  clear hK K hb hB4
  try simp only [Act.put, List.setIfInBounds_toArray, List.set_cons_zero, List.set_cons_succ]
  refine wpPlanFA_hard _ rfl (by rfl) (fun w6 hS K hK => ?_)
  have hB6 := hB5.call hS rfl
  replace hC := hC.call hS rfl
  replace hT0 := blkb hT0 hS
  replace H := H.below hS
  replace HG := HG.below hS
  replace h1 := h1.below hS
  replace h2 := h2.below hS
  replace he := he.below hS
  replace hse := hse.call hS rfl
  clear hS hB5
  go_simp
  refine (H67.out _ HM.out HG).mono ?_
  rintro e w7 ⟨x, rfl, ho, hb⟩
  have hB7 := hB6.call hb rfl
  replace hC := hC.call hb rfl
  replace hT0 := blkb hT0 hb
  replace H := H.below hb
  replace HG := HG.below hb
  replace h1 := h1.below hb
  replace h2 := h2.below hb
  replace he := he.below hb
  replace hse := hse.call hb rfl
  obtain ⟨AR, CR, rfl, hr, hr1, hr2, hr3⟩ := own_form ho
  have HR1 := Lib.hid hr1
  have HR2 := Lib.hid hr2
  clear ho hr1 hr2 hr3
  refine hK _ _ hC hb ?_
  clear hK K hb hB6
  try simp only [Act.put, List.setIfInBounds_toArray, List.set_cons_zero, List.set_cons_succ]
  refine wpPlanFA_hard _ rfl (by rfl) (fun w8 hS K hK => ?_)
  have hB8 := hB7.call hS rfl
  replace hC := hC.call hS rfl
  replace hT0 := blkb hT0 hS
  replace H := H.below hS
  replace HG := HG.below hS
  replace h1 := h1.below hS
  replace h2 := h2.below hS
  replace he := he.below hS
  replace hse := hse.call hS rfl
  replace hr := hr.below hS
  clear hS hB7
  go_simp
  refine (H66.out _ AE CE AR CR HL.out HM.out HR1.out HR2.out HSZ.out HRZ.out he hr).mono ?_
  rintro e w9 ⟨rfl, hb⟩
  have hB9 := hB8.call hb rfl
  replace hC := hC.call hb rfl
  replace hT0 := blkb hT0 hb
  replace H := H.below hb
  replace HG := HG.below hb
  replace h1 := h1.below hb
  replace h2 := h2.below hb
  replace he := he.below hb
  replace hse := hse.call hb rfl
  replace hr := hr.below hb
  refine hK _ _ hC hb ?_
  clear hK K hb hB8
  try simp only [Act.put, List.setIfInBounds_toArray, List.set_cons_zero, List.set_cons_succ]
  repeat (first | (refine wpPlanFA_skip _ rfl (by rfl) ?_; simp only [Act.put, List.setIfInBounds_toArray, List.set_cons_zero, List.set_cons_succ]) | (refine wpPlanFA_soft _ ?_ rfl (by rfl) ?_ ?_; rotate_left; (intro wq hq hcq; go_simp; first | exact rfl | exact ⟨rfl, rfl⟩); simp only [Act.put, List.setIfInBounds_toArray, List.set_cons_zero, List.set_cons_succ]))
  refine wpPlanFA_float _ rfl (fun v w10 hS hv => ?_)
  obtain ⟨bt10, rfl, hge, t10⟩ := hv
  have hB10 := hB9.call hS rfl
  replace hC := hC.call hS rfl
  replace hT0 := blkb hT0 hS
  replace H := H.below hS
  replace HG := HG.below hS
  replace h1 := h1.below hS
  replace h2 := h2.below hS
  replace he := he.below hS
  replace hse := hse.call hS rfl
  replace hr := hr.below hS
  clear hS hB9
  try simp only [Act.put, List.setIfInBounds_toArray, List.set_cons_zero, List.set_cons_succ]
  repeat (first | (refine wpPlanFA_skip _ rfl (by rfl) ?_; simp only [Act.put, List.setIfInBounds_toArray, List.set_cons_zero, List.set_cons_succ]) | (refine wpPlanFA_soft _ ?_ rfl (by rfl) ?_ ?_; rotate_left; (intro wq hq hcq; go_simp; first | exact rfl | exact ⟨rfl, rfl⟩); simp only [Act.put, List.setIfInBounds_toArray, List.set_cons_zero, List.set_cons_succ]))
  refine wpPlanFA_late _ rfl (by rfl) (fun w11 hS K hK => ?_)
  replace hC := hC.call hS rfl
  replace t10 := blkb t10 hS
  clear hS hB10 hT0 H HG h1 h2 he hse hr
  refine wp_store_blk 91 _ _ rfl bt10 _ rfl rfl t10 ?s1 ?s2 ?s3 ?_
  case s1 => rfl
  case s2 => kernel_rfl
  case s3 => simp [Value.oneCell']
  intro w12 t10n hg3 hs3
  replace hC : Below w3.heap.size w3 w12 := hC.grown hg3 hC.size (fun j hj => by cases hj; exact hge)
  refine hK _ _ hC ?_
  clear hK K t10 hg3 hs3
  have t10 := t10n
  clear t10n
  have hB12 := hBr.call hC rfl
  have hT0 := blkb hT00 hC
  have H := H0.below hC
  have HG := HG0.below hC
  have h1 := h10.below hC
  have h2 := h20.below hC
  try simp only [Act.put, List.setIfInBounds_toArray, List.set_cons_zero, List.set_cons_succ]
  repeat (first | (refine wpPlanFA_skip _ rfl (by rfl) ?_; simp only [Act.put, List.setIfInBounds_toArray, List.set_cons_zero, List.set_cons_succ]) | (refine wpPlanFA_soft _ ?_ rfl (by rfl) ?_ ?_; rotate_left; (intro wq hq hcq; go_simp; first | exact rfl | exact ⟨rfl, rfl⟩); simp only [Act.put, List.setIfInBounds_toArray, List.set_cons_zero, List.set_cons_succ]))
  clear qhT0_0 qhT0_1 qhT0_2 qhT0_3 qhT0_4 qhT0_5 qhT0_6 qhT0_7 qhT0_8
  refine wpPlanFA_nil (fun w13 hS => ?_)
  clear hC hge hBr zhT0 hT00 H0 HG0 h10 h20
  have hB13 := hB12.call hS rfl
  replace hT0 := blkb hT0 hS
  replace H := H.below hS
  replace HG := HG.below hS
  replace h1 := h1.below hS
  replace h2 := h2.below hS
  replace t10 := blkb t10 hS
  clear hS hB12
  have qhT0_0 : w13.cell? ⟨w.heap.size, 0, none⟩ = some (.int .i64 (c.r 0)) := cell_at hT0 rfl
  have qhT0_1 : w13.cell? ⟨w.heap.size, 1, none⟩ = some (.int .i64 (c.r 1)) := cell_at hT0 rfl
  have qhT0_2 : w13.cell? ⟨w.heap.size, 2, none⟩ = some (.int .i64 (c.r 2)) := cell_at hT0 rfl
  have qhT0_3 : w13.cell? ⟨w.heap.size, 3, none⟩ = some (.int .i64 (c.r 3)) := cell_at hT0 rfl
  have qhT0_4 : w13.cell? ⟨w.heap.size, 4, none⟩ = some (.int .i64 (c.r 4)) := cell_at hT0 rfl
  have qhT0_5 : w13.cell? ⟨w.heap.size, 5, none⟩ = some (.int .i64 (c.r 5)) := cell_at hT0 rfl
  have qhT0_6 : w13.cell? ⟨w.heap.size, 6, none⟩ = some (.int .i64 c.free) := cell_at hT0 rfl
  have qhT0_7 : w13.cell? ⟨w.heap.size, 7, none⟩ = some (.int .i64 c.bonus) := cell_at hT0 rfl
  have qhT0_8 : w13.cell? ⟨w.heap.size, 8, none⟩ = some (.int .i64 c.pen) := cell_at hT0 rfl
  clear HE3 HR1 HR2
  go_wp2
  refine wp_region_planF (Φ := Fresh w13.heap.size #[.int .i64 0, .int .i64 0, .int .i64 0, .int .i64 0, .int .i64 0, .int .i64 0, .int .i64 0, .int .i64 0] 91) [(0, 1), (1, 1), (3, 1), (2, 0), (4, 0), (5, 0), (6, 1), (7, 1), (8, 1), (9, 2), (10, 3), (11, 1)] 9 w13.heap.size _ rfl (by kernel_rfl) (by kernel_rfl) (Nat.le_refl _) (fun _ _ d _ _ h => by cases d <;> exact h) (fun _ _ d _ _ h => by cases d <;> exact h) (fun v w w' hv hb => hv.below hb) ?hF ?_
  case hF =>
    intro a wq hq
    refine ⟨rfl, ?_⟩
    have hsz := hq.size
    go_simp
    exact ⟨_, rfl, ⟨_, rfl, hsz, heap_new rfl⟩, (Below.refl _ _).alloc (Nat.le_refl _) _⟩
  have hC : Below w13.heap.size w13 w13 := Below.refl _ _
  have hBr := hB13
  have zhT0 : w.heap.size < w13.heap.size := (Array.getElem?_eq_some_iff.1 hT0).1
  have hT00 := hT0
  have H0 := H
  have HG0 := HG
  have h10 := h1
  have h20 := h2
  have t100 := t10
  repeat (first | (refine wpPlanFA_skip _ rfl (by rfl) ?_; simp only [Act.put, List.setIfInBounds_toArray, List.set_cons_zero, List.set_cons_succ]) | (refine wpPlanFA_soft _ ?_ rfl (by rfl) ?_ ?_; rotate_left; (intro wq hq hcq; go_simp; first | exact rfl | exact ⟨rfl, rfl⟩); simp only [Act.put, List.setIfInBounds_toArray, List.set_cons_zero, List.set_cons_succ]))
  refine wpPlanFA_hard _ rfl (by rfl) (fun w14 hS K hK => ?_)
  have hB14 := hB13.call hS rfl
  replace hC := hC.call hS rfl
  replace hT0 := blkb hT0 hS
  replace H := H.below hS
  replace HG := HG.below hS
  replace h1 := h1.below hS
  replace h2 := h2.below hS
  replace t10 := blkb t10 hS
  clear hS hB13
  go_simp
  refine (H53.out _ HL.out H).mono ?_
  rintro e w15 ⟨x, rfl, ho, hb⟩
  have hB15 := hB14.call hb rfl
  replace hC := hC.call hb rfl
  replace hT0 := blkb hT0 hb
  replace H := H.below hb
  replace HG := HG.below hb
  replace h1 := h1.below hb
  replace h2 := h2.below hb
  replace t10 := blkb t10 hb
  obtain ⟨AE, CE, rfl, he, _, _, he3⟩ := own_form ho
  have HE3 := Lib.hid he3
  clear ho he3
  have hse : Below w15.heap.size w15 w15 := Below.refl _ _
  refine hK _ _ hC hb ?_
  clear hK K hb hB14
  try simp only [Act.put, List.setIfInBounds_toArray, List.set_cons_zero, List.set_cons_succ]
  refine wpPlanFA_hard _ rfl (by rfl) (fun w16 hS K hK => ?_)
  have hB16 := hB15.call hS rfl
  replace hC := hC.call hS rfl
  replace hT0 := blkb hT0 hS
  replace H := H.below hS
  replace HG := HG.below hS
  replace h1 := h1.below hS
  replace h2 := h2.below hS
  replace t10 := blkb t10 hS
  replace he := he.below hS
  replace hse := hse.call hS rfl
  clear hS hB15
  go_simp
  refine (H67.out _ HM.out HG).mono ?_
  rintro e w17 ⟨x, rfl, ho, hb⟩
  have hB17 := hB16.call hb rfl
  replace hC := hC.call hb rfl
  replace hT0 := blkb hT0 hb
  replace H := H.below hb
  replace HG := HG.below hb
  replace h1 := h1.below hb
  replace h2 := h2.below hb
  replace t10 := blkb t10 hb
  replace he := he.below hb
  replace hse := hse.call hb rfl
  obtain ⟨AR, CR, rfl, hr, hr1, hr2, hr3⟩ := own_form ho
  have HR1 := Lib.hid hr1
  have HR2 := Lib.hid hr2
  clear ho hr1 hr2 hr3
  refine hK _ _ hC hb ?_
  clear hK K hb hB16
  try simp only [Act.put, List.setIfInBounds_toArray, List.set_cons_zero, List.set_cons_succ]
  refine wpPlanFA_hard _ rfl (by rfl) (fun w18 hS K hK => ?_)
  have hB18 := hB17.call hS rfl
  replace hC := hC.call hS rfl
  replace hT0 := blkb hT0 hS
  replace H := H.below hS
  replace HG := HG.below hS
  replace h1 := h1.below hS
  replace h2 := h2.below hS
  replace t10 := blkb t10 hS
  replace he := he.below hS
  replace hse := hse.call hS rfl
  replace hr := hr.below hS
  clear hS hB17
  go_simp
  refine (H68.out _ AE CE AR CR HL.out HM.out HR1.out HR2.out HSZ.out HRZ.out he hr (fun b off h => Nat.lt_of_lt_of_le (HE3.out b off h) hse.size)).mono ?_
  rintro e w19 ⟨rfl, hb⟩
  have hB19 := hB18.call hb rfl
  replace hC := hC.call hb rfl
  replace hT0 := blkb hT0 hb
  replace H := H.below hb
  replace HG := HG.below hb
  replace h1 := h1.below hb
  replace h2 := h2.below hb
  replace t10 := blkb t10 hb
  replace he := he.below hb
  replace hse := hse.call hb rfl
  replace hr := hr.below hb
  refine hK _ _ hC hb ?_
  clear hK K hb hB18
  try simp only [Act.put, List.setIfInBounds_toArray, List.set_cons_zero, List.set_cons_succ]
  repeat (first | (refine wpPlanFA_skip _ rfl (by rfl) ?_; simp only [Act.put, List.setIfInBounds_toArray, List.set_cons_zero, List.set_cons_succ]) | (refine wpPlanFA_soft _ ?_ rfl (by rfl) ?_ ?_; rotate_left; (intro wq hq hcq; go_simp; first | exact rfl | exact ⟨rfl, rfl⟩); simp only [Act.put, List.setIfInBounds_toArray, List.set_cons_zero, List.set_cons_succ]))
  refine wpPlanFA_float _ rfl (fun v w20 hS hv => ?_)
  obtain ⟨bt12, rfl, hge, t12⟩ := hv
  have hB20 := hB19.call hS rfl
  replace hC := hC.call hS rfl
  replace hT0 := blkb hT0 hS
  replace H := H.below hS
  replace HG := HG.below hS
  replace h1 := h1.below hS
  replace h2 := h2.below hS
  replace t10 := blkb t10 hS
  replace he := he.below hS
  replace hse := hse.call hS rfl
  replace hr := hr.below hS
  clear hS hB19
  try simp only [Act.put, List.setIfInBounds_toArray, List.set_cons_zero, List.set_cons_succ]
  repeat (first | (refine wpPlanFA_skip _ rfl (by rfl) ?_; simp only [Act.put, List.setIfInBounds_toArray, List.set_cons_zero, List.set_cons_succ]) | (refine wpPlanFA_soft _ ?_ rfl (by rfl) ?_ ?_; rotate_left; (intro wq hq hcq; go_simp; first | exact rfl | exact ⟨rfl, rfl⟩); simp only [Act.put, List.setIfInBounds_toArray, List.set_cons_zero, List.set_cons_succ]))
  refine wpPlanFA_late _ rfl (by rfl) (fun w21 hS K hK => ?_)
  replace hC := hC.call hS rfl
  replace t12 := blkb t12 hS
  clear hS hB20 hT0 H HG h1 h2 t10 he hse hr
  refine wp_store_blk 91 _ _ rfl bt12 _ rfl rfl t12 ?s1 ?s2 ?s3 ?_
  case s1 => rfl
  case s2 => kernel_rfl
  case s3 => simp [Value.oneCell']
  intro w22 t12n hg3 hs3
  replace hC : Below w13.heap.size w13 w22 := hC.grown hg3 hC.size (fun j hj => by cases hj; exact hge)
  refine hK _ _ hC ?_
  clear hK K t12 hg3 hs3
  have t12 := t12n
  clear t12n
  have hB22 := hBr.call hC rfl
  have hT0 := blkb hT00 hC
  have H := H0.below hC
  have HG := HG0.below hC
  have h1 := h10.below hC
  have h2 := h20.below hC
  have t10 := blkb t100 hC
  try simp only [Act.put, List.setIfInBounds_toArray, List.set_cons_zero, List.set_cons_succ]
  repeat (first | (refine wpPlanFA_skip _ rfl (by rfl) ?_; simp only [Act.put, List.setIfInBounds_toArray, List.set_cons_zero, List.set_cons_succ]) | (refine wpPlanFA_soft _ ?_ rfl (by rfl) ?_ ?_; rotate_left; (intro wq hq hcq; go_simp; first | exact rfl | exact ⟨rfl, rfl⟩); simp only [Act.put, List.setIfInBounds_toArray, List.set_cons_zero, List.set_cons_succ]))
  clear qhT0_0 qhT0_1 qhT0_2 qhT0_3 qhT0_4 qhT0_5 qhT0_6 qhT0_7 qhT0_8
  refine wpPlanFA_nil (fun w23 hS => ?_)
  clear hC hge hBr zhT0 hT00 H0 HG0 h10 h20 t100
  have hB23 := hB22.call hS rfl
  replace hT0 := blkb hT0 hS
  replace H := H.below hS
  replace HG := HG.below hS
  replace h1 := h1.below hS
  replace h2 := h2.below hS
  replace t10 := blkb t10 hS
  replace t12 := blkb t12 hS
  clear hS hB22
  have qhT0_0 : w23.cell? ⟨w.heap.size, 0, none⟩ = some (.int .i64 (c.r 0)) := cell_at hT0 rfl
  have qhT0_1 : w23.cell? ⟨w.heap.size, 1, none⟩ = some (.int .i64 (c.r 1)) := cell_at hT0 rfl
  have qhT0_2 : w23.cell? ⟨w.heap.size, 2, none⟩ = some (.int .i64 (c.r 2)) := cell_at hT0 rfl
  have qhT0_3 : w23.cell? ⟨w.heap.size, 3, none⟩ = some (.int .i64 (c.r 3)) := cell_at hT0 rfl
  have qhT0_4 : w23.cell? ⟨w.heap.size, 4, none⟩ = some (.int .i64 (c.r 4)) := cell_at hT0 rfl
  have qhT0_5 : w23.cell? ⟨w.heap.size, 5, none⟩ = some (.int .i64 (c.r 5)) := cell_at hT0 rfl
  have qhT0_6 : w23.cell? ⟨w.heap.size, 6, none⟩ = some (.int .i64 c.free) := cell_at hT0 rfl
  have qhT0_7 : w23.cell? ⟨w.heap.size, 7, none⟩ = some (.int .i64 c.bonus) := cell_at hT0 rfl
  have qhT0_8 : w23.cell? ⟨w.heap.size, 8, none⟩ = some (.int .i64 c.pen) := cell_at hT0 rfl
  clear HE3 HR1 HR2
  go_wp2
  refine wp_region_plan [(0, true), (2, true), (3, true), (4, true), (1, false), (5, false), (6, true), (7, true)] w23.heap.size (by kernel_rfl) (by kernel_rfl) (Nat.le_refl _) (fun _ _ d _ _ h => by cases d <;> exact h) ?_
  have hC : Below w23.heap.size w23 w23 := Below.refl _ _
  have zhT0 : w.heap.size < w23.heap.size := (Array.getElem?_eq_some_iff.1 hT0).1
  repeat (first | (refine wpPlanA_skip _ rfl (by rfl) ?_; simp only [Act.put, List.setIfInBounds_toArray, List.set_cons_zero, List.set_cons_succ]) | (refine wpPlanA_soft _ ?_ rfl (by rfl) ?_ ?_; rotate_left; (intro wq hq hcq; go_simp; first | exact rfl | exact ⟨rfl, rfl⟩); simp only [Act.put, List.setIfInBounds_toArray, List.set_cons_zero, List.set_cons_succ]))
  refine wpPlanA_hard _ rfl (by rfl) (fun w24 hS K hK => ?_)
  have hB24 := hB23.call hS rfl
  replace hC := hC.call hS rfl
  replace hT0 := blkb hT0 hS
  replace H := H.below hS
  replace HG := HG.below hS
  replace h1 := h1.below hS
  replace h2 := h2.below hS
  replace t10 := blkb t10 hS
  replace t12 := blkb t12 hS
  clear hS hB23
  go_simp
  refine (H70.out _ HM.out HRZ.out HG).mono ?_
  rintro e w25 ⟨rfl, hb⟩
  have hB25 := hB24.call hb rfl
  replace hC := hC.call hb rfl
  replace hT0 := blkb hT0 hb
  replace H := H.below hb
  replace HG := HG.below hb
  replace h1 := h1.below hb
  replace h2 := h2.below hb
  replace t10 := blkb t10 hb
  replace t12 := blkb t12 hb
  clear hb hB24
  refine hK _ _ hC ?_
  clear hK K
  try simp only [Act.put, List.setIfInBounds_toArray, List.set_cons_zero, List.set_cons_succ]
  refine wpPlanA_hard _ rfl (by rfl) (fun w26 hS K hK => ?_)
  have hB26 := hB25.call hS rfl
  replace hC := hC.call hS rfl
  replace hT0 := blkb hT0 hS
  replace H := H.below hS
  replace HG := HG.below hS
  replace h1 := h1.below hS
  replace h2 := h2.below hS
  replace t10 := blkb t10 hS
  replace t12 := blkb t12 hS
  clear hS hB25
  go_simp
  refine (H65.out _ HL.out HM.out HSZ.out HRZ.out H HG).mono ?_
  rintro e w27 ⟨rfl, hb⟩
  have hB27 := hB26.call hb rfl
  replace hC := hC.call hb rfl
  replace hT0 := blkb hT0 hb
  replace H := H.below hb
  replace HG := HG.below hb
  replace h1 := h1.below hb
  replace h2 := h2.below hb
  replace t10 := blkb t10 hb
  replace t12 := blkb t12 hb
  clear hb hB26
  refine hK _ _ hC ?_
  clear hK K
  try simp only [Act.put, List.setIfInBounds_toArray, List.set_cons_zero, List.set_cons_succ]
  repeat (first | (refine wpPlanA_skip _ rfl (by rfl) ?_; simp only [Act.put, List.setIfInBounds_toArray, List.set_cons_zero, List.set_cons_succ]) | (refine wpPlanA_soft _ ?_ rfl (by rfl) ?_ ?_; rotate_left; (intro wq hq hcq; go_simp; first | exact rfl | exact ⟨rfl, rfl⟩); simp only [Act.put, List.setIfInBounds_toArray, List.set_cons_zero, List.set_cons_succ]))
  clear qhT0_0 qhT0_1 qhT0_2 qhT0_3 qhT0_4 qhT0_5 qhT0_6 qhT0_7 qhT0_8
  refine wpPlanA_nil (fun w28 hS => ?_)
  clear hC zhT0
  have hB28 := hB27.call hS rfl
  replace hT0 := blkb hT0 hS
  replace H := H.below hS
  replace HG := HG.below hS
  replace h1 := h1.below hS
  replace h2 := h2.below hS
  replace t10 := blkb t10 hS
  replace t12 := blkb t12 hS
  clear hS hB27
  have qhT0_0 : w28.cell? ⟨w.heap.size, 0, none⟩ = some (.int .i64 (c.r 0)) := cell_at hT0 rfl
  have qhT0_1 : w28.cell? ⟨w.heap.size, 1, none⟩ = some (.int .i64 (c.r 1)) := cell_at hT0 rfl
  have qhT0_2 : w28.cell? ⟨w.heap.size, 2, none⟩ = some (.int .i64 (c.r 2)) := cell_at hT0 rfl
  have qhT0_3 : w28.cell? ⟨w.heap.size, 3, none⟩ = some (.int .i64 (c.r 3)) := cell_at hT0 rfl
  have qhT0_4 : w28.cell? ⟨w.heap.size, 4, none⟩ = some (.int .i64 (c.r 4)) := cell_at hT0 rfl
  have qhT0_5 : w28.cell? ⟨w.heap.size, 5, none⟩ = some (.int .i64 (c.r 5)) := cell_at hT0 rfl
  have qhT0_6 : w28.cell? ⟨w.heap.size, 6, none⟩ = some (.int .i64 c.free) := cell_at hT0 rfl
  have qhT0_7 : w28.cell? ⟨w.heap.size, 7, none⟩ = some (.int .i64 c.bonus) := cell_at hT0 rfl
  have qhT0_8 : w28.cell? ⟨w.heap.size, 8, none⟩ = some (.int .i64 c.pen) := cell_at hT0 rfl
  have lt10 := (Array.getElem?_eq_some_iff.1 t10).1
  have lt12 := (Array.getElem?_eq_some_iff.1 t12).1
  have ltT := (Array.getElem?_eq_some_iff.1 hT0).1
  have hw18 := hB28.size
  go_wp2
  clear qhT0_0 qhT0_1 qhT0_2 qhT0_3 qhT0_4 qhT0_5 qhT0_6 qhT0_7 qhT0_8
  obtain ⟨w29, hWn⟩ : ∃ W, W = w28.alloc (Obj.cells #[.int .i64 0, .int .i64 0, .int .i64 0, .int .i64 0, .int .i64 0, .int .i64 0, .int .i64 0, .int .i64 0] 87) := ⟨_, rfl⟩
  have hSn : Below w28.heap.size w28 w29 := by rw [hWn]; exact (Below.refl _ _).alloc (Nat.le_refl _) _
  have t18 : w29.heap[w28.heap.size]? = some (Obj.cells #[.int .i64 0, .int .i64 0, .int .i64 0, .int .i64 0, .int .i64 0, .int .i64 0, .int .i64 0, .int .i64 0] 87) := by rw [hWn]; exact heap_new rfl
  rw [← hWn]
  clear hWn lt10 lt12 ltT hw18
  have hS := hSn
  have hB29 := hB28.call hS rfl
  replace hT0 := blkb hT0 hS
  replace H := H.below hS
  replace HG := HG.below hS
  replace h1 := h1.below hS
  replace h2 := h2.below hS
  replace t10 := blkb t10 hS
  replace t12 := blkb t12 hS
  clear hS hB28
  have qhT0_0 : w29.cell? ⟨w.heap.size, 0, none⟩ = some (.int .i64 (c.r 0)) := cell_at hT0 rfl
  have qhT0_1 : w29.cell? ⟨w.heap.size, 1, none⟩ = some (.int .i64 (c.r 1)) := cell_at hT0 rfl
  have qhT0_2 : w29.cell? ⟨w.heap.size, 2, none⟩ = some (.int .i64 (c.r 2)) := cell_at hT0 rfl
  have qhT0_3 : w29.cell? ⟨w.heap.size, 3, none⟩ = some (.int .i64 (c.r 3)) := cell_at hT0 rfl
  have qhT0_4 : w29.cell? ⟨w.heap.size, 4, none⟩ = some (.int .i64 (c.r 4)) := cell_at hT0 rfl
  have qhT0_5 : w29.cell? ⟨w.heap.size, 5, none⟩ = some (.int .i64 (c.r 5)) := cell_at hT0 rfl
  have qhT0_6 : w29.cell? ⟨w.heap.size, 6, none⟩ = some (.int .i64 c.free) := cell_at hT0 rfl
  have qhT0_7 : w29.cell? ⟨w.heap.size, 7, none⟩ = some (.int .i64 c.bonus) := cell_at hT0 rfl
  have qhT0_8 : w29.cell? ⟨w.heap.size, 8, none⟩ = some (.int .i64 c.pen) := cell_at hT0 rfl
  clear hSn
  obtain ⟨bt18, hbt18⟩ : ∃ b, b = w28.heap.size := ⟨_, rfl⟩
  rw [← hbt18] at t18 ⊢
  clear hbt18
  clear qhT0_0 qhT0_1 qhT0_2 qhT0_3 qhT0_4 qhT0_5 qhT0_6 qhT0_7 qhT0_8
  have qhT0_0 : w29.cell? ⟨w.heap.size, 0, none⟩ = some (.int .i64 (c.r 0)) := cell_at hT0 rfl
  have qhT0_1 : w29.cell? ⟨w.heap.size, 1, none⟩ = some (.int .i64 (c.r 1)) := cell_at hT0 rfl
  have qhT0_2 : w29.cell? ⟨w.heap.size, 2, none⟩ = some (.int .i64 (c.r 2)) := cell_at hT0 rfl
  have qhT0_3 : w29.cell? ⟨w.heap.size, 3, none⟩ = some (.int .i64 (c.r 3)) := cell_at hT0 rfl
  have qhT0_4 : w29.cell? ⟨w.heap.size, 4, none⟩ = some (.int .i64 (c.r 4)) := cell_at hT0 rfl
  have qhT0_5 : w29.cell? ⟨w.heap.size, 5, none⟩ = some (.int .i64 (c.r 5)) := cell_at hT0 rfl
  have qhT0_6 : w29.cell? ⟨w.heap.size, 6, none⟩ = some (.int .i64 c.free) := cell_at hT0 rfl
  have qhT0_7 : w29.cell? ⟨w.heap.size, 7, none⟩ = some (.int .i64 c.bonus) := cell_at hT0 rfl
  have qhT0_8 : w29.cell? ⟨w.heap.size, 8, none⟩ = some (.int .i64 c.pen) := cell_at hT0 rfl
  have qt10_0 : w29.cell? ⟨bt10, 0, none⟩ = some (.int .i64 0) := cell_at t10 rfl
  have qt10_1 : w29.cell? ⟨bt10, 1, none⟩ = some (.int .i64 0) := cell_at t10 rfl
  have qt10_2 : w29.cell? ⟨bt10, 2, none⟩ = some (.int .i64 0) := cell_at t10 rfl
  have qt10_3 : w29.cell? ⟨bt10, 3, none⟩ = some (.int .i64 0) := cell_at t10 rfl
  have qt10_4 : w29.cell? ⟨bt10, 4, none⟩ = some (.int .i64 0) := cell_at t10 rfl
  have qt10_5 : w29.cell? ⟨bt10, 5, none⟩ = some (.int .i64 0) := cell_at t10 rfl
  have qt10_6 : w29.cell? ⟨bt10, 6, none⟩ = some (.int .i64 0) := cell_at t10 rfl
  have qt10_7 : w29.cell? ⟨bt10, 7, none⟩ = some (.int .i64 0) := cell_at t10 rfl
  have qt12_0 : w29.cell? ⟨bt12, 0, none⟩ = some (.int .i64 0) := cell_at t12 rfl
  have qt12_1 : w29.cell? ⟨bt12, 1, none⟩ = some (.int .i64 0) := cell_at t12 rfl
  have qt12_2 : w29.cell? ⟨bt12, 2, none⟩ = some (.int .i64 0) := cell_at t12 rfl
  have qt12_3 : w29.cell? ⟨bt12, 3, none⟩ = some (.int .i64 0) := cell_at t12 rfl
  have qt12_4 : w29.cell? ⟨bt12, 4, none⟩ = some (.int .i64 0) := cell_at t12 rfl
  have qt12_5 : w29.cell? ⟨bt12, 5, none⟩ = some (.int .i64 0) := cell_at t12 rfl
  have qt12_6 : w29.cell? ⟨bt12, 6, none⟩ = some (.int .i64 0) := cell_at t12 rfl
  have qt12_7 : w29.cell? ⟨bt12, 7, none⟩ = some (.int .i64 0) := cell_at t12 rfl
  have qt18_0 : w29.cell? ⟨bt18, 0, none⟩ = some (.int .i64 0) := cell_at t18 rfl
  have qt18_1 : w29.cell? ⟨bt18, 1, none⟩ = some (.int .i64 0) := cell_at t18 rfl
  have qt18_2 : w29.cell? ⟨bt18, 2, none⟩ = some (.int .i64 0) := cell_at t18 rfl
  have qt18_3 : w29.cell? ⟨bt18, 3, none⟩ = some (.int .i64 0) := cell_at t18 rfl
  have qt18_4 : w29.cell? ⟨bt18, 4, none⟩ = some (.int .i64 0) := cell_at t18 rfl
  have qt18_5 : w29.cell? ⟨bt18, 5, none⟩ = some (.int .i64 0) := cell_at t18 rfl
  have qt18_6 : w29.cell? ⟨bt18, 6, none⟩ = some (.int .i64 0) := cell_at t18 rfl
  have qt18_7 : w29.cell? ⟨bt18, 7, none⟩ = some (.int .i64 0) := cell_at t18 rfl
  refine wp_region_plan [(0, true), (2, true), (1, false), (3, false), (4, true), (5, true), (6, true), (9, true), (7, false), (8, false), (10, true), (11, true), (12, true), (13, true), (14, true), (15, false), (16, true), (17, true), (18, true), (19, true), (20, false), (21, true), (22, true), (23, true), (24, true), (25, true), (26, true), (27, true), (28, true), (29, true), (30, true), (31, true), (32, true), (33, true), (34, true), (35, true), (36, true), (37, true), (38, true), (39, true), (40, true), (41, true), (42, true), (43, true), (44, true), (45, true), (46, true), (47, true), (48, false), (49, true), (50, true)] w29.heap.size (by kernel_rfl) (by kernel_rfl) (Nat.le_refl _) (fun _ _ d _ _ h => by cases d <;> exact h) ?_
  have hC : Below w29.heap.size w29 w29 := Below.refl _ _
  have zhT0 : w.heap.size < w29.heap.size := (Array.getElem?_eq_some_iff.1 hT0).1
  have zt10 : bt10 < w29.heap.size := (Array.getElem?_eq_some_iff.1 t10).1
  have zt12 : bt12 < w29.heap.size := (Array.getElem?_eq_some_iff.1 t12).1
  have zt18 : bt18 < w29.heap.size := (Array.getElem?_eq_some_iff.1 t18).1
  repeat (first | (refine wpPlanA_skip _ rfl (by rfl) ?_; simp only [Act.put, List.setIfInBounds_toArray, List.set_cons_zero, List.set_cons_succ]) | (refine wpPlanA_soft _ ?_ rfl (by rfl) ?_ ?_; rotate_left; (intro wq hq hcq; go_simp; first | exact rfl | exact ⟨rfl, rfl⟩); simp only [Act.put, List.setIfInBounds_toArray, List.set_cons_zero, List.set_cons_succ]))
  refine wpPlanA_hard _ rfl (by rfl) (fun w30 hS K hK => ?_)
  have hB30 := hB29.call hS rfl
  replace hC := hC.call hS rfl
  replace hT0 := blkb hT0 hS
  replace H := H.below hS
  replace HG := HG.below hS
  replace h1 := h1.below hS
  replace h2 := h2.below hS
  replace t10 := blkb t10 hS
  replace t12 := blkb t12 hS
  replace t18 := blkb t18 hS
  clear hS hB29
  go_simp
  refine (H73.out _).mono ?_
  rintro e w31 ⟨rfl, hb⟩
  have hB31 := hB30.call hb rfl
  replace hC := hC.call hb rfl
  replace hT0 := blkb hT0 hb
  replace H := H.below hb
  replace HG := HG.below hb
  replace h1 := h1.below hb
  replace h2 := h2.below hb
  replace t10 := blkb t10 hb
  replace t12 := blkb t12 hb
  replace t18 := blkb t18 hb
  clear hb hB30
  refine hK _ _ hC ?_
  clear hK K
  try simp only [Act.put, List.setIfInBounds_toArray, List.set_cons_zero, List.set_cons_succ]
  refine wpPlanA_hard _ rfl (by rfl) (fun w32 hS K hK => ?_)
  have hB32 := hB31.call hS rfl
  replace hC := hC.call hS rfl
  replace hT0 := blkb hT0 hS
  replace H := H.below hS
  replace HG := HG.below hS
  replace h1 := h1.below hS
  replace h2 := h2.below hS
  replace t10 := blkb t10 hS
  replace t12 := blkb t12 hS
  replace t18 := blkb t18 hS
  clear hS hB31
  go_simp
  refine (H74.out _).mono ?_
  rintro e w33 ⟨rfl, hb⟩
  have hB33 := hB32.call hb rfl
  replace hC := hC.call hb rfl
  replace hT0 := blkb hT0 hb
  replace H := H.below hb
  replace HG := HG.below hb
  replace h1 := h1.below hb
  replace h2 := h2.below hb
  replace t10 := blkb t10 hb
  replace t12 := blkb t12 hb
  replace t18 := blkb t18 hb
  clear hb hB32
  refine hK _ _ hC ?_
  clear hK K
  try simp only [Act.put, List.setIfInBounds_toArray, List.set_cons_zero, List.set_cons_succ]
  repeat (first | (refine wpPlanA_skip _ rfl (by rfl) ?_; simp only [Act.put, List.setIfInBounds_toArray, List.set_cons_zero, List.set_cons_succ]) | (refine wpPlanA_soft _ ?_ rfl (by rfl) ?_ ?_; rotate_left; (intro wq hq hcq; go_simp; first | exact rfl | exact ⟨rfl, rfl⟩); simp only [Act.put, List.setIfInBounds_toArray, List.set_cons_zero, List.set_cons_succ]))
  refine wpPlanA_hard _ rfl (by rfl) (fun w34 hS K hK => ?_)
  have hB34 := hB33.call hS rfl
  replace hC := hC.call hS rfl
  replace hT0 := blkb hT0 hS
  replace H := H.below hS
  replace HG := HG.below hS
  replace h1 := h1.below hS
  replace h2 := h2.below hS
  replace t10 := blkb t10 hS
  replace t12 := blkb t12 hS
  replace t18 := blkb t18 hS
  clear hS hB33
  go_simp
  refine (H67.out _ HM.out HG).mono ?_
  rintro e w35 ⟨x, rfl, ho, hb⟩
  have hB35 := hB34.call hb rfl
  replace hC := hC.call hb rfl
  replace hT0 := blkb hT0 hb
  replace H := H.below hb
  replace HG := HG.below hb
  replace h1 := h1.below hb
  replace h2 := h2.below hb
  replace t10 := blkb t10 hb
  replace t12 := blkb t12 hb
  replace t18 := blkb t18 hb
  clear hb hB34
  obtain ⟨AR, CR, rfl, hr, hr1, hr2, hr3⟩ := own_form ho
  have HR1 := Lib.hid hr1
  have HR2 := Lib.hid hr2
  clear ho hr1 hr2 hr3
  refine hK _ _ hC ?_
  clear hK K
  try simp only [Act.put, List.setIfInBounds_toArray, List.set_cons_zero, List.set_cons_succ]
  refine wpPlanA_hard _ rfl (by rfl) (fun w36 hS K hK => ?_)
  have hB36 := hB35.call hS rfl
  replace hC := hC.call hS rfl
  replace hT0 := blkb hT0 hS
  replace H := H.below hS
  replace HG := HG.below hS
  replace h1 := h1.below hS
  replace h2 := h2.below hS
  replace t10 := blkb t10 hS
  replace t12 := blkb t12 hS
  replace t18 := blkb t18 hS
  replace hr := hr.below hS
  clear hS hB35
  go_simp
  refine (H75.out _ AR CR HM.out HR1.out HR2.out HRZ.out hr).mono ?_
  rintro e w37 ⟨rfl, hb⟩
  have hB37 := hB36.call hb rfl
  replace hC := hC.call hb rfl
  replace hT0 := blkb hT0 hb
  replace H := H.below hb
  replace HG := HG.below hb
  replace h1 := h1.below hb
  replace h2 := h2.below hb
  replace t10 := blkb t10 hb
  replace t12 := blkb t12 hb
  replace t18 := blkb t18 hb
  replace hr := hr.below hb
  clear hb hB36
  refine hK _ _ hC ?_
  clear hK K
  try simp only [Act.put, List.setIfInBounds_toArray, List.set_cons_zero, List.set_cons_succ]
  repeat (first | (refine wpPlanA_skip _ rfl (by rfl) ?_; simp only [Act.put, List.setIfInBounds_toArray, List.set_cons_zero, List.set_cons_succ]) | (refine wpPlanA_soft _ ?_ rfl (by rfl) ?_ ?_; rotate_left; (intro wq hq hcq; go_simp; first | exact rfl | exact ⟨rfl, rfl⟩); simp only [Act.put, List.setIfInBounds_toArray, List.set_cons_zero, List.set_cons_succ]))
  refine wpPlanA_hard _ rfl (by rfl) (fun w38 hS K hK => ?_)
  have hB38 := hB37.call hS rfl
  replace hC := hC.call hS rfl
  replace hT0 := blkb hT0 hS
  replace H := H.below hS
  replace HG := HG.below hS
  replace h1 := h1.below hS
  replace h2 := h2.below hS
  replace t10 := blkb t10 hS
  replace t12 := blkb t12 hS
  replace t18 := blkb t18 hS
  replace hr := hr.below hS
  clear hS hB37
  go_simp
  refine (c46 A1 none C1 0 [] _ (by decide) h1 ⟨rfl, fun h => absurd h (by simp)⟩).mono ?_
  rintro e w39 ⟨rfl, hb⟩
  have hB39 := hB38.call hb rfl
  replace hC := hC.call hb rfl
  replace hT0 := blkb hT0 hb
  replace H := H.below hb
  replace HG := HG.below hb
  replace h1 := h1.below hb
  replace h2 := h2.below hb
  replace t10 := blkb t10 hb
  replace t12 := blkb t12 hb
  replace t18 := blkb t18 hb
  replace hr := hr.below hb
  clear hb hB38
  refine hK _ _ hC ?_
  clear hK K
  try simp only [Act.put, List.setIfInBounds_toArray, List.set_cons_zero, List.set_cons_succ]
  repeat (first | (refine wpPlanA_skip _ rfl (by rfl) ?_; simp only [Act.put, List.setIfInBounds_toArray, List.set_cons_zero, List.set_cons_succ]) | (refine wpPlanA_soft _ ?_ rfl (by rfl) ?_ ?_; rotate_left; (intro wq hq hcq; go_simp; first | exact rfl | exact ⟨rfl, rfl⟩); simp only [Act.put, List.setIfInBounds_toArray, List.set_cons_zero, List.set_cons_succ]))
  refine wpPlanA_hard _ rfl (by rfl) (fun w40 hS K hK => ?_)
  have hB40 := hB39.call hS rfl
  replace hC := hC.call hS rfl
  replace hT0 := blkb hT0 hS
  replace H := H.below hS
  replace HG := HG.below hS
  replace h1 := h1.below hS
  replace h2 := h2.below hS
  replace t10 := blkb t10 hS
  replace t12 := blkb t12 hS
  replace t18 := blkb t18 hS
  replace hr := hr.below hS
  clear hS hB39
  go_simp
  refine (c46 A2 none C2 0 [] _ (by decide) h2 ⟨rfl, fun h => absurd h (by simp)⟩).mono ?_
  rintro e w41 ⟨rfl, hb⟩
  have hB41 := hB40.call hb rfl
  replace hC := hC.call hb rfl
  replace hT0 := blkb hT0 hb
  replace H := H.below hb
  replace HG := HG.below hb
  replace h1 := h1.below hb
  replace h2 := h2.below hb
  replace t10 := blkb t10 hb
  replace t12 := blkb t12 hb
  replace t18 := blkb t18 hb
  replace hr := hr.below hb
  clear hb hB40
  refine hK _ _ hC ?_
  clear hK K
  try simp only [Act.put, List.setIfInBounds_toArray, List.set_cons_zero, List.set_cons_succ]
  repeat (first | (refine wpPlanA_skip _ rfl (by rfl) ?_; simp only [Act.put, List.setIfInBounds_toArray, List.set_cons_zero, List.set_cons_succ]) | (refine wpPlanA_soft _ ?_ rfl (by rfl) ?_ ?_; rotate_left; (intro wq hq hcq; go_simp; first | exact rfl | exact ⟨rfl, rfl⟩); simp only [Act.put, List.setIfInBounds_toArray, List.set_cons_zero, List.set_cons_succ]))
  refine wpPlanA_hard _ rfl (by rfl) (fun w42 hS K hK => ?_)
  have hB42 := hB41.call hS rfl
  replace hC := hC.call hS rfl
  replace hT0 := blkb hT0 hS
  replace H := H.below hS
  replace HG := HG.below hS
  replace h1 := h1.below hS
  replace h2 := h2.below hS
  replace t10 := blkb t10 hS
  replace t12 := blkb t12 hS
  replace t18 := blkb t18 hS
  replace hr := hr.below hS
  clear hS hB41
  go_simp
  refine (c15 _).mono ?_
  rintro e w43 ⟨rfl, hb⟩
  have hB43 := hB42.call hb rfl
  replace hC := hC.call hb rfl
  replace hT0 := blkb hT0 hb
  replace H := H.below hb
  replace HG := HG.below hb
  replace h1 := h1.below hb
  replace h2 := h2.below hb
  replace t10 := blkb t10 hb
  replace t12 := blkb t12 hb
  replace t18 := blkb t18 hb
  replace hr := hr.below hb
  clear hb hB42
  refine hK _ _ hC ?_
  clear hK K
  try simp only [Act.put, List.setIfInBounds_toArray, List.set_cons_zero, List.set_cons_succ]
  repeat (first | (refine wpPlanA_skip _ rfl (by rfl) ?_; simp only [Act.put, List.setIfInBounds_toArray, List.set_cons_zero, List.set_cons_succ]) | (refine wpPlanA_soft _ ?_ rfl (by rfl) ?_ ?_; rotate_left; (intro wq hq hcq; go_simp; first | exact rfl | exact ⟨rfl, rfl⟩); simp only [Act.put, List.setIfInBounds_toArray, List.set_cons_zero, List.set_cons_succ]))
  clear qhT0_0 qhT0_1 qhT0_2 qhT0_3 qhT0_4 qhT0_5 qhT0_6 qhT0_7 qhT0_8 qt10_0 qt10_1 qt10_2 qt10_3 qt10_4 qt10_5 qt10_6 qt10_7 qt12_0 qt12_1 qt12_2 qt12_3 qt12_4 qt12_5 qt12_6 qt12_7 qt18_0 qt18_1 qt18_2 qt18_3 qt18_4 qt18_5 qt18_6 qt18_7
  refine wpPlanA_nil (fun w44 hS => ?_)
  clear hC zhT0 zt10 zt12 zt18
  have hB44 := hB43.call hS rfl
  replace hT0 := blkb hT0 hS
  replace H := H.below hS
  replace HG := HG.below hS
  replace h1 := h1.below hS
  replace h2 := h2.below hS
  replace t10 := blkb t10 hS
  replace t12 := blkb t12 hS
  replace t18 := blkb t18 hS
  replace hr := hr.below hS
  clear hS hB43
  have qhT0_0 : w44.cell? ⟨w.heap.size, 0, none⟩ = some (.int .i64 (c.r 0)) := cell_at hT0 rfl
  have qhT0_1 : w44.cell? ⟨w.heap.size, 1, none⟩ = some (.int .i64 (c.r 1)) := cell_at hT0 rfl
  have qhT0_2 : w44.cell? ⟨w.heap.size, 2, none⟩ = some (.int .i64 (c.r 2)) := cell_at hT0 rfl
  have qhT0_3 : w44.cell? ⟨w.heap.size, 3, none⟩ = some (.int .i64 (c.r 3)) := cell_at hT0 rfl
  have qhT0_4 : w44.cell? ⟨w.heap.size, 4, none⟩ = some (.int .i64 (c.r 4)) := cell_at hT0 rfl
  have qhT0_5 : w44.cell? ⟨w.heap.size, 5, none⟩ = some (.int .i64 (c.r 5)) := cell_at hT0 rfl
  have qhT0_6 : w44.cell? ⟨w.heap.size, 6, none⟩ = some (.int .i64 c.free) := cell_at hT0 rfl
  have qhT0_7 : w44.cell? ⟨w.heap.size, 7, none⟩ = some (.int .i64 c.bonus) := cell_at hT0 rfl
  have qhT0_8 : w44.cell? ⟨w.heap.size, 8, none⟩ = some (.int .i64 c.pen) := cell_at hT0 rfl
  have qt10_0 : w44.cell? ⟨bt10, 0, none⟩ = some (.int .i64 0) := cell_at t10 rfl
  have qt10_1 : w44.cell? ⟨bt10, 1, none⟩ = some (.int .i64 0) := cell_at t10 rfl
  have qt10_2 : w44.cell? ⟨bt10, 2, none⟩ = some (.int .i64 0) := cell_at t10 rfl
  have qt10_3 : w44.cell? ⟨bt10, 3, none⟩ = some (.int .i64 0) := cell_at t10 rfl
  have qt10_4 : w44.cell? ⟨bt10, 4, none⟩ = some (.int .i64 0) := cell_at t10 rfl
  have qt10_5 : w44.cell? ⟨bt10, 5, none⟩ = some (.int .i64 0) := cell_at t10 rfl
  have qt10_6 : w44.cell? ⟨bt10, 6, none⟩ = some (.int .i64 0) := cell_at t10 rfl
  have qt10_7 : w44.cell? ⟨bt10, 7, none⟩ = some (.int .i64 0) := cell_at t10 rfl
  have qt12_0 : w44.cell? ⟨bt12, 0, none⟩ = some (.int .i64 0) := cell_at t12 rfl
  have qt12_1 : w44.cell? ⟨bt12, 1, none⟩ = some (.int .i64 0) := cell_at t12 rfl
  have qt12_2 : w44.cell? ⟨bt12, 2, none⟩ = some (.int .i64 0) := cell_at t12 rfl
  have qt12_3 : w44.cell? ⟨bt12, 3, none⟩ = some (.int .i64 0) := cell_at t12 rfl
  have qt12_4 : w44.cell? ⟨bt12, 4, none⟩ = some (.int .i64 0) := cell_at t12 rfl
  have qt12_5 : w44.cell? ⟨bt12, 5, none⟩ = some (.int .i64 0) := cell_at t12 rfl
  have qt12_6 : w44.cell? ⟨bt12, 6, none⟩ = some (.int .i64 0) := cell_at t12 rfl
  have qt12_7 : w44.cell? ⟨bt12, 7, none⟩ = some (.int .i64 0) := cell_at t12 rfl
  have qt18_0 : w44.cell? ⟨bt18, 0, none⟩ = some (.int .i64 0) := cell_at t18 rfl
  have qt18_1 : w44.cell? ⟨bt18, 1, none⟩ = some (.int .i64 0) := cell_at t18 rfl
  have qt18_2 : w44.cell? ⟨bt18, 2, none⟩ = some (.int .i64 0) := cell_at t18 rfl
  have qt18_3 : w44.cell? ⟨bt18, 3, none⟩ = some (.int .i64 0) := cell_at t18 rfl
  have qt18_4 : w44.cell? ⟨bt18, 4, none⟩ = some (.int .i64 0) := cell_at t18 rfl
  have qt18_5 : w44.cell? ⟨bt18, 5, none⟩ = some (.int .i64 0) := cell_at t18 rfl
  have qt18_6 : w44.cell? ⟨bt18, 6, none⟩ = some (.int .i64 0) := cell_at t18 rfl
  have qt18_7 : w44.cell? ⟨bt18, 7, none⟩ = some (.int .i64 0) := cell_at t18 rfl
  go_wp2
  go_ret
  exact ⟨rfl, hB44⟩

theorem l11 (c : Con) (A : Option Addr) (cap : Nat) (l : List Ent) (G : Option Addr) (gcap : Nat) (rs : List Res) (w : World) (hl0 : l.length ≤ 9223372036854775807) (hg0 : rs.length ≤ 9223372036854775807) (H : RdL w 3 Ent.enc A l) (HG : RdL w 3 Res.enc G rs) :
    Calls Tryz.prog 11 #[.agg #[.int .i64 (c.r 0), .int .i64 (c.r 1), .int .i64 (c.r 2), .int .i64 (c.r 3), .int .i64 (c.r 4), .int .i64 (c.r 5), .int .i64 c.free, .int .i64 c.bonus, .int .i64 c.pen], .slice A l.length cap, .slice G rs.length gcap] w fun en w' => en = .returned (.bool true) ∧ Below w.heap.size w w' := by
  by_cases h3 : Mo.bill c l rs = 0
  · exact l11_ok c A cap l G gcap rs w hl0 hg0 H HG h3 (Mo.bill_ok h3).2.2
  · by_cases h2 : Mo.results rs = 0
    · exact l11_mid c A cap l G gcap rs w hl0 hg0 H HG h3 h2
    · exact l11_bad c A cap l G gcap rs w hl0 hg0 H HG h3 h2

end Go.Proofs.YtndhjkammoeikaaGreatDoor
/- The arguments of chapter 9's laws on money, opened. -/
set_option maxHeartbeats 1000000
set_option maxRecDepth 100000
namespace Go.Proofs.YtndhjkammoeikaaGreatDoor
open Go.ChangeShapes Go.WideShapes Go.ChangeAt Go.RowKit
section
variable {H : Type} {enc : TypeId × Value → H} {W : World} {base : Nat} {v : Value} {d : DataW H} {p : List MemPlace}
theorem open_con (hv : Value.okWide Tryz.prog W .any base 122 v) (h : DataW.Trod enc Tryz.prog W 0 (fun _ => true) true 122 v d p) : ∃ c : Con, v = .agg #[.int .i64 (c.r 0), .int .i64 (c.r 1), .int .i64 (c.r 2), .int .i64 (c.r 3), .int .i64 (c.r 4), .int .i64 (c.r 5), .int .i64 c.free, .int .i64 c.bonus, .int .i64 c.pen] := by
  obtain ⟨cs, rfl, hc0⟩ := leaf_arg (ts := [3,3,3,3,3,3,3,3,3]) Tryz.underlying122 hv h (by kernel_rfl)
  obtain ⟨x0, r0, rfl, _, hc1⟩ := hc0.int Tryz.underlying3
  obtain ⟨x1, r1, rfl, _, hc2⟩ := hc1.int Tryz.underlying3
  obtain ⟨x2, r2, rfl, _, hc3⟩ := hc2.int Tryz.underlying3
  obtain ⟨x3, r3, rfl, _, hc4⟩ := hc3.int Tryz.underlying3
  obtain ⟨x4, r4, rfl, _, hc5⟩ := hc4.int Tryz.underlying3
  obtain ⟨x5, r5, rfl, _, hc6⟩ := hc5.int Tryz.underlying3
  obtain ⟨x6, r6, rfl, _, hc7⟩ := hc6.int Tryz.underlying3
  obtain ⟨x7, r7, rfl, _, hc8⟩ := hc7.int Tryz.underlying3
  obtain ⟨x8, r8, rfl, _, hc9⟩ := hc8.int Tryz.underlying3
  obtain rfl := hc9.nil
  exact ⟨⟨fun k => match k with | 0 => x0 | 1 => x1 | 2 => x2 | 3 => x3 | 4 => x4 | _ => x5, x6, x7, x8⟩, rfl⟩
theorem open_day (hv : Value.okWide Tryz.prog W .any base 125 v) (h : DataW.Trod enc Tryz.prog W 0 (fun _ => true) true 125 v d p) : ∃ (y : Ves) (x : Wat) (A : Option Addr) (cap : Nat) (l : List Sgt) (S : Option Addr) (scap : Nat) (sh : List Spn) (B : Option Addr) (bcap : Nat) (we : List Spn) (k : Int) (G : Option Addr) (gcap : Nat) (rs : List Res), v = .agg #[.int .i64 y.sx, .int .i64 y.sy, .int .i64 y.dx, .int .i64 y.dy, .int .i64 y.n, .int .i64 x.ring, .int .i64 x.speed, .int .i64 x.loss, .int .i64 x.clear, .int .i64 x.soft, .slice A l.length cap, .slice S sh.length scap, .slice B we.length bcap, .int .i64 k, .slice G rs.length gcap] ∧ (RdL W 3 Sgt.enc A l ∧ (A = none → cap = 0) ∧ l.length ≤ cap ∧ cap ≤ maxLen) ∧ (RdL W 2 Spn.enc S sh ∧ (S = none → scap = 0) ∧ sh.length ≤ scap ∧ scap ≤ maxLen) ∧ (RdL W 2 Spn.enc B we ∧ (B = none → bcap = 0) ∧ we.length ≤ bcap ∧ bcap ≤ maxLen) ∧ (RdL W 3 Res.enc G rs ∧ (G = none → gcap = 0) ∧ rs.length ≤ gcap ∧ gcap ≤ maxLen) := by
  obtain ⟨cs, rfl, hc0⟩ := leaf_arg (ts := [3,3,3,3,3,3,3,3,3,3,28,42,42,3,123]) Tryz.underlying125 hv h (by kernel_rfl)
  obtain ⟨x0, r0, rfl, _, hc1⟩ := hc0.int Tryz.underlying3
  obtain ⟨x1, r1, rfl, _, hc2⟩ := hc1.int Tryz.underlying3
  obtain ⟨x2, r2, rfl, _, hc3⟩ := hc2.int Tryz.underlying3
  obtain ⟨x3, r3, rfl, _, hc4⟩ := hc3.int Tryz.underlying3
  obtain ⟨x4, r4, rfl, _, hc5⟩ := hc4.int Tryz.underlying3
  obtain ⟨x5, r5, rfl, _, hc6⟩ := hc5.int Tryz.underlying3
  obtain ⟨x6, r6, rfl, _, hc7⟩ := hc6.int Tryz.underlying3
  obtain ⟨x7, r7, rfl, _, hc8⟩ := hc7.int Tryz.underlying3
  obtain ⟨x8, r8, rfl, _, hc9⟩ := hc8.int Tryz.underlying3
  obtain ⟨x9, r9, rfl, _, hc10⟩ := hc9.int Tryz.underlying3
  obtain ⟨c10, r10, rfl, ⟨_, _, hy10⟩, hc11⟩ := hc10.head
  obtain ⟨A10, cap10, l10, rfl, hr10⟩ := sl28 hy10
  obtain ⟨c11, r11, rfl, ⟨_, _, hy11⟩, hc12⟩ := hc11.head
  obtain ⟨A11, cap11, l11, rfl, hr11⟩ := sl42 hy11
  obtain ⟨c12, r12, rfl, ⟨_, _, hy12⟩, hc13⟩ := hc12.head
  obtain ⟨A12, cap12, l12, rfl, hr12⟩ := sl42 hy12
  obtain ⟨x13, r13, rfl, _, hc14⟩ := hc13.int Tryz.underlying3
  obtain ⟨c14, r14, rfl, ⟨_, _, hy14⟩, hc15⟩ := hc14.head
  obtain ⟨A14, cap14, l14, rfl, hr14⟩ := sl123 hy14
  obtain rfl := hc15.nil
  exact ⟨⟨x0, x1, x2, x3, x4⟩, ⟨x5, x6, x7, x8, x9⟩, A10, cap10, l10, A11, cap11, l11, A12, cap12, l12, x13, A14, cap14, l14, rfl, hr10, hr11, hr12, hr14⟩
end
end Go.Proofs.YtndhjkammoeikaaGreatDoor
