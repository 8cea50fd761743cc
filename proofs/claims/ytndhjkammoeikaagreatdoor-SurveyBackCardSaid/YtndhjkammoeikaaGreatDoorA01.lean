/- A part of the proofs about chapter 9: contracts of functions and plain laws (Split, Base, Model, W1, W2, W3, W4, W5, W6, Model2). -/
import Derived.Deep.QuietTactic
import Derived.BigQuiet
import Derived.Below
import Derived.WalkKit
import Derived.Sort.Grow
import Derived.WalkLawsBesides
import Derived.WalkSpells
import Derived.Outline
import Derived.KernelRfl
import Derived.RegionTactic
import Derived.Deep.RegionHeld3
import Derived.Deep.DeepCutAuto
import Derived.Lib.Hide
import Derived.Test.YtndhjkammoeikaaGreatDoorProg
set_option linter.all false
/- A region that draws its order: a front part that only reads and calls what reads or grows, every operation of which the rest waits for; then a rest that can come up in one order only. -/
namespace Go
section
variable {P : Program} {ops : Array Oper} {md : Region.Mode} {C : World → Prop}

/-- only front operations come up, till all of them have; then E. -/
def wpFront (P : Program) (md : Region.Mode) (ops : Array Oper) (C : World → Prop) (E : Array Bool → Act → Prop) : Nat → Array Bool → Act → Prop
  | 0, listed, a => E listed a
  | fuel + 1, listed, a => Region.ready md ops listed ≠ [] ∧ ∀ i ∈ Region.ready md ops listed, qOp P ops C i (wpFront P md ops C E fuel (listed.setIfInBounds i true)) a

theorem wpAny_of_front {E : Array Bool → Act → Prop} {Q' : Exit → Act → World → Prop} {r : Nat} (hE : ∀ listed a w, C w → E listed a → wpAny P md ops Q' r listed a w) : ∀ (fuel : Nat) (listed : Array Bool) (a : Act) (w : World), C w →
    wpFront P md ops C E fuel listed a → wpAny P md ops Q' (fuel + r) listed a w
  | 0, _, _, _, hw, h => by rw [Nat.zero_add]; exact hE _ _ _ hw h
  | fuel + 1, _, _, _, hw, h => by
    rw [Nat.add_right_comm]
    exact ⟨fun h0 => absurd h0 h.1, fun i hi => wpOp_of_qOp hw (fun a' w' hw' => wpAny_of_front hE fuel _ a' w' hw') (h.2 i hi)⟩

/-- The state of a front part of m operations: what is listed is closed downwards, lies in the front, and 'left' of the front are still to come. -/
structure Front (md : Region.Mode) (ops : Array Oper) (m : Nat) (left : Nat) (listed : Array Bool) : Prop where
  size : listed.size = ops.size
  down : ∀ i o, ops[i]? = some o → listed.getD i false = true → ∀ e ∈ o.after, Region.binds md e = true → listed.getD e.on false = true
  front : ∀ i, m ≤ i → listed.getD i false = false
  count : ((List.range m).filter fun i => !listed.getD i false).length = left

def Region.frontB (md : Region.Mode) (ops : Array Oper) (m : Nat) : Bool :=
  m ≤ ops.size &&
  ((List.range m).all fun j => (List.range (m + 1)).any fun h => j < h && h < ops.size && ((ops[h]?).map fun o => o.after.any fun e => Region.binds md e && e.on == j).getD false) &&
  ((List.range ops.size).all fun s => s ≤ m || ((ops[s]?).map fun o => o.after.any fun e => Region.binds md e && m ≤ e.on).getD true)

theorem getD_false_true {listed : Array Bool} {i : Nat} (hi : i < listed.size) : listed.getD i true = listed.getD i false := by
  simp [hi]

theorem Front.not_ready {m left : Nat} {listed : Array Bool} (hB : Region.frontB md ops m = true) (hf : Front md ops m (left + 1) listed) : ∀ i ∈ Region.ready md ops listed, i < m := by
  intro i hi
  simp only [Region.frontB, Bool.and_eq_true, decide_eq_true_eq, List.all_eq_true, List.mem_range, List.any_eq_true, Bool.or_eq_true] at hB
  obtain ⟨⟨hm, hA⟩, hS⟩ := hB
  rcases Nat.lt_or_ge i m with h | h
  · exact h
  exfalso
  obtain ⟨_, o, ho, hall⟩ := mem_ready.1 hi
  have him : i = m := by
    rcases hS i (Array.getElem?_eq_some_iff.1 ho).1 with h1 | h1
    · omega
    · rw [ho] at h1
      simp only [Option.map_some, Option.getD_some, Array.any_eq_true, Bool.and_eq_true, decide_eq_true_eq] at h1
      obtain ⟨q, hq, hb, hle⟩ := h1
      have h2 := hall _ (Array.getElem_mem hq) hb
      rw [hf.front _ hle] at h2
      cases h2
  subst him
  -- everything in the front is listed
  have key : ∀ d j, j < i → i - j ≤ d → listed.getD j false = true := by
    intro d
    induction d with
    | zero => intro j hj hd; omega
    | succ d ih =>
      intro j hj hd
      obtain ⟨h', hh', h3⟩ := hA j hj
      have ⟨⟨h4, h5⟩, h6⟩ := h3
      obtain ⟨oh, hoh⟩ : ∃ oh, ops[h']? = some oh := ⟨ops[h'], Array.getElem?_eq_getElem h5⟩
      rw [hoh] at h6
      simp only [Option.map_some, Option.getD_some, Array.any_eq_true, Bool.and_eq_true, beq_iff_eq] at h6
      obtain ⟨q, hq, hb, he⟩ := h6
      rcases Nat.lt_or_ge h' i with hlt | hge
      · have := hf.down h' oh hoh (ih h' hlt (by omega)) _ (Array.getElem_mem hq) hb
        rw [he] at this; exact this
      · have : h' = i := by omega
        subst this
        rw [ho] at hoh
        cases hoh
        have := hall _ (Array.getElem_mem hq) hb
        rw [he] at this; exact this
  have h0 : ((List.range i).filter fun j => !listed.getD j false) = [] := by
    rw [List.filter_eq_nil_iff]
    intro j hj
    rw [List.mem_range] at hj
    rw [key (i - j) j hj (Nat.le_refl _)]
    simp
  have hc := hf.count
  rw [h0] at hc
  simp at hc

theorem filter_len_set {m i : Nat} {listed : Array Bool} (hi : i < m) (hs : i < listed.size) (hu : listed.getD i false = false) :
    ((List.range m).filter fun j => !(listed.setIfInBounds i true).getD j false).length + 1 = ((List.range m).filter fun j => !listed.getD j false).length := by
  have key : ∀ n, ((List.range n).filter fun j => !(listed.setIfInBounds i true).getD j false).length + (if i < n then 1 else 0) = ((List.range n).filter fun j => !listed.getD j false).length := by
    intro n
    induction n with
    | zero => simp
    | succ n ih =>
      rw [List.range_succ, List.filter_append, List.filter_append, List.length_append, List.length_append]
      by_cases hin : i = n
      · subst hin
        have h1 : (listed.setIfInBounds i true).getD i false = true := by simp [hs]
        simp only [Nat.lt_irrefl, if_false, Nat.add_zero] at ih
        have h1' : (listed.setIfInBounds i true)[i]?.getD false = true := by simpa using h1
        have hu' : listed[i]?.getD false = false := by simpa using hu
        simp only [List.filter_cons, h1, hu, Bool.not_true, Bool.not_false, List.filter_nil, List.length_nil, List.length_cons, if_true, Bool.false_eq_true, if_false]
        rw [if_pos (show i < i + 1 by omega)]
        omega
      · have h2 : (listed.setIfInBounds i true).getD n false = listed.getD n false := getD_set_ne false hin
        simp only [List.filter_cons, h2, List.filter_nil]
        by_cases hlt : i < n
        · rw [if_pos hlt] at ih; rw [if_pos (show i < n + 1 by omega)]; omega
        · rw [if_neg hlt] at ih; rw [if_neg (show ¬ i < n + 1 by omega)]; omega
  have := key m
  rw [if_pos hi] at this
  exact this

theorem Front.step {m left i : Nat} {listed : Array Bool} (hf : Front md ops m (left + 1) listed) (hr : i ∈ Region.ready md ops listed) (hi : i < m) : Front md ops m left (listed.setIfInBounds i true) := by
  obtain ⟨hu, o, ho, hall⟩ := mem_ready.1 hr
  have hlt : i < ops.size := (Array.getElem?_eq_some_iff.1 ho).1
  have hs : i < listed.size := by rw [hf.size]; exact hlt
  refine ⟨by simp [hf.size], fun j oj hj hl e he hb => ?_, fun j hj => ?_, ?_⟩
  · by_cases hij : i = j
    · subst hij
      rw [ho] at hj; cases hj
      exact getD_set_true (hall e he hb)
    · rw [getD_set_ne false hij] at hl
      exact getD_set_true (hf.down j oj hj hl e he hb)
  · rw [getD_set_ne false (by omega)]; exact hf.front j hj
  · have := filter_len_set hi hs (by rw [← getD_false_true hs]; exact hu)
    have hc := hf.count
    omega

theorem Front.ne_nil {m left : Nat} {listed : Array Bool} {i : Nat} (hr : i ∈ Region.ready md ops listed) : Region.ready md ops listed ≠ [] := by
  intro h; rw [h] at hr; cases hr

theorem wpFront_first {m : Nat} (hB : Region.frontB md ops m = true) {E : Array Bool → Act → Prop} {i : Nat} {oi : Oper} {v : Value} (hi : ops[i]? = some oi) (hsel : ∀ (j : Nat) (o : Oper) cs b, ops[j]? = some o → o.op ≠ .select cs b) :
    ∀ (fuel : Nat) (listed : Array Bool) (a : Act), Front md ops m (fuel + 1) listed →
      (∀ j oj, ops[j]? = some oj → j ≠ i → listed.getD j true = false → (∀ e ∈ oj.after, Region.binds md e = true → e.on ≠ i) → oi.apart ops oj = true) →
      i ∈ Region.ready md ops listed → YieldsIn P ops C oi v a →
      wpFront P md ops C E fuel (listed.setIfInBounds i true) (a.put oi.dst v) → wpFront P md ops C E (fuel + 1) listed a := by
  intro fuel
  induction fuel with
  | zero =>
    intro listed a hF hfree hr hy H
    refine ⟨fun h => (by rw [h] at hr; cases hr), fun j hj => ?_⟩
    by_cases hji : j = i
    · subst hji; exact hy.qOp hi H
    · exfalso
      have h1 := hF.step hr (hF.not_ready hB i hr)
      have h2 := ready_mono hj hji
      have hjm := hF.not_ready hB j hj
      have h3 : j ∈ (List.range m).filter fun k => !(listed.setIfInBounds i true).getD k false := by
        rw [List.mem_filter, List.mem_range]
        refine ⟨hjm, ?_⟩
        obtain ⟨hu, o, ho, _⟩ := mem_ready.1 h2
        rw [getD_false_true (by rw [h1.size]; exact (Array.getElem?_eq_some_iff.1 ho).1)] at hu
        rw [hu]; rfl
      have h4 := h1.count
      rw [List.length_eq_zero_iff] at h4
      rw [h4] at h3
      cases h3
  | succ fuel ih =>
    intro listed a hF hfree hr hy H
    refine ⟨fun h => (by rw [h] at hr; cases hr), fun j hj => ?_⟩
    by_cases hji : j = i
    · subst hji; exact hy.qOp hi H
    · have h1 := H.2 j (ready_mono hj hji)
      obtain ⟨hjun, oj, hoj, hall⟩ := mem_ready.1 hj
      have hnot : ∀ e ∈ oj.after, Region.binds md e = true → e.on ≠ i := fun e he hb heq => by
        have h1 := hall e he hb
        have h0 := (mem_ready.1 hr).1
        rw [heq] at h1
        rcases Nat.lt_or_ge i listed.size with h' | h'
        · simp [h'] at h0 h1; rw [h0] at h1; cases h1
        · simp [Array.getElem?_eq_none h'] at h1
      have h2 := qOp_put hoj (hfree j oj hoj hji hjun hnot) (fun cs b => hsel i oi cs b hi) (fun cs b => hsel j oj cs b hoj) hy h1
      have hfree' : ∀ k ok, ops[k]? = some ok → k ≠ i → (listed.setIfInBounds j true).getD k true = false →
          (∀ e ∈ ok.after, Region.binds md e = true → e.on ≠ i) → oi.apart ops ok = true := fun k ok hk hki hun hno => by
        refine hfree k ok hk hki ?_ hno
        by_cases hjk : j = k
        · subst hjk; exact hjun
        · rw [getD_set_ne true hjk] at hun; exact hun
      refine qOp_mono (fun a' h3 => ih (listed.setIfInBounds j true) a' (hF.step hj (hF.not_ready hB j hj)) hfree' (ready_mono hr (Ne.symm hji)) h3.1 ?_) h2
      rw [Array.setIfInBounds_comm _ _ hji]
      exact h3.2

def Region.lexFront (md : Region.Mode) (ops : Array Oper) : Nat → Nat → Array Bool → Bool
  | 0, _, _ => true
  | fuel + 1, k, listed => (Region.ready md ops listed).contains k && Region.free md ops listed k && Region.lexFront md ops fuel (k + 1) (listed.setIfInBounds k true)

theorem wpFront_lex {m : Nat} (hB : Region.frontB md ops m = true) {E : Array Bool → Act → Prop} (hs : Region.noSelect ops = true) : ∀ (l : List Oper) (k : Nat) (listed : Array Bool) (a : Act), (∀ j, j < l.length → l[j]? = ops[k + j]?) →
    Front md ops m l.length listed → Region.lexFront md ops l.length k listed = true → wpQuiet P ops C (fun a => E ((List.range' k l.length).foldl (fun b i => b.setIfInBounds i true) listed) a) l a → wpFront P md ops C E l.length listed a
  | [], _, _, _, _, _, _, h => h
  | o :: l, k, listed, a, hl, hF, hL, h => by
    have h0 : ops[k]? = some o := by simpa using (hl 0 (by simp)).symm
    simp only [List.length_cons, Region.lexFront, Bool.and_eq_true] at hL
    obtain ⟨⟨hr, hf⟩, hL'⟩ := hL
    have hr' : k ∈ Region.ready md ops listed := by simpa using hr
    have hst : qOp P ops C k (wpQuiet P ops C (fun a => E ((List.range' k (l.length + 1)).foldl (fun b i => b.setIfInBounds i true) listed) a) l) a := by unfold qOp; simp only [h0]; exact h
    obtain ⟨v, hy, hK⟩ := yieldsIn_of_qOp h0 hst
    refine wpFront_first hB h0 (Region.noSelect_spec hs) l.length listed a hF (Region.free_spec h0 hf) hr' hy ?_
    exact wpFront_lex hB hs l (k + 1) _ _ (fun j hj => by have := hl (j + 1) (by simpa using hj); simpa [Nat.add_assoc, Nat.add_comm 1 j] using this) (hF.step hr' (hF.not_ready hB k hr')) hL' hK

/-- the rest can come up in one order only -/
def Region.restB (md : Region.Mode) (ops : Array Oper) : Nat → Nat → Array Bool → Bool
  | 0, _, listed => (Region.ready md ops listed).isEmpty
  | fuel + 1, k, listed => (Region.ready md ops listed) == [k] && Region.restB md ops fuel (k + 1) (listed.setIfInBounds k true)

theorem wpAny_rest {Q : Exit → Act → World → Prop} : ∀ (l : List Oper) (k : Nat) (listed : Array Bool) (a : Act) (w : World), (∀ j, l[j]? = ops[k + j]?) →
    Region.restB md ops l.length k listed = true → wpList P ops Q l a w → wpAny P md ops Q l.length listed a w
  | [], _, _, _, _, _, hB, h => ⟨by simpa [Region.restB] using hB, h⟩
  | o :: l, k, listed, a, w, hl, hB, h => by
    have h0 : ops[k]? = some o := by simpa using (hl 0).symm
    simp only [List.length_cons, Region.restB, Bool.and_eq_true, beq_iff_eq] at hB
    obtain ⟨hr, hB'⟩ := hB
    refine ⟨fun h => (by rw [hr] at h; cases h), fun i hi => ?_⟩
    rw [hr] at hi
    obtain rfl := List.mem_singleton.1 hi
    have hn := fun (a' : Act) (w' : World) => wpAny_rest (Q := Q) l (i + 1) (listed.setIfInBounds i true) a' w' (fun j => by have := hl (j + 1); simpa [Nat.add_assoc, Nat.add_comm 1 j] using this) hB'
    have : wpOp P ops Q i (wpList P ops Q l) a w := by
      unfold wpOp
      rw [h0]
      exact h
    exact wpOp_mono hn this

def Region.splitB (md : Region.Mode) (ops : Array Oper) (m : Nat) : Bool :=
  Region.noSelect ops && Region.frontB md ops m && Region.lexFront md ops m 0 (Array.replicate ops.size false) &&
  Region.restB md ops (ops.size - m) m ((List.range' 0 m).foldl (fun b i => b.setIfInBounds i true) (Array.replicate ops.size false))

theorem wp_region_split {id : Nat} {Q : Exit → Act → World → Prop} {a : Act} {w : World} (l1 l2 : List Oper) (hm : P.follows .mixedOrders = true) (hB : Region.splitB .any (l1 ++ l2).toArray l1.length = true) (hC : C { w with drawn := w.drawn + 1 })
    (h : wpQuiet P (l1 ++ l2).toArray C (fun a' => ∀ w', C w' → wpList P (l1 ++ l2).toArray Q l2 a' w') l1 a) : (Code.region id (l1 ++ l2).toArray true).wp P Q a w := by
  simp only [Region.splitB, Bool.and_eq_true] at hB
  obtain ⟨⟨⟨hs, hF⟩, hL⟩, hR⟩ := hB
  refine wp_region_any hm ?_
  have hsz : (l1 ++ l2).toArray.size = l1.length + l2.length := by simp
  have hsub : (l1 ++ l2).toArray.size - l1.length = l2.length := by omega
  rw [hsub] at hR
  have hfr : Front .any (l1 ++ l2).toArray l1.length l1.length (Array.replicate (l1 ++ l2).toArray.size false) := by
    have hg : ∀ (n i : Nat), (Array.replicate n false).getD i false = false := by
      intro n i
      rcases Nat.lt_or_ge i n with h | h <;> simp [h]
    refine ⟨by simp, fun i o ho hl => ?_, fun i _ => hg _ i, ?_⟩
    · rw [hg] at hl; cases hl
    · rw [List.filter_eq_self.2 (fun i _ => by rw [hg]; rfl)]; simp
  have := wpAny_of_front (P := P) (md := .any) (ops := (l1 ++ l2).toArray) (C := C) (r := l2.length) (Q' := Q)
    (E := fun listed a' => listed = (List.range' 0 l1.length).foldl (fun b i => b.setIfInBounds i true) (Array.replicate (l1 ++ l2).toArray.size false) ∧ ∀ w', C w' → wpList P (l1 ++ l2).toArray Q l2 a' w')
    (fun listed a' w' hw' hE => by
      obtain ⟨rfl, hE⟩ := hE
      exact wpAny_rest l2 l1.length _ a' w' (fun j => by simp [List.getElem?_append_right]) hR (hE w' hw'))
    l1.length (Array.replicate (l1 ++ l2).toArray.size false) a { w with drawn := w.drawn + 1 } hC
    (wpFront_lex hF hs l1 0 _ a (fun j hj => by simp [List.getElem?_append_left hj]) hfr hL
      (by
        refine cast ?_ h
        congr 1
        funext a'
        simp))
  simp only [hsz] at this ⊢
  exact this
end
end Go
namespace Go
open Go.RowKit
/-- how far a world has grown -/
structure GB where
  d : Nat
  os : Array Obj
  deriving Inhabited
def gw (W : World) (p : GB) : World := { W with heap := W.heap ++ p.os, drawn := p.d }
theorem gw_heap (W : World) (p : GB) (k : Nat) (h : k < W.heap.size) : (gw W p).heap[k]? = W.heap[k]? := by
  show (W.heap ++ p.os)[k]? = _
  rw [Array.getElem?_append_left h]
theorem gw_below (W : World) (p : GB) : Below W.heap.size W (gw W p) :=
  ⟨rfl, rfl, rfl, by show _ ≤ (W.heap ++ p.os).size; simp, fun k hk => gw_heap W p k hk⟩
theorem gw_of {W w' : World} (h : Below W.heap.size W w') : ∃ p : GB, w' = gw W p := by
  refine ⟨⟨w'.drawn, w'.heap.extract W.heap.size w'.heap.size⟩, ?_⟩
  have h1 : w'.heap = W.heap ++ w'.heap.extract W.heap.size w'.heap.size := by
    apply Array.ext_getElem?
    intro i
    rcases Nat.lt_or_ge i W.heap.size with hi | hi
    · rw [Array.getElem?_append_left hi]; exact h.block i hi
    · rw [Array.getElem?_append_right hi, Array.getElem?_extract]
      have hs := h.size
      rcases Nat.lt_or_ge i w'.heap.size with h2 | h2
      · rw [if_pos (by omega)]; congr 1; omega
      · rw [Array.getElem?_eq_none h2, if_neg (by omega)]
  have h2 := h.os
  have h3 := h.tape
  have h4 := h.output
  cases w'
  simp only [gw] at *
  congr 1
theorem gw_start (W : World) : ∃ p : GB, { W with drawn := W.drawn + 1 } = gw W p := ⟨⟨W.drawn + 1, #[]⟩, by simp [gw]⟩
theorem cell?_gw (W : World) (p : GB) (b o : Nat) (h : b < W.heap.size) : (gw W p).cell? ⟨b, o, none⟩ = W.cell? ⟨b, o, none⟩ := World.cell?_of_block (gw_heap W p b h)
theorem frozen?_gw (W : World) (p : GB) (b o : Nat) (h : b < W.heap.size) : (gw W p).frozen? ⟨b, o, none⟩ = W.frozen? ⟨b, o, none⟩ := World.frozen?_of_block (gw_heap W p b h)
attribute [go_sem] cell?_gw frozen?_gw
theorem Calls.gw_of {P : Program} {f : FuncId} {args : Array Value} {W : World} {p : GB} {v : Value}
    (h : Calls P f args (gw W p) fun e w' => e = .returned v ∧ Below (gw W p).heap.size (gw W p) w') : Calls P f args (gw W p) fun e w'' => e = .returned v ∧ ∃ q : GB, w'' = gw W q :=
  h.mono fun _ _ ⟨he, hb⟩ => ⟨he, Go.gw_of ((gw_below W p).trans (hb.mono (gw_below W p).size))⟩
theorem Calls.gw_same {P : Program} {f : FuncId} {args : Array Value} {W : World} {p : GB} {v : Value}
    (h : Calls P f args (gw W p) fun e w' => e = .returned v ∧ gw W p = w') : Calls P f args (gw W p) fun e w'' => e = .returned v ∧ ∃ q : GB, w'' = gw W q :=
  h.mono fun _ _ ⟨he, hw⟩ => ⟨he, p, hw.symm⟩
theorem wp_region_splitG {P : Program} {id : Nat} {Q : Exit → Act → World → Prop} {a : Act} {W : World} (m : Nat) {l : List Oper} (hm : P.follows .mixedOrders = true) (hB : Region.splitB .any l.toArray m = true)
    (h : wpQuiet P l.toArray (fun w' => ∃ p : GB, w' = gw W p) (fun a' => ∀ w', (∃ p : GB, w' = gw W p) → wpList P l.toArray Q (l.drop m) a' w') (l.take m) a) : (Code.region id l.toArray true).wp P Q a W := by
  have hml : m ≤ l.length := by
    simp only [Region.splitB, Region.frontB, Bool.and_eq_true, decide_eq_true_eq] at hB
    simpa using hB.1.1.2.1.1
  have h1 := wp_region_split (P := P) (id := id) (Q := Q) (a := a) (w := W) (C := fun w' => ∃ p : GB, w' = gw W p) (l.take m) (l.drop m) hm
  rw [List.take_append_drop, List.length_take, Nat.min_eq_left hml] at h1
  exact h1 hB (gw_start W) h
/-- a region that draws its order, all of whose operations read or call what reads or grows -/
theorem wp_region_growG {P : Program} {id : Nat} {Q : Exit → Act → World → Prop} {a : Act} {W : World} {l : List Oper} (hm : P.follows .mixedOrders = true) (hB : Region.lexB .any l.toArray = true)
    (h : wpQuiet P l.toArray (fun w' => ∃ p : GB, w' = gw W p) (fun a' => ∀ w', (∃ p : GB, w' = gw W p) → Q .normal a' w') l a) : (Code.region id l.toArray true).wp P Q a W :=
  wp_region_quiet (C := fun w' => ∃ p : GB, w' = gw W p) hm hB (gw_start W) (by simpa using h)
theorem gw_out {W : World} {Q : World → Prop} (h : ∀ w', Below W.heap.size W w' → Q w') : ∀ w', (∃ p : GB, w' = gw W p) → Q w' := by
  rintro w' ⟨p, rfl⟩
  exact h _ (gw_below W p)
end Go
namespace Go.RowKit
theorem Below.call {B : Nat} {a w w' : World} (h : Below B a w) (hb : Below w.heap.size w w') : a.heap.size = B → Below B a w' := fun e => h.trans (hb.mono (e ▸ h.size))
end Go.RowKit
namespace Go.Proofs.YtndhjkammoeikaaGreatDoor
open Go.RowKit

theorem heap_new {w : World} {o : Obj} {k : Nat} (h : k = w.heap.size) : (w.alloc o).heap[k]? = some o := by subst h; exact heap_alloc_new _ _
theorem heap_old {w : World} {o x : Obj} {k : Nat} (h : k < w.heap.size) (hx : w.heap[k]? = some x) : (w.alloc o).heap[k]? = some x := (Below.heap_alloc _ _ _ h).trans hx
theorem cell_at {W : World} {b i : Nat} {cs : Array Value} {t : TypeId} {f : Nat × Nat} {v : Value} (h : W.heap[b]? = some (.cells cs t f)) (hi : cs[i]? = some v) : W.cell? ⟨b, i, none⟩ = some v := by
  simp [World.cell?, h, hi]
theorem free_at {W : World} {b i : Nat} {cs : Array Value} {t : TypeId} (h : W.heap[b]? = some (.cells cs t (0, 0))) : W.frozen? ⟨b, i, none⟩ = false := by
  simp [World.frozen?, h]
theorem ret_int {k : IntKind} {a b : Int} (h : a = b) : Ending.returned (.int k a) = .returned (.int k b) := by rw [h]
theorem ret_bool {a b : Bool} (h : a = b) : Ending.returned (.bool a) = .returned (.bool b) := by rw [h]
theorem bcell {W w1 : World} (hb : Below W.heap.size W w1) : (∀ b o, b < W.heap.size → w1.cell? ⟨b, o, none⟩ = W.cell? ⟨b, o, none⟩) ∧ (∀ b o, b < W.heap.size → w1.frozen? ⟨b, o, none⟩ = W.frozen? ⟨b, o, none⟩) :=
  ⟨fun b o h => hb.cell (p := ⟨b, o, none⟩) h, fun b o h => hb.frozen (p := ⟨b, o, none⟩) h⟩

/-- n elements of 'size' cells each, read at A. -/
def RdS (w : World) (size : Nat) (A : Option Addr) (n : Nat) (xs : List Value) : Prop :=
  xs.length = n * size ∧ (0 < n → ∃ b off, A = some ⟨b, off, none⟩ ∧ b < w.heap.size ∧ ∀ j, j < xs.length → w.cell? ⟨b, off+j, none⟩ = xs[j]?)

theorem RdS.at {w : World} {size n : Nat} {A : Option Addr} {xs : List Value} (h : RdS w size A n xs) {k : Nat} (hk : k < n) : 
  ∃ b off, A = some ⟨b, off, none⟩ ∧ b < w.heap.size ∧ ∀ j, j < size → w.cell? ⟨b, off + (k * size + j), none⟩ = xs[k * size + j]? := by
  obtain ⟨h1, h2⟩ := h
  obtain ⟨b, off, rfl, hb, hc⟩ := h2 (by omega)
  refine ⟨b, off, rfl, hb, fun j hj => hc _ ?_⟩
  rw [h1]
  calc k * size + j < k * size + size := by omega
    _ = (k+1) * size := by rw [Nat.succ_mul]
    _ ≤ n * size := Nat.mul_le_mul_right _ hk
theorem RdS.below {w w' : World} {size n : Nat} {A : Option Addr} {xs : List Value} (h : RdS w size A n xs) (hb : Below w.heap.size w w') : RdS w' size A n xs := by
  obtain ⟨h1, h2⟩ := h
  refine ⟨h1, fun hn => ?_⟩
  obtain ⟨b, off, rfl, hlt, hc⟩ := h2 hn
  exact ⟨b, off, rfl, Nat.lt_of_lt_of_le hlt hb.size, fun j hj => (hb.cell (p := ⟨b, off + j, none⟩) hlt).trans (hc j hj)⟩
/-- a whole block, read from its head -/
theorem RdS.of_block {w : World} {g size n : Nat} {cs : List Value} {t : TypeId} {f : Nat × Nat} (h : w.heap[g]? = some (.cells cs.toArray t f)) (hn : cs.length = n * size) : RdS w size (some ⟨g, 0, none⟩) n cs := by
  refine ⟨hn, fun _ => ⟨g, 0, rfl, (Array.getElem?_eq_some_iff.1 h).1, fun j hj => ?_⟩⟩
  simp [World.cell?, h]

theorem RdS.of_new {w : World} {g size n : Nat} {cs : List Value} {t : TypeId} {f : Nat × Nat} (hg : g = w.heap.size) (hn : cs.length = n * size) : RdS (w.alloc (.cells cs.toArray t f)) size (some ⟨g, 0, none⟩) n cs := by
  subst hg
  exact RdS.of_block (heap_alloc_new _ _) hn
theorem RdS.drew {w : World} {size n : Nat} {A : Option Addr} {xs : List Value} (h : RdS w size A n xs) : RdS w.drew size A n xs := h

/-- the world may have grown: what every world that comes of W in a region of growth is good for -/
theorem keep_call {W w1 w2 : World} (h : (∀ b o, b < W.heap.size → w1.cell? ⟨b, o, none⟩ = W.cell? ⟨b, o, none⟩) ∧ Below W.heap.size W w1) (hb : Below w1.heap.size w1 w2) :
    (∀ b o, b < W.heap.size → w2.cell? ⟨b, o, none⟩ = W.cell? ⟨b, o, none⟩) ∧ Below W.heap.size W w2 := by
  have h2 := h.2.trans (hb.mono h.2.size)
  exact ⟨(bcell h2).1, h2⟩
theorem keep_alloc {W w1 : World} (ob : Obj) (h : (∀ b o, b < W.heap.size → w1.cell? ⟨b, o, none⟩ = W.cell? ⟨b, o, none⟩) ∧ Below W.heap.size W w1) :
    (∀ b o, b < W.heap.size → (w1.alloc ob).cell? ⟨b, o, none⟩ = W.cell? ⟨b, o, none⟩) ∧ Below W.heap.size W (w1.alloc ob) := by
  have h2 := h.2.alloc h.2.size ob
  exact ⟨(bcell h2).1, h2⟩
theorem keep_alloc_drew {W w1 : World} (ob : Obj) (h : (∀ b o, b < W.heap.size → w1.drew.cell? ⟨b, o, none⟩ = W.cell? ⟨b, o, none⟩) ∧ Below W.heap.size W w1.drew) :
    (∀ b o, b < W.heap.size → (w1.alloc ob).drew.cell? ⟨b, o, none⟩ = W.cell? ⟨b, o, none⟩) ∧ Below W.heap.size W (w1.alloc ob).drew := keep_alloc ob h
theorem keep_start {W : World} : (∀ b o, b < W.heap.size → W.drew.cell? ⟨b, o, none⟩ = W.cell? ⟨b, o, none⟩) ∧ Below W.heap.size W W.drew := by
  have h2 := (Below.refl W.heap.size W).drew
  exact ⟨(bcell h2).1, h2⟩

/-- the same below a bound -/
theorem keepB_call {B : Nat} {W w1 w2 : World} (h : (∀ b o, b < B → w1.cell? ⟨b, o, none⟩ = W.cell? ⟨b, o, none⟩) ∧ Below B W w1) (hb : Below w1.heap.size w1 w2) (hB : B ≤ W.heap.size) :
    (∀ b o, b < B → w2.cell? ⟨b, o, none⟩ = W.cell? ⟨b, o, none⟩) ∧ Below B W w2 := by
  have h2 := h.2.trans (hb.mono (Nat.le_trans hB h.2.size))
  exact ⟨fun b o hb => h2.cell (p := ⟨b, o, none⟩) hb, h2⟩
theorem keepB_below {B : Nat} {W w1 w2 : World} (h : (∀ b o, b < B → w1.cell? ⟨b, o, none⟩ = W.cell? ⟨b, o, none⟩) ∧ Below B W w1) (h2 : Below B w1 w2) :
    (∀ b o, b < B → w2.cell? ⟨b, o, none⟩ = W.cell? ⟨b, o, none⟩) ∧ Below B W w2 := by
  have h3 := h.2.trans h2
  exact ⟨fun b o hb => h3.cell (p := ⟨b, o, none⟩) hb, h3⟩
theorem keepB_of {B : Nat} {W w2 : World} (h3 : Below B W w2) :
    (∀ b o, b < B → w2.cell? ⟨b, o, none⟩ = W.cell? ⟨b, o, none⟩) ∧ Below B W w2 := 
  ⟨fun b o hb => h3.cell (p := ⟨b, o, none⟩) hb, h3⟩
theorem fin1 {w W w1 : World} (hB : Below w.heap.size w W) (hb : Below W.heap.size W w1) (o : Obj) : Below w.heap.size w (w1.alloc o) := by
  have h := hB.trans (hb.mono hB.size)
  exact h.alloc h.size o
theorem fin0 {w W w1 : World} (hB : Below w.heap.size w W) (hb : Below W.heap.size W w1) : Below w.heap.size w w1 := hB.trans (hb.mono hB.size)
theorem fin_below {w W w2 : World} (hB : Below w.heap.size w W) (h : (∀ b o, b < W.heap.size → w2.cell? ⟨b, o, none⟩ = W.cell? ⟨b, o, none⟩) ∧ Below W.heap.size W w2) : Below w.heap.size w w2 := hB.trans (h.2.mono hB.size)

/-- a slice that reads as a list of data, each of 'size' cells -/
def RdL {α : Type} (w : World) (size : Nat) (enc : α → List Value) (A : Option Addr) (l : List α) : Prop := RdS w size A l.length (l.flatMap enc)
theorem flat_get {α : Type} {size : Nat} {enc : α → List Value} (he : ∀ a, (enc a).length = size) : ∀ (l : List α) (k j : Nat) (x : α), l[k]? = some x → j < size → (l.flatMap enc)[k * size + j]? = (enc x)[j]?
  | [], k, j, x, h, _ => by simp at h
  | a :: l, 0, j, x, h, hj => by
    simp at h; subst h
    rw [List.flatMap_cons, Nat.zero_mul, Nat.zero_add, List.getElem?_append_left (by rw [he]; exact hj)]
  | a :: l, k+1, j, x, h, hj => by
    rw [List.flatMap_cons, List.getElem?_append_right (by rw [he, Nat.succ_mul]; omega), he]
    have := flat_get he l k j x (by simpa using h) hj
    rw [← this]
    congr 1
    rw [Nat.succ_mul]; omega
theorem RdL.at {α : Type} {w : World} {size : Nat} {enc : α → List Value} {A : Option Addr} {l : List α} (h : RdL w size enc A l) (he : ∀ a, (enc a).length = size) {k : Nat} (hk : k < l.length) :
    ∃ b off x, A = some ⟨b, off, none⟩ ∧ l[k]? = some x ∧ b < w.heap.size ∧ ∀ j, j < size → w.cell? ⟨b, off + k * size + j, none⟩ = (enc x)[j]? := by
  obtain ⟨b, off, hA, hb, hc⟩ := RdS.at h hk
  refine ⟨b, off, l[k], hA, List.getElem?_eq_getElem hk, hb, fun j hj => ?_⟩
  rw [Nat.add_assoc, hc j hj, flat_get he l k j l[k] (List.getElem?_eq_getElem hk) hj]
theorem RdL.below' {α : Type} {w W w' : World} {B size : Nat} {enc : α → List Value} {A : Option Addr} {l : List α} (h : RdL w size enc A l) (hb : Below w.heap.size w W) (h2 : Below B W w') (hB : w.heap.size ≤ B) : RdL w' size enc A l := RdS.below h (hb.trans (h2.mono hB))
theorem RdL.below {α : Type} {w w' : World} {size : Nat} {enc : α → List Value} {A : Option Addr} {l : List α} (h : RdL w size enc A l) (hb : Below w.heap.size w w') : RdL w' size enc A l := RdS.below h hb

def encI (l : List Int) : List Value := l.map (Value.int .i64)

end Go.Proofs.YtndhjkammoeikaaGreatDoor
namespace Go.Proofs.YtndhjkammoeikaaGreatDoor
structure Sgt where
  t : Int
  x : Int
  y : Int
structure Spn where
  f : Int
  t : Int
structure Fir where
  t : Int
  v : Int
structure Ent where
  f : Int
  t : Int
  c : ByteArray
structure Res where
  n : ByteArray
  f : Int
  w : Int
def Sgt.enc (s : Sgt) : List Value := [.int .i64 s.t, .int .i64 s.x, .int .i64 s.y]
def Spn.enc (s : Spn) : List Value := [.int .i64 s.f, .int .i64 s.t]
def Fir.enc (s : Fir) : List Value := [.int .i64 s.t, .int .i64 s.v]
def Ent.enc (s : Ent) : List Value := [.int .i64 s.f, .int .i64 s.t, .string s.c]
def Res.enc (s : Res) : List Value := [.string s.n, .int .i64 s.f, .int .i64 s.w]
theorem Sgt.len (s : Sgt) : s.enc.length = 3 := rfl
theorem Spn.len (s : Spn) : s.enc.length = 2 := rfl
theorem Fir.len (s : Fir) : s.enc.length = 2 := rfl
theorem Ent.len (s : Ent) : s.enc.length = 3 := rfl
theorem Res.len (s : Res) : s.enc.length = 3 := rfl
namespace Mo
def range (n lo hi : Int) : Int := if n < lo ∨ hi < n then 3 else 0
def when (c : Bool) (e : Int) : Int := if c then e else 0
def first : List Int → Int
  | [] => 0
  | x :: xs => if x ≠ 0 then x else first xs
theorem first_drop (xs : List Int) (k : Nat) (h : k < xs.length) : first (xs.drop k) = if xs[k] ≠ 0 then xs[k] else first (xs.drop (k+1)) := by
  rw [List.drop_eq_getElem_cons h]; rfl
def point (x y m : Int) : Int := first [range x (-m) m, range y (-m) m]
def vessel (a b c d t : Int) : Int := first [point a b 100000, point c d 1000, range t 1 4096]
def watch (a b c d e : Int) : Int := first [range a 0 10000, range b 0 1000, range c 0 1000, range d 0 1000, range e 0 1000]
def each (n most : Nat) (f : Nat → Int) : Int := if most < n then 5 else first ((List.range n).map f)
theorem first_range (n k : Nat) (f : Nat → Int) (h : k < n) : first (((List.range n).map f).drop k) = if f k ≠ 0 then f k else first (((List.range n).map f).drop (k+1)) := by
  rw [first_drop _ k (by simpa using h)]; simp
theorem first_range_end (n k : Nat) (f : Nat → Int) (h : n ≤ k) : first (((List.range n).map f).drop k) = 0 := by
  rw [List.drop_of_length_le (by simpa using h)]; rfl
def badSpan (f t : Int) : Bool := decide (f < 0 ∨ t ≤ f ∨ 100000 < t)
def has (f t k : Int) : Bool := decide (f ≤ k ∧ k < t)
def sgt1 (l : List Sgt) (k : Nat) : Int := match l[k]? with
  | some s => first [range s.t 0 100000, point s.x s.y 100000, when (decide (0 < k ∧ s.t < ((l[k-1]?).getD ⟨0,0,0⟩).t)) 11]
  | none => 0
def sightings (l : List Sgt) : Int := each l.length 64 (sgt1 l)
def spn1 (l : List Spn) (k : Nat) : Int := match l[k]? with
  | some s => first [when (badSpan s.f s.t) 14, when (decide (0 < k ∧ s.f < ((l[k-1]?).getD ⟨0,0⟩).t)) 11]
  | none => 0
def spans (l : List Spn) : Int := each l.length 256 (spn1 l)
end Mo
end Go.Proofs.YtndhjkammoeikaaGreatDoor
namespace Go.Proofs.YtndhjkammoeikaaGreatDoor
open Go.RowKit
set_option maxHeartbeats 400000

theorem c100 (c : Bool) (e : Int) (w : World) : Calls Tryz.prog 100 #[.bool c, .int .i64 e] w fun en w' => en = .returned (.int .i64 (Mo.when c e)) ∧ w = w' := by
  go_enter Tryz.func100, Tryz.ntmps100
  go_wp2
  all_goals go_ret
  all_goals simp [Mo.when, *]
theorem c112 (c : Bool) (e : Int) (w : World) : Calls Tryz.prog 112 #[.bool c, .int .i64 e] w fun en w' => en = .returned (.int .i64 (Mo.when c e)) ∧ w = w' := by
  go_enter Tryz.func112, Tryz.ntmps112
  go_wp2
  all_goals go_ret
  all_goals simp [Mo.when, *]
theorem c96 (n lo hi : Int) (w : World) : Calls Tryz.prog 96 #[.int .i64 n, .int .i64 lo, .int .i64 hi] w fun en w' => en = .returned (.int .i64 (Mo.range n lo hi)) ∧ w = w' := by
  go_enter Tryz.func96, Tryz.ntmps96
  go_wp2
  all_goals go_ret
  all_goals (refine ⟨ret_int ?_, rfl⟩; simp [Mo.range]; try omega)
theorem c49 (n lo hi : Int) (w : World) : Calls Tryz.prog 49 #[.int .i64 n, .int .i64 lo, .int .i64 hi] w fun en w' => en = .returned (.int .i64 (Mo.range n lo hi)) ∧ w = w' := by
  go_enter Tryz.func49, Tryz.ntmps49
  go_wp2
  all_goals go_ret
  all_goals (refine ⟨ret_int ?_, rfl⟩; simp [Mo.range]; try omega)

theorem c92 (A : Option Addr) (n cap : Nat) (xs : List Int) (w : World) (hn : xs.length = n) (hl : n ≤ 1000000) (H : RdS w 1 A n (encI xs)) :
   Calls Tryz.prog 92 #[.slice A n cap] w fun en w' => en = .returned (.int .i64 (Mo.first xs)) ∧ w = w' := by
  have Hn := Lib.hid hn
  clear hn
  go_enter Tryz.func92, Tryz.ntmps92
  go_wp2
  go_loop [3] (fun i => ∃ k : Nat, k ≤ n ∧ i = .int .i64 k ∧ Mo.first xs = Mo.first (xs.drop k)) (fun i => n - (intOf i).toNat)
  case atStart => exact ⟨0, Nat.zero_le _, rfl, rfl⟩
  case round =>
    obtain ⟨k, hk, rfl, he⟩ := hrel
    have HE := Lib.hid he
    clear he
    by_cases hlt : k < n
    · obtain ⟨b, off, rfl, hb, hc⟩ := H.at hlt
      have hx : k < xs.length := by rw [Hn.out]; exact hlt
      have h0 := hc 0 (by omega)
      simp [encI, hx] at h0
      clear hc H hb
      have hs := Lib.hid (Mo.first_drop xs k hx)
      go_wp2
      · go_ret
        exact ⟨ret_int (by rw [HE.out, hs.out, if_pos (by simpa using ‹(xs[k] != 0) = true›)]), rfl⟩
      · go_round
        case rel => exact ⟨k+1, by omega, by go_num, by rw [HE.out, hs.out, if_neg (by simpa using ‹(xs[k] != 0) = false›)]⟩
        case measure => simp [intOf]; omega
    · go_wp2
      go_ret
      exact ⟨by rw [HE.out, List.drop_of_length_le (by rw [Hn.out]; omega)]; rfl, rfl⟩

theorem c94 (A : Option Addr) (n cap : Nat) (xs : List Int) (w : World) (hn : xs.length = n) (hl : n ≤ 1000000) (H : RdS w 1 A n (encI xs)) :
   Calls Tryz.prog 94 #[.slice A n cap] w fun en w' => en = .returned (.int .i64 (Mo.first xs)) ∧ w = w' := by
  have Hn := Lib.hid hn
  clear hn
  go_enter Tryz.func94, Tryz.ntmps94
  go_wp2
  go_loop [7] (fun i => ∃ k : Nat, k ≤ n ∧ i = .int .i64 k ∧ Mo.first xs = Mo.first (xs.drop k)) (fun i => n - (intOf i).toNat)
  case atStart => exact ⟨0, Nat.zero_le _, rfl, rfl⟩
  case round =>
    obtain ⟨k, hk, rfl, he⟩ := hrel
    have HE := Lib.hid he
    clear he
    by_cases hlt : k < n
    · obtain ⟨b, off, rfl, hb, hc⟩ := H.at hlt
      have hx : k < xs.length := by rw [Hn.out]; exact hlt
      have h0 := hc 0 (by omega)
      simp [encI, hx] at h0
      clear hc H hb
      have hs := Lib.hid (Mo.first_drop xs k hx)
      go_wp2
      · go_ret
        exact ⟨ret_int (by rw [HE.out, hs.out, if_pos (by simpa using ‹(xs[k] != 0) = true›)]), rfl⟩
      · go_round
        case rel => exact ⟨k+1, by omega, by go_num, by rw [HE.out, hs.out, if_neg (by simpa using ‹(xs[k] != 0) = false›)]⟩
        case measure => simp [intOf]; omega
    · go_wp2
      go_ret
      exact ⟨by rw [HE.out, List.drop_of_length_le (by rw [Hn.out]; omega)]; rfl, rfl⟩

theorem c97 (x y m : Int) (w : World) (hm : 0 ≤ m) (hm2 : m ≤ 1000000): Calls Tryz.prog 97 #[.agg #[.int .i64 x, .int .i64 y], .int .i64 m] w fun en w' => en = .returned (.int .i64 (Mo.point x y m)) ∧ Below w.heap.size w w' := by
  go_enter Tryz.func97, Tryz.ntmps97
  go_wp2
  have hi0 : w.heap.size ≠ w.heap.size + 1 := by omega
  have e1 : IntKind.i64.wrap (-m) = -m := by rw [IntWalk.i64_in _ (by omega)]
  go_region_held3 (fun w' => w'.cell? ⟨w.heap.size, 0, none⟩ = some (.int .i64 x) ∧ w'.cell? ⟨w.heap.size, 1, none⟩ = some (.int .i64 y)) (go_keep)
      (first
        | (go_at_call 49; refine (c49 _ _ _ _).mono ?_; rintro e w' ⟨rfl, rfl⟩)
        | (go_at_call 92; refine (c92 _ 2 _ [Mo.range x (-m) m, Mo.range y (-m) m] _ rfl (by omega) ?_).mono ?_; (exact RdS.drew (RdS.of_new (by simp) rfl)); rintro e w' ⟨rfl, rfl⟩))
  all_goals go_wp2
  all_goals go_ret
  all_goals exact ⟨rfl, (((Below.refl _ _).alloc (Nat.le_refl _) _).alloc (by simp) _).drew⟩

theorem c95 (x y m : Int) (w : World) (hm : 0 ≤ m) (hm2 : m ≤ 1000000): Calls Tryz.prog 95 #[.agg #[.int .i64 x, .int .i64 y], .int .i64 m] w fun en w' => en = .returned (.int .i64 (Mo.point x y m)) ∧ Below w.heap.size w w' := by
  go_enter Tryz.func95, Tryz.ntmps95
  go_wp2
  have hi0 : w.heap.size ≠ w.heap.size + 1 := by omega
  have e1 : IntKind.i64.wrap (-m) = -m := by rw [IntWalk.i64_in _ (by omega)]
  go_region_held3 (fun w' => w'.cell? ⟨w.heap.size, 0, none⟩ = some (.int .i64 x) ∧ w'.cell? ⟨w.heap.size, 1, none⟩ = some (.int .i64 y)) (go_keep)
      (first
        | (go_at_call 96; refine (c96 _ _ _ _).mono ?_; rintro e w' ⟨rfl, rfl⟩)
        | (go_at_call 94; refine (c94 _ 2 _ [Mo.range x (-m) m, Mo.range y (-m) m] _ rfl (by omega) ?_).mono ?_; (exact RdS.drew (RdS.of_new (by simp) rfl)); rintro e w' ⟨rfl, rfl⟩))
  all_goals go_wp2
  all_goals go_ret
  all_goals exact ⟨rfl, (((Below.refl _ _).alloc (Nat.le_refl _) _).alloc (by simp) _).drew⟩

theorem c24 (a b c d t : Int) (w : World) : Calls Tryz.prog 24 #[.agg #[.int .i64 a, .int .i64 b, .int .i64 c, .int .i64 d, .int .i64 t]] w fun en w' => en = .returned (.int .i64 (Mo.vessel a b c d t)) ∧ Below w.heap.size w w' := by
  go_enter Tryz.func24, Tryz.ntmps24
  go_wp2
  obtain ⟨W, hW⟩ : ∃ W, W = w.alloc (Obj.cells #[.int .i64 a, .int .i64 b, .int .i64 c, .int .i64 d, .int .i64 t] 35) := ⟨_, rfl⟩
  have hk0 : W.cell? ⟨w.heap.size, 0, none⟩ = some (.int .i64 a) := by simp [hW]
  have hk1 : W.cell? ⟨w.heap.size, 1, none⟩ = some (.int .i64 b) := by simp [hW]
  have hk2 : W.cell? ⟨w.heap.size, 2, none⟩ = some (.int .i64 c) := by simp [hW]
  have hk3 : W.cell? ⟨w.heap.size, 3, none⟩ = some (.int .i64 d) := by simp [hW]
  have hk4 : W.cell? ⟨w.heap.size, 4, none⟩ = some (.int .i64 t) := by simp [hW]
  have hs : w.heap.size < W.heap.size := by simp [hW]
  have hB : Below w.heap.size w W := by rw [hW]; exact (Below.refl _ _).alloc (Nat.le_refl _) _
  rw [← hW]
  clear hW
  go_region_held3 (fun w' => (∀ b o, b < W.heap.size → w'.cell? ⟨b, o, none⟩ = W.cell? ⟨b, o, none⟩) ∧ Below W.heap.size W w') (first | exact keep_start | assumption | (refine keep_call ?_ (by assumption); assumption) | (refine keep_alloc _ ?_; assumption))
      (first
        | (go_at_call 95; refine (c95 _ _ _ _ (by omega) (by omega)).mono ?_; rintro e w' ⟨rfl, hb⟩)
        | (go_at_call 96; refine (c96 _ _ _ _).mono ?_; rintro e w' ⟨rfl, rfl⟩)
        | (go_at_call 94; refine (c94 _ 3 _ [Mo.point a b 100000, Mo.point c d 1000, Mo.range t 1 4096] _ rfl (by omega) ?_).mono ?_; (exact RdS.of_new (by simp) rfl); rintro e w' ⟨rfl, rfl⟩))
  all_goals go_wp2
  all_goals go_ret
  all_goals exact ⟨rfl, fin_below hB (by assumption)⟩

end Go.Proofs.YtndhjkammoeikaaGreatDoor
namespace Go.Proofs.YtndhjkammoeikaaGreatDoor
open Go.RowKit
set_option maxHeartbeats 400000

theorem c98 (A : Option Addr) (cap : Nat) (l : List Sgt) (most : Nat) (p0 : Addr) (f : Nat → Int) (w : World) (hm : most ≤ 100000) (hl : l.length ≤ 1000000) (H : RdL w 3 Sgt.enc A l)
   (hcl : ∀ (k : Nat) (W : World) (x : Sgt), l[k]? = some x → k < l.length → Below w.heap.size w W →
      Calls Tryz.prog 99 #[.int .i64 k, .agg #[.int .i64 x.t, .int .i64 x.x, .int .i64 x.y], .pointer (some p0)] W fun e w' => e = .returned (.int .i64 (f k)) ∧ Below W.heap.size W w') :
   Calls Tryz.prog 98 #[.slice A l.length cap, .int .i64 most, .func (.func 99) #[] #[.pointer (some p0)]] w fun en w' => en = .returned (.int .i64 (Mo.each l.length most f)) ∧ Below w.heap.size w w' := by
  obtain ⟨n, hn⟩ : ∃ n, n = l.length := ⟨_, rfl⟩
  rw [← hn] at hl ⊢
  have Hn := Lib.hid hn
  have Hcl := Lib.hid hcl
  clear hcl hn
  by_cases hn : most < n
  · go_enter Tryz.func98, Tryz.ntmps98
    go_wp2
    go_ret
    exact ⟨ret_int (by simp [Mo.each, hn]), Below.refl _ _⟩
  · have hmo : Hid (Mo.each n most f = Mo.first ((List.range n).map f)) := by show _ = _; simp [Mo.each, hn]
    go_enter Tryz.func98, Tryz.ntmps98
    go_wp2
    go_loopw [16] (fun i wr => ∃ k : Nat, k ≤ n ∧ i = .int .i64 k ∧ Below w.heap.size w wr ∧ Mo.each n most f = Mo.first (((List.range n).map f).drop k)) (fun i _ => n - (intOf i).toNat)
    case atStart => exact ⟨0, Nat.zero_le _, rfl, Below.refl _ _, by rw [hmo.out]; rfl⟩
    case round =>
      obtain ⟨k, hk, rfl, hB, he⟩ := hrel
      have HE := Lib.hid he
      clear he
      by_cases hlt : k < n
      · obtain ⟨b, off, x, rfl, hx, hb, hc⟩ := (H.below hB).at Sgt.len (by rw [← Hn.out]; exact hlt)
        have Hx := Lib.hid hx
        have h0 : wr.cell? ⟨b, off + k * 3, none⟩ = some (.int .i64 x.t) := hc 0 (by omega)
        have h1 : wr.cell? ⟨b, off + k * 3 + 1, none⟩ = some (.int .i64 x.x) := hc 1 (by omega)
        have h2 : wr.cell? ⟨b, off + k * 3 + 2, none⟩ = some (.int .i64 x.y) := hc 2 (by omega)
        clear hc hx
        have Hs := Lib.hid (Mo.first_range n k f hlt)
        go_wp2_with fail
        refine (Hcl.out k _ x Hx.out (by rw [← Hn.out]; exact hlt) ?_).mono ?_
        · exact hB.alloc hB.size _
        rintro e w1 ⟨rfl, hb1⟩
        have hB2 := (hB.alloc hB.size (Obj.cells #[.int .i64 x.t, .int .i64 x.x, .int .i64 x.y] 166)).call hb1 rfl
        go_wp2
        · go_ret
          exact ⟨ret_int (by rw [HE.out, Hs.out, if_pos (by simpa using ‹(f k != 0) = true›)]), hB2⟩
        · go_roundw
          case rel => exact ⟨k+1, by omega, by go_num, hB2, by rw [HE.out, Hs.out, if_neg (by simpa using ‹(f k != 0) = false›)]⟩
          case measure => simp [intOf]; omega
      · go_wp2
        go_ret
        exact ⟨ret_int (by rw [HE.out, Mo.first_range_end _ _ _ (by omega)]), hB⟩

theorem c101 (A : Option Addr) (cap : Nat) (l : List Fir) (most : Nat) (p0 : Addr) (f : Nat → Int) (w : World) (hm : most ≤ 100000) (hl : l.length ≤ 1000000) (H : RdL w 2 Fir.enc A l)
   (hcl : ∀ (k : Nat) (W : World) (x : Fir), l[k]? = some x → k < l.length → Below w.heap.size w W →
      Calls Tryz.prog 102 #[.int .i64 k, .agg #[.int .i64 x.t, .int .i64 x.v], .pointer (some p0)] W fun e w' => e = .returned (.int .i64 (f k)) ∧ Below W.heap.size W w') :
   Calls Tryz.prog 101 #[.slice A l.length cap, .int .i64 most, .func (.func 102) #[] #[.pointer (some p0)]] w fun en w' => en = .returned (.int .i64 (Mo.each l.length most f)) ∧ Below w.heap.size w w' := by
  obtain ⟨n, hn⟩ : ∃ n, n = l.length := ⟨_, rfl⟩
  rw [← hn] at hl ⊢
  have Hn := Lib.hid hn
  have Hcl := Lib.hid hcl
  clear hcl hn
  by_cases hn : most < n
  · go_enter Tryz.func101, Tryz.ntmps101
    go_wp2
    go_ret
    exact ⟨ret_int (by simp [Mo.each, hn]), Below.refl _ _⟩
  · have hmo : Hid (Mo.each n most f = Mo.first ((List.range n).map f)) := by show _ = _; simp [Mo.each, hn]
    go_enter Tryz.func101, Tryz.ntmps101
    go_wp2
    go_loopw [16] (fun i wr => ∃ k : Nat, k ≤ n ∧ i = .int .i64 k ∧ Below w.heap.size w wr ∧ Mo.each n most f = Mo.first (((List.range n).map f).drop k)) (fun i _ => n - (intOf i).toNat)
    case atStart => exact ⟨0, Nat.zero_le _, rfl, Below.refl _ _, by rw [hmo.out]; rfl⟩
    case round =>
      obtain ⟨k, hk, rfl, hB, he⟩ := hrel
      have HE := Lib.hid he
      clear he
      by_cases hlt : k < n
      · obtain ⟨b, off, x, rfl, hx, hb, hc⟩ := (H.below hB).at Fir.len (by rw [← Hn.out]; exact hlt)
        have Hx := Lib.hid hx
        have h0 : wr.cell? ⟨b, off + k * 2, none⟩ = some (.int .i64 x.t) := hc 0 (by omega)
        have h1 : wr.cell? ⟨b, off + k * 2 + 1, none⟩ = some (.int .i64 x.v) := hc 1 (by omega)
        clear hc hx
        have Hs := Lib.hid (Mo.first_range n k f hlt)
        go_wp2_with fail
        refine (Hcl.out k _ x Hx.out (by rw [← Hn.out]; exact hlt) ?_).mono ?_
        · exact hB.alloc hB.size _
        rintro e w1 ⟨rfl, hb1⟩
        have hB2 := (hB.alloc hB.size (Obj.cells #[.int .i64 x.t, .int .i64 x.v] 98)).call hb1 rfl
        go_wp2
        · go_ret
          exact ⟨ret_int (by rw [HE.out, Hs.out, if_pos (by simpa using ‹(f k != 0) = true›)]), hB2⟩
        · go_roundw
          case rel => exact ⟨k+1, by omega, by go_num, hB2, by rw [HE.out, Hs.out, if_neg (by simpa using ‹(f k != 0) = false›)]⟩
          case measure => simp [intOf]; omega
      · go_wp2
        go_ret
        exact ⟨ret_int (by rw [HE.out, Mo.first_range_end _ _ _ (by omega)]), hB⟩

theorem c148 (A : Option Addr) (cap : Nat) (l : List Spn) (most : Nat) (p0 : Addr) (f : Nat → Int) (w : World) (hm : most ≤ 100000) (hl : l.length ≤ 1000000) (H : RdL w 2 Spn.enc A l)
   (hcl : ∀ (k : Nat) (W : World) (x : Spn), l[k]? = some x → k < l.length → Below w.heap.size w W →
      Calls Tryz.prog 149 #[.int .i64 k, .agg #[.int .i64 x.f, .int .i64 x.t], .pointer (some p0)] W fun e w' => e = .returned (.int .i64 (f k)) ∧ Below W.heap.size W w') :
   Calls Tryz.prog 148 #[.slice A l.length cap, .int .i64 most, .func (.func 149) #[] #[.pointer (some p0)]] w fun en w' => en = .returned (.int .i64 (Mo.each l.length most f)) ∧ Below w.heap.size w w' := by
  obtain ⟨n, hn⟩ : ∃ n, n = l.length := ⟨_, rfl⟩
  rw [← hn] at hl ⊢
  have Hn := Lib.hid hn
  have Hcl := Lib.hid hcl
  clear hcl hn
  by_cases hn : most < n
  · go_enter Tryz.func148, Tryz.ntmps148
    go_wp2
    go_ret
    exact ⟨ret_int (by simp [Mo.each, hn]), Below.refl _ _⟩
  · have hmo : Hid (Mo.each n most f = Mo.first ((List.range n).map f)) := by show _ = _; simp [Mo.each, hn]
    go_enter Tryz.func148, Tryz.ntmps148
    go_wp2
    go_loopw [16] (fun i wr => ∃ k : Nat, k ≤ n ∧ i = .int .i64 k ∧ Below w.heap.size w wr ∧ Mo.each n most f = Mo.first (((List.range n).map f).drop k)) (fun i _ => n - (intOf i).toNat)
    case atStart => exact ⟨0, Nat.zero_le _, rfl, Below.refl _ _, by rw [hmo.out]; rfl⟩
    case round =>
      obtain ⟨k, hk, rfl, hB, he⟩ := hrel
      have HE := Lib.hid he
      clear he
      by_cases hlt : k < n
      · obtain ⟨b, off, x, rfl, hx, hb, hc⟩ := (H.below hB).at Spn.len (by rw [← Hn.out]; exact hlt)
        have Hx := Lib.hid hx
        have h0 : wr.cell? ⟨b, off + k * 2, none⟩ = some (.int .i64 x.f) := hc 0 (by omega)
        have h1 : wr.cell? ⟨b, off + k * 2 + 1, none⟩ = some (.int .i64 x.t) := hc 1 (by omega)
        clear hc hx
        have Hs := Lib.hid (Mo.first_range n k f hlt)
        go_wp2_with fail
        refine (Hcl.out k _ x Hx.out (by rw [← Hn.out]; exact hlt) ?_).mono ?_
        · exact hB.alloc hB.size _
        rintro e w1 ⟨rfl, hb1⟩
        have hB2 := (hB.alloc hB.size (Obj.cells #[.int .i64 x.f, .int .i64 x.t] 96)).call hb1 rfl
        go_wp2
        · go_ret
          exact ⟨ret_int (by rw [HE.out, Hs.out, if_pos (by simpa using ‹(f k != 0) = true›)]), hB2⟩
        · go_roundw
          case rel => exact ⟨k+1, by omega, by go_num, hB2, by rw [HE.out, Hs.out, if_neg (by simpa using ‹(f k != 0) = false›)]⟩
          case measure => simp [intOf]; omega
      · go_wp2
        go_ret
        exact ⟨ret_int (by rw [HE.out, Mo.first_range_end _ _ _ (by omega)]), hB⟩

theorem c118 (A : Option Addr) (cap : Nat) (l : List Ent) (most : Nat) (p0 p1 : Addr) (f : Nat → Int) (w : World) (hm : most ≤ 100000) (hl : l.length ≤ 1000000) (H : RdL w 3 Ent.enc A l)
   (hcl : ∀ (k : Nat) (W : World) (x : Ent), l[k]? = some x → k < l.length → Below w.heap.size w W →
      Calls Tryz.prog 119 #[.int .i64 k, .agg #[.int .i64 x.f, .int .i64 x.t, .string x.c], .pointer (some p0), .pointer (some p1)] W fun e w' => e = .returned (.int .i64 (f k)) ∧ Below W.heap.size W w') :
   Calls Tryz.prog 118 #[.slice A l.length cap, .int .i64 most, .func (.func 119) #[] #[.pointer (some p0), .pointer (some p1)]] w fun en w' => en = .returned (.int .i64 (Mo.each l.length most f)) ∧ Below w.heap.size w w' := by
  obtain ⟨n, hn⟩ : ∃ n, n = l.length := ⟨_, rfl⟩
  rw [← hn] at hl ⊢
  have Hn := Lib.hid hn
  have Hcl := Lib.hid hcl
  clear hcl hn
  by_cases hn : most < n
  · go_enter Tryz.func118, Tryz.ntmps118
    go_wp2
    go_ret
    exact ⟨ret_int (by simp [Mo.each, hn]), Below.refl _ _⟩
  · have hmo : Hid (Mo.each n most f = Mo.first ((List.range n).map f)) := by show _ = _; simp [Mo.each, hn]
    go_enter Tryz.func118, Tryz.ntmps118
    go_wp2
    go_loopw [16] (fun i wr => ∃ k : Nat, k ≤ n ∧ i = .int .i64 k ∧ Below w.heap.size w wr ∧ Mo.each n most f = Mo.first (((List.range n).map f).drop k)) (fun i _ => n - (intOf i).toNat)
    case atStart => exact ⟨0, Nat.zero_le _, rfl, Below.refl _ _, by rw [hmo.out]; rfl⟩
    case round =>
      obtain ⟨k, hk, rfl, hB, he⟩ := hrel
      have HE := Lib.hid he
      clear he
      by_cases hlt : k < n
      · obtain ⟨b, off, x, rfl, hx, hb, hc⟩ := (H.below hB).at Ent.len (by rw [← Hn.out]; exact hlt)
        have Hx := Lib.hid hx
        have h0 : wr.cell? ⟨b, off + k * 3, none⟩ = some (.int .i64 x.f) := hc 0 (by omega)
        have h1 : wr.cell? ⟨b, off + k * 3 + 1, none⟩ = some (.int .i64 x.t) := hc 1 (by omega)
        have h2 : wr.cell? ⟨b, off + k * 3 + 2, none⟩ = some (.string x.c) := hc 2 (by omega)
        clear hc hx
        have Hs := Lib.hid (Mo.first_range n k f hlt)
        go_wp2_with fail
        refine (Hcl.out k _ x Hx.out (by rw [← Hn.out]; exact hlt) ?_).mono ?_
        · exact hB.alloc hB.size _
        rintro e w1 ⟨rfl, hb1⟩
        have hB2 := (hB.alloc hB.size (Obj.cells #[.int .i64 x.f, .int .i64 x.t, .string x.c] 134)).call hb1 rfl
        go_wp2
        · go_ret
          exact ⟨ret_int (by rw [HE.out, Hs.out, if_pos (by simpa using ‹(f k != 0) = true›)]), hB2⟩
        · go_roundw
          case rel => exact ⟨k+1, by omega, by go_num, hB2, by rw [HE.out, Hs.out, if_neg (by simpa using ‹(f k != 0) = false›)]⟩
          case measure => simp [intOf]; omega
      · go_wp2
        go_ret
        exact ⟨ret_int (by rw [HE.out, Mo.first_range_end _ _ _ (by omega)]), hB⟩

theorem c129 (A : Option Addr) (cap : Nat) (l : List Res) (most : Nat) (p0 : Addr) (f : Nat → Int) (w : World) (hm : most ≤ 100000) (hl : l.length ≤ 1000000) (H : RdL w 3 Res.enc A l)
   (hcl : ∀ (k : Nat) (W : World) (x : Res), l[k]? = some x → k < l.length → Below w.heap.size w W →
      Calls Tryz.prog 130 #[.int .i64 k, .agg #[.string x.n, .int .i64 x.f, .int .i64 x.w], .pointer (some p0)] W fun e w' => e = .returned (.int .i64 (f k)) ∧ Below W.heap.size W w') :
   Calls Tryz.prog 129 #[.slice A l.length cap, .int .i64 most, .func (.func 130) #[] #[.pointer (some p0)]] w fun en w' => en = .returned (.int .i64 (Mo.each l.length most f)) ∧ Below w.heap.size w w' := by
  obtain ⟨n, hn⟩ : ∃ n, n = l.length := ⟨_, rfl⟩
  rw [← hn] at hl ⊢
  have Hn := Lib.hid hn
  have Hcl := Lib.hid hcl
  clear hcl hn
  by_cases hn : most < n
  · go_enter Tryz.func129, Tryz.ntmps129
    go_wp2
    go_ret
    exact ⟨ret_int (by simp [Mo.each, hn]), Below.refl _ _⟩
  · have hmo : Hid (Mo.each n most f = Mo.first ((List.range n).map f)) := by show _ = _; simp [Mo.each, hn]
    go_enter Tryz.func129, Tryz.ntmps129
    go_wp2
    go_loopw [16] (fun i wr => ∃ k : Nat, k ≤ n ∧ i = .int .i64 k ∧ Below w.heap.size w wr ∧ Mo.each n most f = Mo.first (((List.range n).map f).drop k)) (fun i _ => n - (intOf i).toNat)
    case atStart => exact ⟨0, Nat.zero_le _, rfl, Below.refl _ _, by rw [hmo.out]; rfl⟩
    case round =>
      obtain ⟨k, hk, rfl, hB, he⟩ := hrel
      have HE := Lib.hid he
      clear he
      by_cases hlt : k < n
      · obtain ⟨b, off, x, rfl, hx, hb, hc⟩ := (H.below hB).at Res.len (by rw [← Hn.out]; exact hlt)
        have Hx := Lib.hid hx
        have h0 : wr.cell? ⟨b, off + k * 3, none⟩ = some (.string x.n) := hc 0 (by omega)
        have h1 : wr.cell? ⟨b, off + k * 3 + 1, none⟩ = some (.int .i64 x.f) := hc 1 (by omega)
        have h2 : wr.cell? ⟨b, off + k * 3 + 2, none⟩ = some (.int .i64 x.w) := hc 2 (by omega)
        clear hc hx
        have Hs := Lib.hid (Mo.first_range n k f hlt)
        go_wp2_with fail
        refine (Hcl.out k _ x Hx.out (by rw [← Hn.out]; exact hlt) ?_).mono ?_
        · exact hB.alloc hB.size _
        rintro e w1 ⟨rfl, hb1⟩
        have hB2 := (hB.alloc hB.size (Obj.cells #[.string x.n, .int .i64 x.f, .int .i64 x.w] 210)).call hb1 rfl
        go_wp2
        · go_ret
          exact ⟨ret_int (by rw [HE.out, Hs.out, if_pos (by simpa using ‹(f k != 0) = true›)]), hB2⟩
        · go_roundw
          case rel => exact ⟨k+1, by omega, by go_num, hB2, by rw [HE.out, Hs.out, if_neg (by simpa using ‹(f k != 0) = false›)]⟩
          case measure => simp [intOf]; omega
      · go_wp2
        go_ret
        exact ⟨ret_int (by rw [HE.out, Mo.first_range_end _ _ _ (by omega)]), hB⟩

end Go.Proofs.YtndhjkammoeikaaGreatDoor
namespace Go.Proofs.YtndhjkammoeikaaGreatDoor
open Go.RowKit
set_option maxHeartbeats 400000

theorem c25 (a b c d e : Int) (w : World) : Calls Tryz.prog 25 #[.agg #[.int .i64 a, .int .i64 b, .int .i64 c, .int .i64 d, .int .i64 e]] w fun en w' => en = .returned (.int .i64 (Mo.vessel a b c d e)) ∧ Below w.heap.size w w' := by
  go_enter Tryz.func25, Tryz.ntmps25
  go_wp2
  obtain ⟨W, hW⟩ : ∃ W, W = w.alloc (Obj.cells #[.int .i64 a, .int .i64 b, .int .i64 c, .int .i64 d, .int .i64 e] 25) := ⟨_, rfl⟩
  have hk0 : W.cell? ⟨w.heap.size, 0, none⟩ = some (.int .i64 a) := by simp [hW]
  have hk1 : W.cell? ⟨w.heap.size, 1, none⟩ = some (.int .i64 b) := by simp [hW]
  have hk2 : W.cell? ⟨w.heap.size, 2, none⟩ = some (.int .i64 c) := by simp [hW]
  have hk3 : W.cell? ⟨w.heap.size, 3, none⟩ = some (.int .i64 d) := by simp [hW]
  have hk4 : W.cell? ⟨w.heap.size, 4, none⟩ = some (.int .i64 e) := by simp [hW]
  have hs : w.heap.size < W.heap.size := by simp [hW]; try omega
  have hB : Below w.heap.size w W := by rw [hW]; exact (Below.refl _ _).alloc (Nat.le_refl _) _
  rw [← hW]
  clear hW
  go_region_held3 (fun w' => (∀ b o, b < W.heap.size → w'.cell? ⟨b, o, none⟩ = W.cell? ⟨b, o, none⟩) ∧ Below W.heap.size W w') (first | exact keep_start | assumption | (refine keep_call ?_ (by assumption); assumption) | (refine keep_alloc _ ?_; assumption) | (refine keep_alloc_drew _ ?_; assumption))
      (first
        | (go_at_call 97; refine (c97 _ _ _ _ (by omega) (by omega)).mono ?_; rintro e w' ⟨rfl, hb⟩)
        | (go_at_call 49; refine (c49 _ _ _ _).mono ?_; rintro e w' ⟨rfl, rfl⟩)
        | (go_at_call 92; refine (c92 _ 3 _ [Mo.point a b 100000, Mo.point c d 1000, Mo.range e 1 4096] _ rfl (by omega) ?_).mono ?_; (first | exact RdS.of_new (by simp) rfl | exact RdS.drew (RdS.of_new (by simp) rfl)); rintro e w' ⟨rfl, rfl⟩))
  all_goals go_wp2
  all_goals go_ret
  all_goals exact ⟨rfl, fin_below hB (by assumption)⟩

theorem c26 (a b c d e : Int) (w : World) : Calls Tryz.prog 26 #[.agg #[.int .i64 a, .int .i64 b, .int .i64 c, .int .i64 d, .int .i64 e]] w fun en w' => en = .returned (.int .i64 (Mo.watch a b c d e)) ∧ Below w.heap.size w w' := by
  go_enter Tryz.func26, Tryz.ntmps26
  go_wp2
  obtain ⟨W, hW⟩ : ∃ W, W = w.alloc (Obj.cells #[.int .i64 a, .int .i64 b, .int .i64 c, .int .i64 d, .int .i64 e] 36) := ⟨_, rfl⟩
  have hk0 : W.cell? ⟨w.heap.size, 0, none⟩ = some (.int .i64 a) := by simp [hW]
  have hk1 : W.cell? ⟨w.heap.size, 1, none⟩ = some (.int .i64 b) := by simp [hW]
  have hk2 : W.cell? ⟨w.heap.size, 2, none⟩ = some (.int .i64 c) := by simp [hW]
  have hk3 : W.cell? ⟨w.heap.size, 3, none⟩ = some (.int .i64 d) := by simp [hW]
  have hk4 : W.cell? ⟨w.heap.size, 4, none⟩ = some (.int .i64 e) := by simp [hW]
  have hs : w.heap.size < W.heap.size := by simp [hW]; try omega
  have hB : Below w.heap.size w W := by rw [hW]; exact (Below.refl _ _).alloc (Nat.le_refl _) _
  rw [← hW]
  clear hW
  go_region_held3 (fun w' => (∀ b o, b < W.heap.size → w'.cell? ⟨b, o, none⟩ = W.cell? ⟨b, o, none⟩) ∧ Below W.heap.size W w') (first | exact keep_start | assumption | (refine keep_call ?_ (by assumption); assumption) | (refine keep_alloc _ ?_; assumption) | (refine keep_alloc_drew _ ?_; assumption))
      (first
        | (go_at_call 96; refine (c96 _ _ _ _).mono ?_; rintro e w' ⟨rfl, rfl⟩)
        | (go_at_call 94; refine (c94 _ 5 _ [Mo.range a 0 10000, Mo.range b 0 1000, Mo.range c 0 1000, Mo.range d 0 1000, Mo.range e 0 1000] _ rfl (by omega) ?_).mono ?_; (first | exact RdS.of_new (by simp) rfl | exact RdS.drew (RdS.of_new (by simp) rfl)); rintro e w' ⟨rfl, rfl⟩))
  all_goals go_wp2
  all_goals go_ret
  all_goals exact ⟨rfl, fin_below hB (by assumption)⟩

theorem c27 (a b c d e : Int) (w : World) : Calls Tryz.prog 27 #[.agg #[.int .i64 a, .int .i64 b, .int .i64 c, .int .i64 d, .int .i64 e]] w fun en w' => en = .returned (.int .i64 (Mo.watch a b c d e)) ∧ Below w.heap.size w w' := by
  go_enter Tryz.func27, Tryz.ntmps27
  go_wp2
  obtain ⟨W, hW⟩ : ∃ W, W = w.alloc (Obj.cells #[.int .i64 a, .int .i64 b, .int .i64 c, .int .i64 d, .int .i64 e] 27) := ⟨_, rfl⟩
  have hk0 : W.cell? ⟨w.heap.size, 0, none⟩ = some (.int .i64 a) := by simp [hW]
  have hk1 : W.cell? ⟨w.heap.size, 1, none⟩ = some (.int .i64 b) := by simp [hW]
  have hk2 : W.cell? ⟨w.heap.size, 2, none⟩ = some (.int .i64 c) := by simp [hW]
  have hk3 : W.cell? ⟨w.heap.size, 3, none⟩ = some (.int .i64 d) := by simp [hW]
  have hk4 : W.cell? ⟨w.heap.size, 4, none⟩ = some (.int .i64 e) := by simp [hW]
  have hs : w.heap.size < W.heap.size := by simp [hW]; try omega
  have hB : Below w.heap.size w W := by rw [hW]; exact (Below.refl _ _).alloc (Nat.le_refl _) _
  rw [← hW]
  clear hW
  go_region_held3 (fun w' => (∀ b o, b < W.heap.size → w'.cell? ⟨b, o, none⟩ = W.cell? ⟨b, o, none⟩) ∧ Below W.heap.size W w') (first | exact keep_start | assumption | (refine keep_call ?_ (by assumption); assumption) | (refine keep_alloc _ ?_; assumption) | (refine keep_alloc_drew _ ?_; assumption))
      (first
        | (go_at_call 49; refine (c49 _ _ _ _).mono ?_; rintro e w' ⟨rfl, rfl⟩)
        | (go_at_call 92; refine (c92 _ 5 _ [Mo.range a 0 10000, Mo.range b 0 1000, Mo.range c 0 1000, Mo.range d 0 1000, Mo.range e 0 1000] _ rfl (by omega) ?_).mono ?_; (first | exact RdS.of_new (by simp) rfl | exact RdS.drew (RdS.of_new (by simp) rfl)); rintro e w' ⟨rfl, rfl⟩))
  all_goals go_wp2
  all_goals go_ret
  all_goals exact ⟨rfl, fin_below hB (by assumption)⟩

end Go.Proofs.YtndhjkammoeikaaGreatDoor
namespace Go.Proofs.YtndhjkammoeikaaGreatDoor
open Go.RowKit
set_option maxHeartbeats 400000

theorem c120 (f t : Int) (w : World) : Calls Tryz.prog 120 #[.agg #[.int .i64 f, .int .i64 t]] w fun en w' => en = .returned (.int .i64 (Mo.when (Mo.badSpan f t) 14)) ∧ Below w.heap.size w w' := by
  have hB : Below w.heap.size w (w.alloc (Obj.cells #[.int .i64 f, .int .i64 t] 96)) := (Below.refl _ _).alloc (Nat.le_refl _) _
  go_enter Tryz.func120, Tryz.ntmps120
  go_wp2
  all_goals go_ret
  all_goals (refine ⟨ret_int ?_, hB⟩; simp [Mo.badSpan, Mo.when]; try omega)
theorem c111 (f t : Int) (w : World) : Calls Tryz.prog 111 #[.agg #[.int .i64 f, .int .i64 t]] w fun en w' => en = .returned (.bool (Mo.badSpan f t)) ∧ Below w.heap.size w w' := by
  have hB : Below w.heap.size w (w.alloc (Obj.cells #[.int .i64 f, .int .i64 t] 96)) := (Below.refl _ _).alloc (Nat.le_refl _) _
  go_enter Tryz.func111, Tryz.ntmps111
  go_wp2
  all_goals go_ret
  all_goals (refine ⟨ret_bool ?_, hB⟩; simp [Mo.badSpan, Bool.or_assoc]; try omega)
theorem c152 (f t k : Int) (w : World) : Calls Tryz.prog 152 #[.agg #[.int .i64 f, .int .i64 t], .int .i64 k] w fun en w' => en = .returned (.bool (Mo.has f t k)) ∧ Below w.heap.size w w' := by
  have hB : Below w.heap.size w (w.alloc (Obj.cells #[.int .i64 f, .int .i64 t] 96)) := (Below.refl _ _).alloc (Nat.le_refl _) _
  go_enter Tryz.func152, Tryz.ntmps152
  go_wp2
  all_goals go_ret
  all_goals (refine ⟨ret_bool ?_, hB⟩; simp [Mo.has]; try omega)
theorem c107 (a b c d e : Int) (w : World) (h0 : 0 ≤ e) (h1 : e ≤ 1000) : Calls Tryz.prog 107 #[.agg #[.int .i64 a, .int .i64 b, .int .i64 c, .int .i64 d, .int .i64 e]] w fun en w' => en = .returned (.int .i64 (e + 1)) ∧ Below w.heap.size w w' := by
  have hB : Below w.heap.size w (w.alloc (Obj.cells #[.int .i64 a, .int .i64 b, .int .i64 c, .int .i64 d, .int .i64 e] 36)) := (Below.refl _ _).alloc (Nat.le_refl _) _
  go_enter Tryz.func107, Tryz.ntmps107
  go_wp2
  all_goals go_ret
  all_goals exact ⟨rfl, hB⟩
theorem c126 (n : ByteArray) (a b : Int) (w : World) : Calls Tryz.prog 126 #[.agg #[.string n, .int .i64 a, .int .i64 b]] w fun en w' => en = .returned (.bool (decide (b ≤ a))) ∧ Below w.heap.size w w' := by
  have hB : Below w.heap.size w (w.alloc (Obj.cells #[.string n, .int .i64 a, .int .i64 b] 210)) := (Below.refl _ _).alloc (Nat.le_refl _) _
  go_enter Tryz.func126, Tryz.ntmps126
  go_wp2
  all_goals go_ret
  all_goals (refine ⟨ret_bool ?_, hB⟩; simp [*])

end Go.Proofs.YtndhjkammoeikaaGreatDoor
namespace Go.Proofs.YtndhjkammoeikaaGreatDoor
open Go.RowKit
set_option maxHeartbeats 400000

theorem c99 (A : Option Addr) (cap : Nat) (l : List Sgt) (pb k : Nat) (s : Sgt) (w : World) (hlen : l.length ≤ 1000000) (hpb : pb < w.heap.size) (hp : w.cell? ⟨pb, 0, none⟩ = some (.slice A l.length cap))
    (H : RdL w 3 Sgt.enc A l) (hk : l[k]? = some s) : Calls Tryz.prog 99 #[.int .i64 k, .agg #[.int .i64 s.t, .int .i64 s.x, .int .i64 s.y], .pointer (some ⟨pb, 0, none⟩)] w fun en w' => en = .returned (.int .i64 (Mo.sgt1 l k)) ∧ Below w.heap.size w w' := by
  have hkl : k < l.length := (List.getElem?_eq_some_iff.1 hk).1
  obtain ⟨n, hn⟩ : ∃ n, n = l.length := ⟨_, rfl⟩
  rw [← hn] at hp hlen hkl
  have Hn := Lib.hid hn
  have Hk := Lib.hid hk
  clear hn hk
  obtain ⟨W, hW⟩ : ∃ W, W = w.alloc (Obj.cells #[.int .i64 s.t, .int .i64 s.x, .int .i64 s.y] 166) := ⟨_, rfl⟩
  have hk0 : W.cell? ⟨w.heap.size, 0, none⟩ = some (.int .i64 s.t) := by simp [hW]
  have hk1 : W.cell? ⟨w.heap.size, 1, none⟩ = some (.int .i64 s.x) := by simp [hW]
  have hk2 : W.cell? ⟨w.heap.size, 2, none⟩ = some (.int .i64 s.y) := by simp [hW]
  have hkp : W.cell? ⟨pb, 0, none⟩ = some (.slice A n cap) := by rw [hW, World.cell?_alloc_lt _ _ _ hpb]; exact hp
  have hs : w.heap.size < W.heap.size := by simp [hW]
  have hpW : pb < W.heap.size := by omega
  have hB : Below w.heap.size w W := by rw [hW]; exact (Below.refl _ _).alloc (Nat.le_refl _) _
  have HW := H.below hB
  clear H hp
  rcases Nat.eq_zero_or_pos k with hk0 | hk0
  · subst hk0
    have hfin : Hid (Mo.sgt1 l 0 = Mo.first [Mo.range s.t 0 100000, Mo.point s.x s.y 100000, Mo.when false 11]) := by show _ = _; unfold Mo.sgt1; rw [Hk.out]; simp
    clear HW
    go_enter Tryz.func99, Tryz.ntmps99
    go_wp2
    rw [← hW]
    clear hW
    refine wp_region_splitG 21 (by kernel_rfl) (by kernel_rfl) ?_
    simp only [List.take_succ_cons, List.take_zero, List.drop_succ_cons, List.drop_zero]
    repeat (go_big_quiet_step ((first | (go_at_call 96; exact Calls.gw_same (c96 _ _ _ _)) | (go_at_call 95; exact Calls.gw_of (c95 _ _ _ _ (by omega) (by omega))) | (go_at_call 100; exact Calls.gw_same (c100 _ _ _)))))
    refine wpQuiet_nil (gw_out ?_)
    intro w1 hb1
    go_wp2_with (first | (go_at_call 94; refine (c94 _ 3 _ [Mo.range s.t 0 100000, Mo.point s.x s.y 100000, Mo.when false 11] _ rfl (by omega) ?_).mono ?_; (first | exact RdS.of_new (by simp) rfl | exact RdS.drew (RdS.of_new (by simp) rfl)); rintro e w' ⟨rfl, rfl⟩))
    all_goals go_ret
    all_goals exact ⟨ret_int hfin.out.symm, fin1 hB hb1 _⟩
  · obtain ⟨b, off, q, rfl, hq, hb, hc⟩ := HW.at Sgt.len (k := k - 1) (by rw [← Hn.out]; omega)
    have hq0 : W.cell? ⟨b, off + (k - 1) * 3, none⟩ = some (.int .i64 q.t) := hc 0 (by omega)
    have Hq := Lib.hid hq
    clear hc hq HW
    have hmx : (if (1:Int) < (k:Int) then (k:Int) - 1 else 0).toNat = k - 1 := by split <;> omega
    have hfin : Hid (Mo.sgt1 l k = Mo.first [Mo.range s.t 0 100000, Mo.point s.x s.y 100000, Mo.when (decide (s.t < q.t)) 11]) := by show _ = _; unfold Mo.sgt1; rw [Hk.out, Hq.out]; simp [hk0]
    go_enter Tryz.func99, Tryz.ntmps99
    go_wp2
    rw [← hW]
    clear hW
    refine wp_region_splitG 21 (by kernel_rfl) (by kernel_rfl) ?_
    simp only [List.take_succ_cons, List.take_zero, List.drop_succ_cons, List.drop_zero]
    repeat (go_big_quiet_step ((first | (go_at_call 96; exact Calls.gw_same (c96 _ _ _ _)) | (go_at_call 95; exact Calls.gw_of (c95 _ _ _ _ (by omega) (by omega))) | (go_at_call 100; exact Calls.gw_same (c100 _ _ _)))))
    refine wpQuiet_nil (gw_out ?_)
    intro w1 hb1
    go_wp2_with (first | (go_at_call 94; refine (c94 _ 3 _ [Mo.range s.t 0 100000, Mo.point s.x s.y 100000, Mo.when (decide (s.t < q.t)) 11] _ rfl (by omega) ?_).mono ?_; (first | exact RdS.of_new (by simp) rfl | exact RdS.drew (RdS.of_new (by simp) rfl)); rintro e w' ⟨rfl, rfl⟩))
    all_goals go_ret
    all_goals exact ⟨ret_int hfin.out.symm, fin1 hB hb1 _⟩

theorem c149 (A : Option Addr) (cap : Nat) (l : List Spn) (pb k : Nat) (s : Spn) (w : World) (hlen : l.length ≤ 1000000) (hpb : pb < w.heap.size) (hp : w.cell? ⟨pb, 0, none⟩ = some (.slice A l.length cap))
    (H : RdL w 2 Spn.enc A l) (hk : l[k]? = some s) : Calls Tryz.prog 149 #[.int .i64 k, .agg #[.int .i64 s.f, .int .i64 s.t], .pointer (some ⟨pb, 0, none⟩)] w fun en w' => en = .returned (.int .i64 (Mo.spn1 l k)) ∧ Below w.heap.size w w' := by
  have hkl : k < l.length := (List.getElem?_eq_some_iff.1 hk).1
  obtain ⟨n, hn⟩ : ∃ n, n = l.length := ⟨_, rfl⟩
  rw [← hn] at hp hlen hkl
  have Hn := Lib.hid hn
  have Hk := Lib.hid hk
  clear hn hk
  obtain ⟨W, hW⟩ : ∃ W, W = w.alloc (Obj.cells #[.int .i64 s.f, .int .i64 s.t] 96) := ⟨_, rfl⟩
  have hk0 : W.cell? ⟨w.heap.size, 0, none⟩ = some (.int .i64 s.f) := by simp [hW]
  have hk1 : W.cell? ⟨w.heap.size, 1, none⟩ = some (.int .i64 s.t) := by simp [hW]
  have hkp : W.cell? ⟨pb, 0, none⟩ = some (.slice A n cap) := by rw [hW, World.cell?_alloc_lt _ _ _ hpb]; exact hp
  have hs : w.heap.size < W.heap.size := by simp [hW]
  have hpW : pb < W.heap.size := by omega
  have hB : Below w.heap.size w W := by rw [hW]; exact (Below.refl _ _).alloc (Nat.le_refl _) _
  have HW := H.below hB
  clear H hp
  rcases Nat.eq_zero_or_pos k with hk0 | hk0
  · subst hk0
    have hfin : Hid (Mo.spn1 l 0 = Mo.first [Mo.when (Mo.badSpan s.f s.t) 14, Mo.when false 11]) := by show _ = _; unfold Mo.spn1; rw [Hk.out]; simp
    clear HW
    go_enter Tryz.func149, Tryz.ntmps149
    go_wp2
    rw [← hW]
    clear hW
    refine wp_region_splitG 17 (by kernel_rfl) (by kernel_rfl) ?_
    simp only [List.take_succ_cons, List.take_zero, List.drop_succ_cons, List.drop_zero]
    repeat (go_big_quiet_step ((first | (go_at_call 120; exact Calls.gw_of (c120 _ _ _)) | (go_at_call 100; exact Calls.gw_same (c100 _ _ _)))))
    refine wpQuiet_nil (gw_out ?_)
    intro w1 hb1
    go_wp2_with (first | (go_at_call 94; refine (c94 _ 2 _ [Mo.when (Mo.badSpan s.f s.t) 14, Mo.when false 11] _ rfl (by omega) ?_).mono ?_; (first | exact RdS.of_new (by simp) rfl | exact RdS.drew (RdS.of_new (by simp) rfl)); rintro e w' ⟨rfl, rfl⟩))
    all_goals go_ret
    all_goals exact ⟨ret_int hfin.out.symm, fin1 hB hb1 _⟩
  · obtain ⟨b, off, q, rfl, hq, hb, hc⟩ := HW.at Spn.len (k := k - 1) (by rw [← Hn.out]; omega)
    have hq0 : W.cell? ⟨b, off + (k - 1) * 2 + 1, none⟩ = some (.int .i64 q.t) := hc 1 (by omega)
    have Hq := Lib.hid hq
    clear hc hq HW
    have hmx : (if (1:Int) < (k:Int) then (k:Int) - 1 else 0).toNat = k - 1 := by split <;> omega
    have hfin : Hid (Mo.spn1 l k = Mo.first [Mo.when (Mo.badSpan s.f s.t) 14, Mo.when (decide (s.f < q.t)) 11]) := by show _ = _; unfold Mo.spn1; rw [Hk.out, Hq.out]; simp [hk0]
    go_enter Tryz.func149, Tryz.ntmps149
    go_wp2
    rw [← hW]
    clear hW
    refine wp_region_splitG 17 (by kernel_rfl) (by kernel_rfl) ?_
    simp only [List.take_succ_cons, List.take_zero, List.drop_succ_cons, List.drop_zero]
    repeat (go_big_quiet_step ((first | (go_at_call 120; exact Calls.gw_of (c120 _ _ _)) | (go_at_call 100; exact Calls.gw_same (c100 _ _ _)))))
    refine wpQuiet_nil (gw_out ?_)
    intro w1 hb1
    go_wp2_with (first | (go_at_call 94; refine (c94 _ 2 _ [Mo.when (Mo.badSpan s.f s.t) 14, Mo.when (decide (s.f < q.t)) 11] _ rfl (by omega) ?_).mono ?_; (first | exact RdS.of_new (by simp) rfl | exact RdS.drew (RdS.of_new (by simp) rfl)); rintro e w' ⟨rfl, rfl⟩))
    all_goals go_ret
    all_goals exact ⟨ret_int hfin.out.symm, fin1 hB hb1 _⟩

end Go.Proofs.YtndhjkammoeikaaGreatDoor
namespace Go.Proofs.YtndhjkammoeikaaGreatDoor
open Go.RowKit
set_option maxHeartbeats 400000

theorem c28 (A : Option Addr) (cap : Nat) (l : List Sgt) (w : World) (hlen : l.length ≤ 1000000) (H : RdL w 3 Sgt.enc A l) :
    Calls Tryz.prog 28 #[.slice A l.length cap] w fun en w' => en = .returned (.int .i64 (Mo.sightings l)) ∧ Below w.heap.size w w' := by
  obtain ⟨W, hW⟩ : ∃ W, W = w.alloc (Obj.cells #[.slice A l.length cap] 37) := ⟨_, rfl⟩
  have hk0 : W.cell? ⟨w.heap.size, 0, none⟩ = some (.slice A l.length cap) := by simp [hW]
  have hs : w.heap.size < W.heap.size := by simp [hW]
  have hB : Below w.heap.size w W := by rw [hW]; exact (Below.refl _ _).alloc (Nat.le_refl _) _
  have HW := H.below hB
  have HC := Lib.hid (c98 A cap l 64 ⟨w.heap.size, 0, none⟩ (Mo.sgt1 l) W (by omega) hlen HW (fun k W' x hx _ hb => c99 A cap l w.heap.size k x W' hlen (by have := hb.size; omega) ((hb.cell (p := ⟨w.heap.size, 0, none⟩) hs).trans hk0) (HW.below hb) hx))
  clear H HW
  go_enter Tryz.func28, Tryz.ntmps28
  go_wp2_with fail
  rw [← hW]
  clear hW
  go_wp2_with fail
  refine HC.out.mono ?_
  rintro e w1 ⟨rfl, hb1⟩
  go_wp2
  go_ret
  exact ⟨rfl, fin0 hB hb1⟩

theorem c105 (A : Option Addr) (cap : Nat) (l : List Spn) (w : World) (hlen : l.length ≤ 1000000) (H : RdL w 2 Spn.enc A l) :
    Calls Tryz.prog 105 #[.slice A l.length cap] w fun en w' => en = .returned (.int .i64 (Mo.spans l)) ∧ Below w.heap.size w w' := by
  obtain ⟨W, hW⟩ : ∃ W, W = w.alloc (Obj.cells #[.slice A l.length cap] 42) := ⟨_, rfl⟩
  have hk0 : W.cell? ⟨w.heap.size, 0, none⟩ = some (.slice A l.length cap) := by simp [hW]
  have hs : w.heap.size < W.heap.size := by simp [hW]
  have hB : Below w.heap.size w W := by rw [hW]; exact (Below.refl _ _).alloc (Nat.le_refl _) _
  have HW := H.below hB
  have HC := Lib.hid (c148 A cap l 256 ⟨w.heap.size, 0, none⟩ (Mo.spn1 l) W (by omega) hlen HW (fun k W' x hx _ hb => c149 A cap l w.heap.size k x W' hlen (by have := hb.size; omega) ((hb.cell (p := ⟨w.heap.size, 0, none⟩) hs).trans hk0) (HW.below hb) hx))
  clear H HW
  go_enter Tryz.func105, Tryz.ntmps105
  go_wp2_with fail
  rw [← hW]
  clear hW
  go_wp2_with fail
  refine HC.out.mono ?_
  rintro e w1 ⟨rfl, hb1⟩
  go_wp2
  go_ret
  exact ⟨rfl, fin0 hB hb1⟩

end Go.Proofs.YtndhjkammoeikaaGreatDoor
namespace Go.Proofs.YtndhjkammoeikaaGreatDoor
namespace Mo
theorem first_snoc (xs : List Int) (c : Int) : first (xs ++ [c]) = if first xs ≠ 0 then first xs else c := by
  induction xs with
  | nil => simp only [List.nil_append, first]; split <;> simp_all
  | cons x xs ih =>
    simp only [List.cons_append, first]
    by_cases h : x ≠ 0
    · simp [h]
    · simp only [if_neg h, ih]
theorem sgt1_eq {l : List Sgt} {k : Nat} {s : Sgt} (h : l[k]? = some s) (c : Bool) (hc : decide (0 < k ∧ s.t < ((l[k-1]?).getD ⟨0,0,0⟩).t) = c) :
    sgt1 l k = if first [range s.t 0 100000, point s.x s.y 100000] ≠ 0 then first [range s.t 0 100000, point s.x s.y 100000] else when c 11 := by
  unfold sgt1; rw [h]; simp only []
  rw [hc]
  exact first_snoc [_, _] _
theorem spn1_eq {l : List Spn} {k : Nat} {s : Spn} (h : l[k]? = some s) (c : Bool) (hc : decide (0 < k ∧ s.f < ((l[k-1]?).getD ⟨0,0⟩).t) = c) :
    spn1 l k = if badSpan s.f s.t = true then 14 else when c 11 := by
  unfold spn1; rw [h]; simp only []
  rw [hc]
  cases hb : badSpan s.f s.t <;> cases c <;> simp [first, when]
end Mo
end Go.Proofs.YtndhjkammoeikaaGreatDoor
