/- A part of the proofs about chapter 7 (image): contracts of functions and plain laws (Split, Base, Blk, Float, Plan, PlanF, Util, Bridge, Bridge2, PTimes, PDij, PPath, POps, Model, PlanL). -/
import Derived.Deep.QuietTactic
import Derived.BigQuiet
import Derived.Below
import Derived.WalkKit
import Derived.Sort.Grow
import Derived.WalkLawsBesides
import Derived.WalkSpells
import Derived.Outline
import Derived.KernelRfl
import Derived.RegionTactic
import Derived.Deep.RegionHeld3
import Derived.Deep.DeepCutAuto
import Derived.Lib.Hide
import Derived.Deep.MidRow
import Derived.Laws.MakeOwn
import Derived.Laws.CopyOwn
import Derived.Laws.AppendOwnNone
import Derived.RangeFuncNested
import Derived.RangeFuncBound
import Derived.RangeFuncCalls
import Derived.RangeFuncLeaves
import Derived.Shelf.Abstract
import Derived.Shelf.RegionOpen
import Derived.OwnWalkIn
import Derived.TacticsInMore
import Derived.LoopNIn
import Derived.LoopIn
set_option linter.all false
/- A region that draws its order: a front part that only reads and calls what reads or grows, every operation of which the rest waits for; then a rest that can come up in one order only. -/
namespace Go
section
variable {P : Program} {ops : Array Oper} {md : Region.Mode} {C : World → Prop}

/-- only front operations come up, till all of them have; then E. -/
def wpFront (P : Program) (md : Region.Mode) (ops : Array Oper) (C : World → Prop) (E : Array Bool → Act → Prop) : Nat → Array Bool → Act → Prop
 | 0, listed, a => E listed a
 | fuel + 1, listed, a => Region.ready md ops listed ≠ [] ∧ ∀ i ∈ Region.ready md ops listed, qOp P ops C i (wpFront P md ops C E fuel (listed.setIfInBounds i true)) a

theorem wpAny_of_front {E : Array Bool → Act → Prop} {Q' : Exit → Act → World → Prop} {r : Nat} (hE : ∀ listed a w, C w → E listed a → wpAny P md ops Q' r listed a w) : ∀ (fuel : Nat) (listed : Array Bool) (a : Act) (w : World), C w →
  wpFront P md ops C E fuel listed a → wpAny P md ops Q' (fuel + r) listed a w
 | 0, _, _, _, hw, h => by rw [Nat.zero_add]; exact hE _ _ _ hw h
 | fuel + 1, _, _, _, hw, h => by
  rw [Nat.add_right_comm]
  exact ⟨fun h0 => absurd h0 h.1, fun i hi => wpOp_of_qOp hw (fun a' w' hw' => wpAny_of_front hE fuel _ a' w' hw') (h.2 i hi)⟩

/-- The state of a front part of m operations: what is listed is closed downwards, lies in the front, and 'left' of the front are still to come. -/
structure Front (md : Region.Mode) (ops : Array Oper) (m : Nat) (left : Nat) (listed : Array Bool) : Prop where
 size : listed.size = ops.size
 down : ∀ i o, ops[i]? = some o → listed.getD i false = true → ∀ e ∈ o.after, Region.binds md e = true → listed.getD e.on false = true
 front : ∀ i, m ≤ i → listed.getD i false = false
 count : ((List.range m).filter fun i => !listed.getD i false).length = left

def Region.frontB (md : Region.Mode) (ops : Array Oper) (m : Nat) : Bool :=
 m ≤ ops.size &&
 ((List.range m).all fun j => (List.range (m + 1)).any fun h => j < h && h < ops.size && ((ops[h]?).map fun o => o.after.any fun e => Region.binds md e && e.on == j).getD false) &&
 ((List.range ops.size).all fun s => s ≤ m || ((ops[s]?).map fun o => o.after.any fun e => Region.binds md e && m ≤ e.on).getD true)

theorem getD_false_true {listed : Array Bool} {i : Nat} (hi : i < listed.size) : listed.getD i true = listed.getD i false := by
 simp [hi]

theorem Front.not_ready {m left : Nat} {listed : Array Bool} (hB : Region.frontB md ops m = true) (hf : Front md ops m (left + 1) listed) : ∀ i ∈ Region.ready md ops listed, i < m := by
 intro i hi
 simp only [Region.frontB, Bool.and_eq_true, decide_eq_true_eq, List.all_eq_true, List.mem_range, List.any_eq_true, Bool.or_eq_true] at hB
 obtain ⟨⟨hm, hA⟩, hS⟩ := hB
 rcases Nat.lt_or_ge i m with h | h
 ·exact h
 exfalso
 obtain ⟨_, o, ho, hall⟩ := mem_ready.1 hi
 have him : i = m := by
  rcases hS i (Array.getElem?_eq_some_iff.1 ho).1 with h1 | h1
  ·omega
  ·rw [ho] at h1
   simp only [Option.map_some, Option.getD_some, Array.any_eq_true, Bool.and_eq_true, decide_eq_true_eq] at h1
   obtain ⟨q, hq, hb, hle⟩ := h1
   have h2 := hall _ (Array.getElem_mem hq) hb
   rw [hf.front _ hle] at h2
   cases h2
 subst him
 -- everything in the front is listed
 have key : ∀ d j, j < i → i - j ≤ d → listed.getD j false = true := by
  intro d
  induction d with
  | zero => intro j hj hd; omega
  | succ d ih =>
   intro j hj hd
   obtain ⟨h', hh', h3⟩ := hA j hj
   have ⟨⟨h4, h5⟩, h6⟩ := h3
   obtain ⟨oh, hoh⟩ : ∃ oh, ops[h']? = some oh := ⟨ops[h'], Array.getElem?_eq_getElem h5⟩
   rw [hoh] at h6
   simp only [Option.map_some, Option.getD_some, Array.any_eq_true, Bool.and_eq_true, beq_iff_eq] at h6
   obtain ⟨q, hq, hb, he⟩ := h6
   rcases Nat.lt_or_ge h' i with hlt | hge
   ·have := hf.down h' oh hoh (ih h' hlt (by omega)) _ (Array.getElem_mem hq) hb
    rw [he] at this; exact this
   ·have : h' = i := by omega
    subst this
    rw [ho] at hoh
    cases hoh
    have := hall _ (Array.getElem_mem hq) hb
    rw [he] at this; exact this
 have h0 : ((List.range i).filter fun j => !listed.getD j false) = [] := by
  rw [List.filter_eq_nil_iff]
  intro j hj
  rw [List.mem_range] at hj
  rw [key (i - j) j hj (Nat.le_refl _)]
  simp
 have hc := hf.count
 rw [h0] at hc
 simp at hc

theorem filter_len_set {m i : Nat} {listed : Array Bool} (hi : i < m) (hs : i < listed.size) (hu : listed.getD i false = false) :
  ((List.range m).filter fun j => !(listed.setIfInBounds i true).getD j false).length + 1 = ((List.range m).filter fun j => !listed.getD j false).length := by
 have key : ∀ n, ((List.range n).filter fun j => !(listed.setIfInBounds i true).getD j false).length + (if i < n then 1 else 0) = ((List.range n).filter fun j => !listed.getD j false).length := by
  intro n
  induction n with
  | zero => simp
  | succ n ih =>
   rw [List.range_succ, List.filter_append, List.filter_append, List.length_append, List.length_append]
   by_cases hin : i = n
   ·subst hin
    have h1 : (listed.setIfInBounds i true).getD i false = true := by simp [hs]
    simp only [Nat.lt_irrefl, if_false, Nat.add_zero] at ih
    have h1' : (listed.setIfInBounds i true)[i]?.getD false = true := by simpa using h1
    have hu' : listed[i]?.getD false = false := by simpa using hu
    simp only [List.filter_cons, h1, hu, Bool.not_true, Bool.not_false, List.filter_nil, List.length_nil, List.length_cons, if_true, Bool.false_eq_true, if_false]
    rw [if_pos (show i < i + 1 by omega)]
    omega
   ·have h2 : (listed.setIfInBounds i true).getD n false = listed.getD n false := getD_set_ne false hin
    simp only [List.filter_cons, h2, List.filter_nil]
    by_cases hlt : i < n
    ·rw [if_pos hlt] at ih; rw [if_pos (show i < n + 1 by omega)]; omega
    ·rw [if_neg hlt] at ih; rw [if_neg (show ¬ i < n + 1 by omega)]; omega
 have := key m
 rw [if_pos hi] at this
 exact this

theorem Front.step {m left i : Nat} {listed : Array Bool} (hf : Front md ops m (left + 1) listed) (hr : i ∈ Region.ready md ops listed) (hi : i < m) : Front md ops m left (listed.setIfInBounds i true) := by
 obtain ⟨hu, o, ho, hall⟩ := mem_ready.1 hr
 have hlt : i < ops.size := (Array.getElem?_eq_some_iff.1 ho).1
 have hs : i < listed.size := by rw [hf.size]; exact hlt
 refine ⟨by simp [hf.size], fun j oj hj hl e he hb => ?_, fun j hj => ?_, ?_⟩
 ·by_cases hij : i = j
  ·subst hij
   rw [ho] at hj; cases hj
   exact getD_set_true (hall e he hb)
  ·rw [getD_set_ne false hij] at hl
   exact getD_set_true (hf.down j oj hj hl e he hb)
 ·rw [getD_set_ne false (by omega)]; exact hf.front j hj
 ·have := filter_len_set hi hs (by rw [← getD_false_true hs]; exact hu)
  have hc := hf.count
  omega

theorem Front.ne_nil {m left : Nat} {listed : Array Bool} {i : Nat} (hr : i ∈ Region.ready md ops listed) : Region.ready md ops listed ≠ [] := by
 intro h; rw [h] at hr; cases hr

theorem wpFront_first {m : Nat} (hB : Region.frontB md ops m = true) {E : Array Bool → Act → Prop} {i : Nat} {oi : Oper} {v : Value} (hi : ops[i]? = some oi) (hsel : ∀ (j : Nat) (o : Oper) cs b, ops[j]? = some o → o.op ≠ .select cs b) :
  ∀ (fuel : Nat) (listed : Array Bool) (a : Act), Front md ops m (fuel + 1) listed →
   (∀ j oj, ops[j]? = some oj → j ≠ i → listed.getD j true = false → (∀ e ∈ oj.after, Region.binds md e = true → e.on ≠ i) → oi.apart ops oj = true) →
   i ∈ Region.ready md ops listed → YieldsIn P ops C oi v a →
   wpFront P md ops C E fuel (listed.setIfInBounds i true) (a.put oi.dst v) → wpFront P md ops C E (fuel + 1) listed a := by
 intro fuel
 induction fuel with
 | zero =>
  intro listed a hF hfree hr hy H
  refine ⟨fun h => (by rw [h] at hr; cases hr), fun j hj => ?_⟩
  by_cases hji : j = i
  ·subst hji; exact hy.qOp hi H
  ·exfalso
   have h1 := hF.step hr (hF.not_ready hB i hr)
   have h2 := ready_mono hj hji
   have hjm := hF.not_ready hB j hj
   have h3 : j ∈ (List.range m).filter fun k => !(listed.setIfInBounds i true).getD k false := by
    rw [List.mem_filter, List.mem_range]
    refine ⟨hjm, ?_⟩
    obtain ⟨hu, o, ho, _⟩ := mem_ready.1 h2
    rw [getD_false_true (by rw [h1.size]; exact (Array.getElem?_eq_some_iff.1 ho).1)] at hu
    rw [hu]; rfl
   have h4 := h1.count
   rw [List.length_eq_zero_iff] at h4
   rw [h4] at h3
   cases h3
 | succ fuel ih =>
  intro listed a hF hfree hr hy H
  refine ⟨fun h => (by rw [h] at hr; cases hr), fun j hj => ?_⟩
  by_cases hji : j = i
  ·subst hji; exact hy.qOp hi H
  ·have h1 := H.2 j (ready_mono hj hji)
   obtain ⟨hjun, oj, hoj, hall⟩ := mem_ready.1 hj
   have hnot : ∀ e ∈ oj.after, Region.binds md e = true → e.on ≠ i := fun e he hb heq => by
    have h1 := hall e he hb
    have h0 := (mem_ready.1 hr).1
    rw [heq] at h1
    rcases Nat.lt_or_ge i listed.size with h' | h'
    ·simp [h'] at h0 h1; rw [h0] at h1; cases h1
    ·simp [Array.getElem?_eq_none h'] at h1
   have h2 := qOp_put hoj (hfree j oj hoj hji hjun hnot) (fun cs b => hsel i oi cs b hi) (fun cs b => hsel j oj cs b hoj) hy h1
   have hfree' : ∀ k ok, ops[k]? = some ok → k ≠ i → (listed.setIfInBounds j true).getD k true = false →
     (∀ e ∈ ok.after, Region.binds md e = true → e.on ≠ i) → oi.apart ops ok = true := fun k ok hk hki hun hno => by
    refine hfree k ok hk hki ?_ hno
    by_cases hjk : j = k
    ·subst hjk; exact hjun
    ·rw [getD_set_ne true hjk] at hun; exact hun
   refine qOp_mono (fun a' h3 => ih (listed.setIfInBounds j true) a' (hF.step hj (hF.not_ready hB j hj)) hfree' (ready_mono hr (Ne.symm hji)) h3.1 ?_) h2
   rw [Array.setIfInBounds_comm _ _ hji]
   exact h3.2

def Region.lexFront (md : Region.Mode) (ops : Array Oper) : Nat → Nat → Array Bool → Bool
 | 0, _, _ => true
 | fuel + 1, k, listed => (Region.ready md ops listed).contains k && Region.free md ops listed k && Region.lexFront md ops fuel (k + 1) (listed.setIfInBounds k true)

theorem wpFront_lex {m : Nat} (hB : Region.frontB md ops m = true) {E : Array Bool → Act → Prop} (hs : Region.noSelect ops = true) : ∀ (l : List Oper) (k : Nat) (listed : Array Bool) (a : Act), (∀ j, j < l.length → l[j]? = ops[k + j]?) →
  Front md ops m l.length listed → Region.lexFront md ops l.length k listed = true → wpQuiet P ops C (fun a => E ((List.range' k l.length).foldl (fun b i => b.setIfInBounds i true) listed) a) l a → wpFront P md ops C E l.length listed a
 | [], _, _, _, _, _, _, h => h
 | o :: l, k, listed, a, hl, hF, hL, h => by
  have h0 : ops[k]? = some o := by simpa using (hl 0 (by simp)).symm
  simp only [List.length_cons, Region.lexFront, Bool.and_eq_true] at hL
  obtain ⟨⟨hr, hf⟩, hL'⟩ := hL
  have hr' : k ∈ Region.ready md ops listed := by simpa using hr
  have hst : qOp P ops C k (wpQuiet P ops C (fun a => E ((List.range' k (l.length + 1)).foldl (fun b i => b.setIfInBounds i true) listed) a) l) a := by unfold qOp; simp only [h0]; exact h
  obtain ⟨v, hy, hK⟩ := yieldsIn_of_qOp h0 hst
  refine wpFront_first hB h0 (Region.noSelect_spec hs) l.length listed a hF (Region.free_spec h0 hf) hr' hy ?_
  exact wpFront_lex hB hs l (k + 1) _ _ (fun j hj => by have := hl (j + 1) (by simpa using hj); simpa [Nat.add_assoc, Nat.add_comm 1 j] using this) (hF.step hr' (hF.not_ready hB k hr')) hL' hK

/-- the rest can come up in one order only -/
def Region.restB (md : Region.Mode) (ops : Array Oper) : Nat → Nat → Array Bool → Bool
 | 0, _, listed => (Region.ready md ops listed).isEmpty
 | fuel + 1, k, listed => (Region.ready md ops listed) == [k] && Region.restB md ops fuel (k + 1) (listed.setIfInBounds k true)

theorem wpAny_rest {Q : Exit → Act → World → Prop} : ∀ (l : List Oper) (k : Nat) (listed : Array Bool) (a : Act) (w : World), (∀ j, l[j]? = ops[k + j]?) →
  Region.restB md ops l.length k listed = true → wpList P ops Q l a w → wpAny P md ops Q l.length listed a w
 | [], _, _, _, _, _, hB, h => ⟨by simpa [Region.restB] using hB, h⟩
 | o :: l, k, listed, a, w, hl, hB, h => by
  have h0 : ops[k]? = some o := by simpa using (hl 0).symm
  simp only [List.length_cons, Region.restB, Bool.and_eq_true, beq_iff_eq] at hB
  obtain ⟨hr, hB'⟩ := hB
  refine ⟨fun h => (by rw [hr] at h; cases h), fun i hi => ?_⟩
  rw [hr] at hi
  obtain rfl := List.mem_singleton.1 hi
  have hn := fun (a' : Act) (w' : World) => wpAny_rest (Q := Q) l (i + 1) (listed.setIfInBounds i true) a' w' (fun j => by have := hl (j + 1); simpa [Nat.add_assoc, Nat.add_comm 1 j] using this) hB'
  have : wpOp P ops Q i (wpList P ops Q l) a w := by
   unfold wpOp
   rw [h0]
   exact h
  exact wpOp_mono hn this

def Region.splitB (md : Region.Mode) (ops : Array Oper) (m : Nat) : Bool :=
 Region.noSelect ops && Region.frontB md ops m && Region.lexFront md ops m 0 (Array.replicate ops.size false) &&
 Region.restB md ops (ops.size - m) m ((List.range' 0 m).foldl (fun b i => b.setIfInBounds i true) (Array.replicate ops.size false))

theorem wp_region_split {id : Nat} {Q : Exit → Act → World → Prop} {a : Act} {w : World} (l1 l2 : List Oper) (hm : P.follows .mixedOrders = true) (hB : Region.splitB .any (l1 ++ l2).toArray l1.length = true) (hC : C { w with drawn := w.drawn + 1 })
  (h : wpQuiet P (l1 ++ l2).toArray C (fun a' => ∀ w', C w' → wpList P (l1 ++ l2).toArray Q l2 a' w') l1 a) : (Code.region id (l1 ++ l2).toArray true).wp P Q a w := by
 simp only [Region.splitB, Bool.and_eq_true] at hB
 obtain ⟨⟨⟨hs, hF⟩, hL⟩, hR⟩ := hB
 refine wp_region_any hm ?_
 have hsz : (l1 ++ l2).toArray.size = l1.length + l2.length := by simp
 have hsub : (l1 ++ l2).toArray.size - l1.length = l2.length := by omega
 rw [hsub] at hR
 have hfr : Front .any (l1 ++ l2).toArray l1.length l1.length (Array.replicate (l1 ++ l2).toArray.size false) := by
  have hg : ∀ (n i : Nat), (Array.replicate n false).getD i false = false := by
   intro n i
   rcases Nat.lt_or_ge i n with h | h <;> simp [h]
  refine ⟨by simp, fun i o ho hl => ?_, fun i _ => hg _ i, ?_⟩
  ·rw [hg] at hl; cases hl
  ·rw [List.filter_eq_self.2 (fun i _ => by rw [hg]; rfl)]; simp
 have := wpAny_of_front (P := P) (md := .any) (ops := (l1 ++ l2).toArray) (C := C) (r := l2.length) (Q' := Q)
  (E := fun listed a' => listed = (List.range' 0 l1.length).foldl (fun b i => b.setIfInBounds i true) (Array.replicate (l1 ++ l2).toArray.size false) ∧ ∀ w', C w' → wpList P (l1 ++ l2).toArray Q l2 a' w')
  (fun listed a' w' hw' hE => by
   obtain ⟨rfl, hE⟩ := hE
   exact wpAny_rest l2 l1.length _ a' w' (fun j => by simp [List.getElem?_append_right]) hR (hE w' hw'))
  l1.length (Array.replicate (l1 ++ l2).toArray.size false) a { w with drawn := w.drawn + 1 } hC
  (wpFront_lex hF hs l1 0 _ a (fun j hj => by simp [List.getElem?_append_left hj]) hfr hL
   (by
    refine cast ?_ h
    congr 1
    funext a'
    simp))
 simp only [hsz] at this ⊢
 exact this
end
end Go
namespace Go
open Go.RowKit
/-- how far a world has grown -/
structure GB where
 d : Nat
 os : Array Obj
 deriving Inhabited
def gw (W : World) (p : GB) : World := { W with heap := W.heap ++ p.os, drawn := p.d }
theorem gw_heap (W : World) (p : GB) (k : Nat) (h : k < W.heap.size) : (gw W p).heap[k]? = W.heap[k]? := by
 show (W.heap ++ p.os)[k]? = _
 rw [Array.getElem?_append_left h]
theorem gw_below (W : World) (p : GB) : Below W.heap.size W (gw W p) :=
 ⟨rfl, rfl, rfl, by show _ ≤ (W.heap ++ p.os).size; simp, fun k hk => gw_heap W p k hk⟩
theorem gw_of {W w' : World} (h : Below W.heap.size W w') : ∃ p : GB, w' = gw W p := by
 refine ⟨⟨w'.drawn, w'.heap.extract W.heap.size w'.heap.size⟩, ?_⟩
 have h1 : w'.heap = W.heap ++ w'.heap.extract W.heap.size w'.heap.size := by
  apply Array.ext_getElem?
  intro i
  rcases Nat.lt_or_ge i W.heap.size with hi | hi
  ·rw [Array.getElem?_append_left hi]; exact h.block i hi
  ·rw [Array.getElem?_append_right hi, Array.getElem?_extract]
   have hs := h.size
   rcases Nat.lt_or_ge i w'.heap.size with h2 | h2
   ·rw [if_pos (by omega)]; congr 1; omega
   ·rw [Array.getElem?_eq_none h2, if_neg (by omega)]
 have h2 := h.os
 have h3 := h.tape
 have h4 := h.output
 cases w'
 simp only [gw] at *
 congr 1
theorem gw_start (W : World) : ∃ p : GB, { W with drawn := W.drawn + 1 } = gw W p := ⟨⟨W.drawn + 1, #[]⟩, by simp [gw]⟩
theorem cell?_gw (W : World) (p : GB) (b o : Nat) (h : b < W.heap.size) : (gw W p).cell? ⟨b, o, none⟩ = W.cell? ⟨b, o, none⟩ := World.cell?_of_block (gw_heap W p b h)
theorem frozen?_gw (W : World) (p : GB) (b o : Nat) (h : b < W.heap.size) : (gw W p).frozen? ⟨b, o, none⟩ = W.frozen? ⟨b, o, none⟩ := World.frozen?_of_block (gw_heap W p b h)
attribute [go_sem] cell?_gw frozen?_gw
theorem Calls.gw_of {P : Program} {f : FuncId} {args : Array Value} {W : World} {p : GB} {v : Value}
  (h : Calls P f args (gw W p) fun e w' => e = .returned v ∧ Below (gw W p).heap.size (gw W p) w') : Calls P f args (gw W p) fun e w'' => e = .returned v ∧ ∃ q : GB, w'' = gw W q :=
 h.mono fun _ _ ⟨he, hb⟩ => ⟨he, Go.gw_of ((gw_below W p).trans (hb.mono (gw_below W p).size))⟩
theorem Calls.gw_same {P : Program} {f : FuncId} {args : Array Value} {W : World} {p : GB} {v : Value}
  (h : Calls P f args (gw W p) fun e w' => e = .returned v ∧ gw W p = w') : Calls P f args (gw W p) fun e w'' => e = .returned v ∧ ∃ q : GB, w'' = gw W q :=
 h.mono fun _ _ ⟨he, hw⟩ => ⟨he, p, hw.symm⟩
theorem wp_region_splitG {P : Program} {id : Nat} {Q : Exit → Act → World → Prop} {a : Act} {W : World} (m : Nat) {l : List Oper} (hm : P.follows .mixedOrders = true) (hB : Region.splitB .any l.toArray m = true)
  (h : wpQuiet P l.toArray (fun w' => ∃ p : GB, w' = gw W p) (fun a' => ∀ w', (∃ p : GB, w' = gw W p) → wpList P l.toArray Q (l.drop m) a' w') (l.take m) a) : (Code.region id l.toArray true).wp P Q a W := by
 have hml : m ≤ l.length := by
  simp only [Region.splitB, Region.frontB, Bool.and_eq_true, decide_eq_true_eq] at hB
  simpa using hB.1.1.2.1.1
 have h1 := wp_region_split (P := P) (id := id) (Q := Q) (a := a) (w := W) (C := fun w' => ∃ p : GB, w' = gw W p) (l.take m) (l.drop m) hm
 rw [List.take_append_drop, List.length_take, Nat.min_eq_left hml] at h1
 exact h1 hB (gw_start W) h
/-- a region that draws its order, all of whose operations read or call what reads or grows -/
theorem wp_region_growG {P : Program} {id : Nat} {Q : Exit → Act → World → Prop} {a : Act} {W : World} {l : List Oper} (hm : P.follows .mixedOrders = true) (hB : Region.lexB .any l.toArray = true)
  (h : wpQuiet P l.toArray (fun w' => ∃ p : GB, w' = gw W p) (fun a' => ∀ w', (∃ p : GB, w' = gw W p) → Q .normal a' w') l a) : (Code.region id l.toArray true).wp P Q a W :=
 wp_region_quiet (C := fun w' => ∃ p : GB, w' = gw W p) hm hB (gw_start W) (by simpa using h)
theorem gw_out {W : World} {Q : World → Prop} (h : ∀ w', Below W.heap.size W w' → Q w') : ∀ w', (∃ p : GB, w' = gw W p) → Q w' := by
 rintro w' ⟨p, rfl⟩
 exact h _ (gw_below W p)
end Go
namespace Go.RowKit
theorem Below.call {B : Nat} {a w w' : World} (h : Below B a w) (hb : Below w.heap.size w w') : a.heap.size = B → Below B a w' := fun e => h.trans (hb.mono (e ▸ h.size))
end Go.RowKit
namespace Go.Proofs.YtdimmlljjmmdbaaGreatDoor
open Go.RowKit

theorem heap_new {w : World} {o : Obj} {k : Nat} (h : k = w.heap.size) : (w.alloc o).heap[k]? = some o := by subst h; exact heap_alloc_new _ _
theorem heap_old {w : World} {o x : Obj} {k : Nat} (h : k < w.heap.size) (hx : w.heap[k]? = some x) : (w.alloc o).heap[k]? = some x := (Below.heap_alloc _ _ _ h).trans hx
theorem cell_at {W : World} {b i : Nat} {cs : Array Value} {t : TypeId} {f : Nat × Nat} {v : Value} (h : W.heap[b]? = some (.cells cs t f)) (hi : cs[i]? = some v) : W.cell? ⟨b, i, none⟩ = some v := by
 simp [World.cell?, h, hi]
theorem free_at {W : World} {b i : Nat} {cs : Array Value} {t : TypeId} (h : W.heap[b]? = some (.cells cs t (0, 0))) : W.frozen? ⟨b, i, none⟩ = false := by
 simp [World.frozen?, h]
theorem ret_int {k : IntKind} {a b : Int} (h : a = b) : Ending.returned (.int k a) = .returned (.int k b) := by rw [h]
theorem ret_bool {a b : Bool} (h : a = b) : Ending.returned (.bool a) = .returned (.bool b) := by rw [h]
theorem bcell {W w1 : World} (hb : Below W.heap.size W w1) : (∀ b o, b < W.heap.size → w1.cell? ⟨b, o, none⟩ = W.cell? ⟨b, o, none⟩) ∧ (∀ b o, b < W.heap.size → w1.frozen? ⟨b, o, none⟩ = W.frozen? ⟨b, o, none⟩) :=
 ⟨fun b o h => hb.cell (p := ⟨b, o, none⟩) h, fun b o h => hb.frozen (p := ⟨b, o, none⟩) h⟩

/-- n elements of 'size' cells each, read at A. -/
def RdS (w : World) (size : Nat) (A : Option Addr) (n : Nat) (xs : List Value) : Prop :=
 xs.length = n * size ∧ (0 < n → ∃ b off, A = some ⟨b, off, none⟩ ∧ b < w.heap.size ∧ ∀ j, j < xs.length → w.cell? ⟨b, off+j, none⟩ = xs[j]?)

theorem RdS.at {w : World} {size n : Nat} {A : Option Addr} {xs : List Value} (h : RdS w size A n xs) {k : Nat} (hk : k < n) : 
 ∃ b off, A = some ⟨b, off, none⟩ ∧ b < w.heap.size ∧ ∀ j, j < size → w.cell? ⟨b, off + (k * size + j), none⟩ = xs[k * size + j]? := by
 obtain ⟨h1, h2⟩ := h
 obtain ⟨b, off, rfl, hb, hc⟩ := h2 (by omega)
 refine ⟨b, off, rfl, hb, fun j hj => hc _ ?_⟩
 rw [h1]
 calc k * size + j < k * size + size := by omega
  _ = (k+1) * size := by rw [Nat.succ_mul]
  _ ≤ n * size := Nat.mul_le_mul_right _ hk
theorem RdS.below {w w' : World} {size n : Nat} {A : Option Addr} {xs : List Value} (h : RdS w size A n xs) (hb : Below w.heap.size w w') : RdS w' size A n xs := by
 obtain ⟨h1, h2⟩ := h
 refine ⟨h1, fun hn => ?_⟩
 obtain ⟨b, off, rfl, hlt, hc⟩ := h2 hn
 exact ⟨b, off, rfl, Nat.lt_of_lt_of_le hlt hb.size, fun j hj => (hb.cell (p := ⟨b, off + j, none⟩) hlt).trans (hc j hj)⟩
/-- a whole block, read from its head -/
theorem RdS.of_block {w : World} {g size n : Nat} {cs : List Value} {t : TypeId} {f : Nat × Nat} (h : w.heap[g]? = some (.cells cs.toArray t f)) (hn : cs.length = n * size) : RdS w size (some ⟨g, 0, none⟩) n cs := by
 refine ⟨hn, fun _ => ⟨g, 0, rfl, (Array.getElem?_eq_some_iff.1 h).1, fun j hj => ?_⟩⟩
 simp [World.cell?, h]

theorem RdS.of_new {w : World} {g size n : Nat} {cs : List Value} {t : TypeId} {f : Nat × Nat} (hg : g = w.heap.size) (hn : cs.length = n * size) : RdS (w.alloc (.cells cs.toArray t f)) size (some ⟨g, 0, none⟩) n cs := by
 subst hg
 exact RdS.of_block (heap_alloc_new _ _) hn
theorem RdS.drew {w : World} {size n : Nat} {A : Option Addr} {xs : List Value} (h : RdS w size A n xs) : RdS w.drew size A n xs := h

/-- the world may have grown: what every world that comes of W in a region of growth is good for -/
theorem keep_call {W w1 w2 : World} (h : (∀ b o, b < W.heap.size → w1.cell? ⟨b, o, none⟩ = W.cell? ⟨b, o, none⟩) ∧ Below W.heap.size W w1) (hb : Below w1.heap.size w1 w2) :
  (∀ b o, b < W.heap.size → w2.cell? ⟨b, o, none⟩ = W.cell? ⟨b, o, none⟩) ∧ Below W.heap.size W w2 := by
 have h2 := h.2.trans (hb.mono h.2.size)
 exact ⟨(bcell h2).1, h2⟩
theorem keep_alloc {W w1 : World} (ob : Obj) (h : (∀ b o, b < W.heap.size → w1.cell? ⟨b, o, none⟩ = W.cell? ⟨b, o, none⟩) ∧ Below W.heap.size W w1) :
  (∀ b o, b < W.heap.size → (w1.alloc ob).cell? ⟨b, o, none⟩ = W.cell? ⟨b, o, none⟩) ∧ Below W.heap.size W (w1.alloc ob) := by
 have h2 := h.2.alloc h.2.size ob
 exact ⟨(bcell h2).1, h2⟩
theorem keep_alloc_drew {W w1 : World} (ob : Obj) (h : (∀ b o, b < W.heap.size → w1.drew.cell? ⟨b, o, none⟩ = W.cell? ⟨b, o, none⟩) ∧ Below W.heap.size W w1.drew) :
  (∀ b o, b < W.heap.size → (w1.alloc ob).drew.cell? ⟨b, o, none⟩ = W.cell? ⟨b, o, none⟩) ∧ Below W.heap.size W (w1.alloc ob).drew := keep_alloc ob h
theorem keep_start {W : World} : (∀ b o, b < W.heap.size → W.drew.cell? ⟨b, o, none⟩ = W.cell? ⟨b, o, none⟩) ∧ Below W.heap.size W W.drew := by
 have h2 := (Below.refl W.heap.size W).drew
 exact ⟨(bcell h2).1, h2⟩

/-- the same below a bound -/
theorem keepB_call {B : Nat} {W w1 w2 : World} (h : (∀ b o, b < B → w1.cell? ⟨b, o, none⟩ = W.cell? ⟨b, o, none⟩) ∧ Below B W w1) (hb : Below w1.heap.size w1 w2) (hB : B ≤ W.heap.size) :
  (∀ b o, b < B → w2.cell? ⟨b, o, none⟩ = W.cell? ⟨b, o, none⟩) ∧ Below B W w2 := by
 have h2 := h.2.trans (hb.mono (Nat.le_trans hB h.2.size))
 exact ⟨fun b o hb => h2.cell (p := ⟨b, o, none⟩) hb, h2⟩
theorem keepB_below {B : Nat} {W w1 w2 : World} (h : (∀ b o, b < B → w1.cell? ⟨b, o, none⟩ = W.cell? ⟨b, o, none⟩) ∧ Below B W w1) (h2 : Below B w1 w2) :
  (∀ b o, b < B → w2.cell? ⟨b, o, none⟩ = W.cell? ⟨b, o, none⟩) ∧ Below B W w2 := by
 have h3 := h.2.trans h2
 exact ⟨fun b o hb => h3.cell (p := ⟨b, o, none⟩) hb, h3⟩
theorem keepB_of {B : Nat} {W w2 : World} (h3 : Below B W w2) :
  (∀ b o, b < B → w2.cell? ⟨b, o, none⟩ = W.cell? ⟨b, o, none⟩) ∧ Below B W w2 := 
 ⟨fun b o hb => h3.cell (p := ⟨b, o, none⟩) hb, h3⟩
theorem fin1 {w W w1 : World} (hB : Below w.heap.size w W) (hb : Below W.heap.size W w1) (o : Obj) : Below w.heap.size w (w1.alloc o) := by
 have h := hB.trans (hb.mono hB.size)
 exact h.alloc h.size o
theorem fin0 {w W w1 : World} (hB : Below w.heap.size w W) (hb : Below W.heap.size W w1) : Below w.heap.size w w1 := hB.trans (hb.mono hB.size)
theorem fin_below {w W w2 : World} (hB : Below w.heap.size w W) (h : (∀ b o, b < W.heap.size → w2.cell? ⟨b, o, none⟩ = W.cell? ⟨b, o, none⟩) ∧ Below W.heap.size W w2) : Below w.heap.size w w2 := hB.trans (h.2.mono hB.size)

/-- a slice that reads as a list of data, each of 'size' cells -/
def RdL {α : Type} (w : World) (size : Nat) (enc : α → List Value) (A : Option Addr) (l : List α) : Prop := RdS w size A l.length (l.flatMap enc)
theorem flat_get {α : Type} {size : Nat} {enc : α → List Value} (he : ∀ a, (enc a).length = size) : ∀ (l : List α) (k j : Nat) (x : α), l[k]? = some x → j < size → (l.flatMap enc)[k * size + j]? = (enc x)[j]?
 | [], k, j, x, h, _ => by simp at h
 | a :: l, 0, j, x, h, hj => by
  simp at h; subst h
  rw [List.flatMap_cons, Nat.zero_mul, Nat.zero_add, List.getElem?_append_left (by rw [he]; exact hj)]
 | a :: l, k+1, j, x, h, hj => by
  rw [List.flatMap_cons, List.getElem?_append_right (by rw [he, Nat.succ_mul]; omega), he]
  have := flat_get he l k j x (by simpa using h) hj
  rw [← this]
  congr 1
  rw [Nat.succ_mul]; omega
theorem RdL.at {α : Type} {w : World} {size : Nat} {enc : α → List Value} {A : Option Addr} {l : List α} (h : RdL w size enc A l) (he : ∀ a, (enc a).length = size) {k : Nat} (hk : k < l.length) :
  ∃ b off x, A = some ⟨b, off, none⟩ ∧ l[k]? = some x ∧ b < w.heap.size ∧ ∀ j, j < size → w.cell? ⟨b, off + k * size + j, none⟩ = (enc x)[j]? := by
 obtain ⟨b, off, hA, hb, hc⟩ := RdS.at h hk
 refine ⟨b, off, l[k], hA, List.getElem?_eq_getElem hk, hb, fun j hj => ?_⟩
 rw [Nat.add_assoc, hc j hj, flat_get he l k j l[k] (List.getElem?_eq_getElem hk) hj]
theorem RdL.below' {α : Type} {w W w' : World} {B size : Nat} {enc : α → List Value} {A : Option Addr} {l : List α} (h : RdL w size enc A l) (hb : Below w.heap.size w W) (h2 : Below B W w') (hB : w.heap.size ≤ B) : RdL w' size enc A l := RdS.below h (hb.trans (h2.mono hB))
theorem RdL.below {α : Type} {w w' : World} {size : Nat} {enc : α → List Value} {A : Option Addr} {l : List α} (h : RdL w size enc A l) (hb : Below w.heap.size w w') : RdL w' size enc A l := RdS.below h hb

def encI (l : List Int) : List Value := l.map (Value.int .i64)

end Go.Proofs.YtdimmlljjmmdbaaGreatDoor
/- A struct stored whole into a block of its own, and loaded whole out of it, whatever its number of cells. -/
namespace Go
open Go.RowKit
theorem setCells_grown (b : Nat) : ∀ (vs : List Value) (o : Nat) (w : World), w.grownBy (w.setCells b o vs) (some b) ∧ (w.setCells b o vs).heap.size = w.heap.size ∧
  ∀ c t f, w.heap[b]? = some (.cells c t f) → ∃ c' : Array Value, (w.setCells b o vs).heap[b]? = some (.cells c' t f) ∧ c'.size = c.size
 | [], o, w => ⟨World.grownBy.refl w _, rfl, fun c t f h => ⟨c, h, rfl⟩⟩
 | v :: r, o, w => by
  obtain ⟨h1, h2, h3⟩ := setCells_grown b r (o + 1) (w.setCell ⟨b, o, none⟩ v)
  have hsz : (w.setCell ⟨b, o, none⟩ v).heap.size = w.heap.size := by simp [World.setCell]
  have hg : w.grownBy (w.setCell ⟨b, o, none⟩ v) (some b) := ⟨rfl, rfl, rfl, by rw [hsz]; exact Nat.le_refl _, fun k _ hk => Below.heap_setCell w ⟨b, o, none⟩ v k (fun e => hk (by rw [e]))⟩
  refine ⟨⟨h1.os.trans hg.os, h1.tape.trans hg.tape, h1.output.trans hg.output, Nat.le_trans hg.size h1.size, fun k hk hne => (h1.block k (by rw [hsz]; exact hk) hne).trans (hg.block k hk hne)⟩, h2.trans hsz, fun c t f hc => ?_⟩
  have : (w.setCell ⟨b, o, none⟩ v).heap[b]? = some (.cells (c.setIfInBounds o v) t f) := by
   simp [World.setCell, Array.getElem?_modify, hc]
  obtain ⟨c', hc', hs'⟩ := h3 _ _ _ this
  exact ⟨c', hc', by rw [hs']; simp⟩
theorem setCells_blk {w : World} {g : Nat} {cs : Array Value} {old : Array Value} {t : TypeId} (hh : w.heap[g]? = some (.cells old t (0, 0))) (hsz : old.size = cs.size) :
  (w.setCells g 0 cs.toList).heap[g]? = some (.cells cs t (0, 0)) := by
 obtain ⟨c', hc', hs'⟩ := (setCells_grown g cs.toList 0 w).2.2 _ _ _ hh
 rw [hc']
 have ht : w.there g 0 cs.toList.length := fun j hj => by
  have hj' : j < old.size := by rw [hsz]; simpa using hj
  constructor
  ·simp [World.cell?, hh, hj']
  ·simp [World.frozen?, hh]
 have hr := World.rangeAt_setCells_same w g 0 cs.toList ht
 have : c' = cs := by
  apply Array.ext_getElem?
  intro j
  rcases Nat.lt_or_ge j cs.size with hj | hj
  ·have := hr j cs[j] (by simp [hj])
   rw [Nat.zero_add] at this
   simp only [World.cell?, hc'] at this
   simpa [hj] using this
  ·rw [Array.getElem?_eq_none hj, Array.getElem?_eq_none (by rw [hs', hsz]; exact hj)]
 rw [this]
section
variable {P : Program}
theorem wp_store_blk {op : Oper} {a : Act} {w : World} {K : Act → World → Prop} {Q : Exit → Act → World → Prop} (ty : TypeId) (x y : Operand) (ho : op.op = .store ty x y)
  (g : Nat) (cs : Array Value) (hx : a.eval x = .pointer (some ⟨g, 0, none⟩)) (hy : a.eval y = .agg cs) {old : Array Value} {t : TypeId} (hh : w.heap[g]? = some (.cells old t (0, 0)))
  (hsz : old.size = cs.size) (hi : (P.info? ty).map (·.size) = some cs.size) (h1 : cs.all (·.oneCell') = true)
  (h : ∀ w', w'.heap[g]? = some (.cells cs t (0, 0)) → w.grownBy w' (some g) → w'.heap.size = w.heap.size → K (a.put op.dst undef) w') : op.wp P a w K Q :=
 wp_store_mid ty x y ho g 0 cs hx hy (fun j hj => by
  have hj' : j < old.size := by rw [hsz]; exact hj
  constructor
  ·simp [World.cell?, hh, hj']
  ·simp [World.frozen?, hh]) hi h1 (h _ (setCells_blk hh hsz) (setCells_grown g _ 0 w).1 (setCells_grown g _ 0 w).2.1)
theorem wpList_store_blk {ops : Array Oper} {rest : List Oper} {op : Oper} {a : Act} {w : World} {Q : Exit → Act → World → Prop} (hgd : op.guard = none) (ty : TypeId) (x y : Operand) (ho : op.op = .store ty x y)
  (g : Nat) (cs : Array Value) (hx : a.eval x = .pointer (some ⟨g, 0, none⟩)) (hy : a.eval y = .agg cs) {old : Array Value} {t : TypeId} (hh : w.heap[g]? = some (.cells old t (0, 0)))
  (hsz : old.size = cs.size) (hi : (P.info? ty).map (·.size) = some cs.size) (h1 : cs.all (·.oneCell') = true)
  (h : ∀ w', w'.heap[g]? = some (.cells cs t (0, 0)) → w.grownBy w' (some g) → w'.heap.size = w.heap.size → wpList P ops Q rest (a.put op.dst undef) w') : wpList P ops Q (op :: rest) a w :=
 wpList_plain hgd fun _ hK => wp_store_blk ty x y ho g cs hx hy hh hsz hi h1 fun w' h2 h3 h4 => hK _ _ (h w' h2 h3 h4)
theorem rangeAt_blk {w : World} {g : Nat} {cs : Array Value} {t : TypeId} {f : Nat × Nat} (hh : w.heap[g]? = some (.cells cs t f)) : w.rangeAt g 0 cs.toList := fun j v hv => by
 simp only [World.cell?, hh, Nat.zero_add]
 simpa using hv
/-- a struct result in a cell of a block -/
theorem run_loadVar_blk {w : World} {g : Nat} {cs : Array Value} {t : TypeId} {f : Nat × Nat} (hh : w.heap[g]? = some (.cells cs t f)) (ty : TypeId) (d : TypeDesc) (hu : P.underlying ty = some d) (hd : d.isRow = true) (hi : (P.info? ty).map (·.size) = some cs.size) :
  (loadVar ty ⟨g, 0, none⟩).run P w = .ok (.agg cs) w := by
 have := run_loadVar_mid (P := P) w g 0 ty cs.toList d (rangeAt_blk hh) hu hd (by simpa using hi)
 simpa using this
theorem results_blk {fn : Func} {a : Tmp} {T : TypeId} (h : fn.results = #[.cell a T]) {tmps : Array Value} {w : World} {g : Nat} {cs : Array Value} {t : TypeId} {f : Nat × Nat} (ha : tmps.getD a undef = .pointer (some ⟨g, 0, none⟩)) (hh : w.heap[g]? = some (.cells cs t f))
  (d : TypeDesc) (hu : P.underlying T = some d) (hd : d.isRow = true) (hi : (P.info? T).map (·.size) = some cs.size) : (results fn tmps).run P w = .ok (.agg cs) w := by
 have hl := run_loadVar_blk (P := P) hh T d hu hd hi
 have ha' : tmps[a]?.getD undef = .pointer (some ⟨g, 0, none⟩) := by simpa using ha
 simp [results, h, ha', asAddr, hl]
theorem results_blk_tmp {fn : Func} {a u : Tmp} {T : TypeId} (h : fn.results = #[.cell a T, .tmp u]) {tmps : Array Value} {w : World} {g : Nat} {cs : Array Value} {t : TypeId} {f : Nat × Nat} (ha : tmps.getD a undef = .pointer (some ⟨g, 0, none⟩)) (hh : w.heap[g]? = some (.cells cs t f))
  (d : TypeDesc) (hu : P.underlying T = some d) (hd : d.isRow = true) (hi : (P.info? T).map (·.size) = some cs.size) : (results fn tmps).run P w = .ok (.tuple #[.agg cs, tmps.getD u undef]) w := by
 have hl := run_loadVar_blk (P := P) hh T d hu hd hi
 have ha' : tmps[a]?.getD undef = .pointer (some ⟨g, 0, none⟩) := by simpa using ha
 simp [results, h, ha', asAddr, hl]
end
end Go
/- A region that draws its order: a front part of operations that read or call what reads or grows, beside a rest that can come up in one order only; operations of the rest may come up before operations of the front for which they do not wait. -/
namespace Go
open Go.RowKit
section
variable {P : Program} {ops : Array Oper} {md : Region.Mode} {C : World → Prop} {Q : Exit → Act → World → Prop}

/-- quiet, what a call leaves being a growth of what it got -/
def Oper.softUpon (P : Program) (w : World) (v : Value) : Result Next → Prop
 | .ok (.value u) w' => w' = w ∧ u = v
 | .ok .skip w' => w' = w ∧ v = undef
 | .ok (.enter f args) w' => w' = w ∧ Calls P f args w (fun e w'' => e = .returned v ∧ Below w.heap.size w w'')
 | _ => False
def Oper.softAt (P : Program) (o : Oper) (a : Act) (w : World) (v : Value) : Prop := Oper.softUpon P w v ((execOp a.eval o).run P w)

def SoftIn (P : Program) (ops : Array Oper) (C : World → Prop) (o : Oper) (v : Value) (a : Act) : Prop :=
 (Region.wanted o (yielded ops a.tmps) = true ∧ ∀ w, C w → o.softAt P a w v) ∨
 (Region.wanted o (yielded ops a.tmps) = false ∧ v = undef)

theorem SoftIn.of_same {o : Oper} {v : Value} {a a' : Act} (hy : SoftIn P ops C o v a) (he : execOp a'.eval o = execOp a.eval o)
  (hw : Region.wanted o (yielded ops a'.tmps) = Region.wanted o (yielded ops a.tmps)) : SoftIn P ops C o v a' := by
 unfold SoftIn Oper.softAt at *
 rw [he, hw]
 exact hy

theorem SoftIn.wpOp {i : Nat} {o : Oper} {v : Value} {a : Act} (hi : ops[i]? = some o) (hy : SoftIn P ops C o v a)
  {K : Act → World → Prop} {w : World} (hC : C w) (h : ∀ w', Below w.heap.size w w' → K (a.put o.dst v) w') : wpOp P ops Q i K a w := by
 unfold Go.wpOp
 simp only [hi]
 rcases hy with ⟨hw, hv⟩ | ⟨hw, rfl⟩
 ·simp only [hw, if_true]
  refine .inl ?_
  have h3 := hv w hC
  unfold Oper.softAt at h3
  unfold Oper.wp
  generalize (execOp a.eval o).run P w = r at *
  cases r with
  | ok n w' =>
   cases n <;> simp only [Oper.softUpon] at h3 <;> simp only [Oper.upon]
   case value u => obtain ⟨e1, e2⟩ := h3; rw [e1, e2]; exact h _ (Below.refl _ _)
   case skip => obtain ⟨e1, e2⟩ := h3; rw [e1, ← e2]; exact h _ (Below.refl _ _)
   case enter f args =>
    obtain ⟨e1, hc⟩ := h3
    rw [e1]
    exact hc.mono fun e w'' ⟨he, hw''⟩ => by subst he; exact h _ hw''
  | halt x w' => simp only [Oper.softUpon] at h3
 ·simp only [hw, Bool.false_eq_true, if_false]; exact h _ (Below.refl _ _)

theorem wpOp_putSoft {j : Nat} {oi oj : Oper} {v : Value} (hj : ops[j]? = some oj) (hap : oi.apart ops oj = true)
  (hsi : ∀ cs b, oi.op ≠ .select cs b) (hsj : ∀ cs b, oj.op ≠ .select cs b)
  (hQ : ∀ c a d v w, Q (.panic c) (a.put d v) w → Q (.panic c) a w) {K : Act → World → Prop} {a : Act} {w : World}
  (hy : SoftIn P ops C oi v a) (h : wpOp P ops Q j K (a.put oi.dst v) w) :
  wpOp P ops Q j (fun a' w' => SoftIn P ops C oi v a' ∧ K (a'.put oi.dst v) w') a w := by
 obtain ⟨h1, h2, h3⟩ := Oper.apart_spec hap
 have keep : ∀ (a : Act), SoftIn P ops C oi v a → ∀ u, SoftIn P ops C oi v (a.put oj.dst u) := fun a hy u =>
  hy.of_same (execOp_put oi hsi a oj.dst u h3) (wanted_put oi a oj.dst u h3)
 have keepD : ∀ d, SoftIn P ops C oi v { a with defers := d :: a.defers } := fun d => hy.of_same rfl rfl
 unfold wpOp at *
 simp only [hj] at *
 rw [wanted_put oj a oi.dst v h1] at h
 split
 ·rename_i hw
  simp only [hw, if_true] at h
  rcases h with h | ⟨hasks, hlets⟩
  case inr => exact .inr ⟨by unfold Oper.asks at *; rw [execOp_put oj hsj a oi.dst v h1] at hasks; exact hasks, hlets⟩
  refine .inl ?_
  unfold Oper.wp at *
  rw [execOp_put oj hsj a oi.dst v h1] at h
  generalize (execOp a.eval oj).run P w = r at *
  cases r with
  | ok n w' =>
   cases n <;> simp only [Oper.upon] at h ⊢
   case value u => exact ⟨keep a hy u, by rw [← Act.put_comm a v u h2]; exact h⟩
   case skip => exact ⟨keep a hy _, by rw [← Act.put_comm a v undef h2]; exact h⟩
   case defer d =>
    refine ⟨keep _ (keepD d) _, ?_⟩
    rw [← Act.put_comm _ v undef h2, ← Act.put_defers]
    exact h
   case enter f args =>
    refine Calls.mono h fun e w'' he => ?_
    cases e with
    | returned u => exact ⟨keep a hy u, by rw [← Act.put_comm a v u h2]; exact he⟩
    | panicked c => exact hQ _ _ _ _ _ he
    | outgrown => exact he
   case row row args => exact Rows.mono h fun u w'' he => ⟨keep a hy u, by rw [← Act.put_comm a v u h2]; exact he⟩
  | halt x w' =>
   cases x <;> simp only [Oper.upon] at h ⊢
   case panic u => exact hQ _ _ _ _ _ h
 ·rename_i hw
  simp only [hw] at h
  exact ⟨keep a hy _, by rw [← Act.put_comm a v undef h2]; exact h⟩

/-- whatever comes up; the class is kept, and what is asked behind an operation is asked in every growth of the world that it left -/
def wpAnyT (P : Program) (md : Region.Mode) (ops : Array Oper) (C : World → Prop) (Q : Exit → Act → World → Prop) : Nat → Array Bool → Act → World → Prop
 | 0, listed, a, w => Region.ready md ops listed = [] ∧ Q .normal a w
 | fuel + 1, listed, a, w =>
  (Region.ready md ops listed = [] → Q .normal a w) ∧
  ∀ i ∈ Region.ready md ops listed, wpOp P ops Q i (fun a' w' => C w' ∧ ∀ w'', Below w'.heap.size w' w'' → wpAnyT P md ops C Q fuel (listed.setIfInBounds i true) a' w'') a w

theorem wpAny_of_T : ∀ (fuel : Nat) (listed : Array Bool) (a : Act) (w : World), wpAnyT P md ops C Q fuel listed a w → wpAny P md ops Q fuel listed a w
 | 0, _, _, _, h => h
 | fuel + 1, _, _, _, h => ⟨h.1, fun i hi => wpOp_mono (fun a' w' h' => wpAny_of_T fuel _ a' w' (h'.2 w' (Below.refl _ _))) (h.2 i hi)⟩

theorem wpAnyT_first (hCg : ∀ w w', C w → Below w.heap.size w w' → C w') {i : Nat} {oi : Oper} {v : Value} (hi : ops[i]? = some oi) (hsel : ∀ (j : Nat) (o : Oper) cs b, ops[j]? = some o → o.op ≠ .select cs b)
  (hQ : ∀ c a d v w, Q (.panic c) (a.put d v) w → Q (.panic c) a w) :
  ∀ (fuel : Nat) (listed : Array Bool) (a : Act) (w : World),
   (∀ j oj, ops[j]? = some oj → j ≠ i → listed.getD j true = false → (∀ e ∈ oj.after, Region.binds md e = true → e.on ≠ i) → oi.apart ops oj = true) →
   i ∈ Region.ready md ops listed → SoftIn P ops C oi v a → C w →
   (∀ w', Below w.heap.size w w' → wpAnyT P md ops C Q fuel (listed.setIfInBounds i true) (a.put oi.dst v) w') → wpAnyT P md ops C Q (fuel + 1) listed a w := by
 intro fuel
 induction fuel with
 | zero =>
  intro listed a w _ hr hy hC H
  refine ⟨fun h => (by rw [h] at hr; cases hr), fun j hj => ?_⟩
  by_cases hji : j = i
  ·subst hji
   exact hy.wpOp hi hC fun w' hw' => ⟨hCg _ _ hC hw', fun w'' hw'' => H w'' (hw'.trans (hw''.mono hw'.size))⟩
  ·have := ready_mono hj hji
   rw [(H w (Below.refl _ _)).1] at this
   cases this
 | succ fuel ih =>
  intro listed a w hfree hr hy hC H
  refine ⟨fun h => (by rw [h] at hr; cases hr), fun j hj => ?_⟩
  by_cases hji : j = i
  ·subst hji
   exact hy.wpOp hi hC fun w' hw' => ⟨hCg _ _ hC hw', fun w'' hw'' => H w'' (hw'.trans (hw''.mono hw'.size))⟩
  ·have h1 := (H w (Below.refl _ _)).2 j (ready_mono hj hji)
   obtain ⟨hjun, oj, hoj, hall⟩ := mem_ready.1 hj
   have hnot : ∀ e ∈ oj.after, Region.binds md e = true → e.on ≠ i := fun e he hb heq => by
    have h1 := hall e he hb
    have h0 := (mem_ready.1 hr).1
    rw [heq] at h1
    rcases Nat.lt_or_ge i listed.size with h' | h'
    ·simp [h'] at h0 h1; rw [h0] at h1; cases h1
    ·simp [Array.getElem?_eq_none h'] at h1
   have h2 := wpOp_putSoft hoj (hfree j oj hoj hji hjun hnot) (fun cs b => hsel i oi cs b hi) (fun cs b => hsel j oj cs b hoj) hQ hy h1
   have hfree' : ∀ k ok, ops[k]? = some ok → k ≠ i → (listed.setIfInBounds j true).getD k true = false →
     (∀ e ∈ ok.after, Region.binds md e = true → e.on ≠ i) → oi.apart ops ok = true := fun k ok hk hki hun hno => by
    refine hfree k ok hk hki ?_ hno
    by_cases hjk : j = k
    ·subst hjk; exact hjun
    ·rw [getD_set_ne true hjk] at hun; exact hun
   refine wpOp_mono (fun a' w' h3 => ⟨h3.2.1, fun w'' hw'' => ih (listed.setIfInBounds j true) a' w'' hfree' (ready_mono hr (Ne.symm hji)) h3.1 (hCg _ _ h3.2.1 hw'') ?_⟩) h2
   intro w3 hw3
   rw [Array.setIfInBounds_comm _ _ hji]
   exact h3.2.2 w3 (hw''.trans (hw3.mono hw''.size))

/-- the front, in the order of the text -/
def wpSoft (P : Program) (ops : Array Oper) (C : World → Prop) (Qa : Act → Prop) : List Oper → Act → Prop
 | [], a => Qa a
 | o :: rest, a => ∃ v, SoftIn P ops C o v a ∧ wpSoft P ops C Qa rest (a.put o.dst v)

/-- the rest, in the one order in which it can come up -/
def wpRest (P : Program) (ops : Array Oper) (C : World → Prop) (Q : Exit → Act → World → Prop) : List Oper → Act → World → Prop
 | [], a, w => Q .normal a w
 | o :: rest, a, w => if Region.wanted o (yielded ops a.tmps) then o.wp P a w (fun a' w' => C w' ∧ ∀ w'', Below w'.heap.size w' w'' → wpRest P ops C Q rest a' w'') Q
  else ∀ w'', Below w.heap.size w w'' → wpRest P ops C Q rest (a.put o.dst undef) w''

theorem wpAnyT_rest (hCg : ∀ w w', C w → Below w.heap.size w w' → C w') : ∀ (l : List Oper) (k : Nat) (listed : Array Bool) (a : Act) (w : World), C w → (∀ j, l[j]? = ops[k + j]?) →
  Region.restB md ops l.length k listed = true → wpRest P ops C Q l a w → wpAnyT P md ops C Q l.length listed a w
 | [], _, _, _, _, _, _, hB, h => ⟨by simpa [Region.restB] using hB, h⟩
 | o :: l, k, listed, a, w, hC, hl, hB, h => by
  have h0 : ops[k]? = some o := by simpa using (hl 0).symm
  simp only [List.length_cons, Region.restB, Bool.and_eq_true, beq_iff_eq] at hB
  obtain ⟨hr, hB'⟩ := hB
  refine ⟨fun h => (by rw [hr] at h; cases h), fun i hi => ?_⟩
  rw [hr] at hi
  obtain rfl := List.mem_singleton.1 hi
  have hl' : ∀ j, l[j]? = ops[i + 1 + j]? := fun j => by have := hl (j + 1); simpa [Nat.add_assoc, Nat.add_comm 1 j] using this
  unfold wpOp
  rw [h0]
  unfold wpRest at h
  show if Region.wanted o (yielded ops a.tmps) = true then _ else _
  split
  ·rename_i hw
   rw [if_pos hw] at h
   exact .inl (Oper.wp_mono (fun a' w' h' => ⟨h'.1, fun w'' hw'' => wpAnyT_rest hCg l (i + 1) _ a' w'' (hCg _ _ h'.1 hw'') hl' hB' (h'.2 w'' hw'')⟩) h)
  ·rename_i hw
   rw [if_neg hw] at h
   exact ⟨hC, fun w'' hw'' => wpAnyT_rest hCg l (i + 1) _ _ w'' (hCg _ _ hC hw'') hl' hB' (h w'' hw'')⟩

theorem wpAnyT_soft (hCg : ∀ w w', C w → Below w.heap.size w w' → C w') (hs : Region.noSelect ops = true) (hQ : ∀ c a d v w, Q (.panic c) (a.put d v) w → Q (.panic c) a w) (r : Nat) :
  ∀ (l : List Oper) (k : Nat) (listed : Array Bool) (a : Act) (w : World), C w → (∀ j, j < l.length → l[j]? = ops[k + j]?) → Region.lexFront md ops l.length k listed = true →
  wpSoft P ops C (fun a' => ∀ w', Below w.heap.size w w' → wpAnyT P md ops C Q r ((List.range' k l.length).foldl (fun b i => b.setIfInBounds i true) listed) a' w') l a → wpAnyT P md ops C Q (l.length + r) listed a w
 | [], _, _, _, w, _, _, _, h => by simpa using h w (Below.refl _ _)
 | o :: l, k, listed, a, w, hC, hl, hL, h => by
  have h0 : ops[k]? = some o := by simpa using (hl 0 (by simp)).symm
  simp only [List.length_cons, Region.lexFront, Bool.and_eq_true] at hL
  obtain ⟨⟨hr, hf⟩, hL'⟩ := hL
  have hr' : k ∈ Region.ready md ops listed := by simpa using hr
  obtain ⟨v, hy, hK⟩ := h
  rw [List.length_cons, Nat.add_right_comm]
  refine wpAnyT_first hCg h0 (Region.noSelect_spec hs) hQ (l.length + r) listed a w (Region.free_spec h0 hf) hr' hy hC fun w' hw' => ?_
  refine wpAnyT_soft hCg hs hQ r l (k + 1) _ _ w' (hCg _ _ hC hw') (fun j hj => by have := hl (j + 1) (by simpa using hj); simpa [Nat.add_assoc, Nat.add_comm 1 j] using this) hL' ?_
  refine mono _ _ ?_ hK
  intro a' ha' w'' hw''
  exact ha' w'' (hw'.trans (hw''.mono hw'.size))
where
 mono (l : List Oper) (a : Act) {Q1 Q2 : Act → Prop} (hq : ∀ a, Q1 a → Q2 a) (h : wpSoft P ops C Q1 l a) : wpSoft P ops C Q2 l a := by
  induction l generalizing a with
  | nil => exact hq _ h
  | cons o l ih => obtain ⟨v, hy, hK⟩ := h; exact ⟨v, hy, ih _ hK⟩

def Region.floatB (md : Region.Mode) (ops : Array Oper) (m : Nat) : Bool :=
 m ≤ ops.size && Region.noSelect ops && Region.lexFront md ops m 0 (Array.replicate ops.size false) &&
 Region.restB md ops (ops.size - m) m ((List.range' 0 m).foldl (fun b i => b.setIfInBounds i true) (Array.replicate ops.size false))

theorem wp_region_float {id : Nat} {a : Act} {W : World} (m B : Nat) {l : List Oper} (hm : P.follows .mixedOrders = true) (hB : Region.floatB .any l.toArray m = true) (hBW : B ≤ W.heap.size)
  (hQ : ∀ c a d v w, Q (.panic c) (a.put d v) w → Q (.panic c) a w)
  (h : wpSoft P l.toArray (Below B W) (fun a' => ∀ w', Below W.heap.size W w' → wpRest P l.toArray (Below B W) Q (l.drop m) a' w') (l.take m) a) : (Code.region id l.toArray true).wp P Q a W := by
 simp only [Region.floatB, Bool.and_eq_true, decide_eq_true_eq] at hB
 obtain ⟨⟨⟨hml, hs⟩, hL⟩, hR⟩ := hB
 have hml' : m ≤ l.length := by simpa using hml
 have hCg : ∀ w w', Below B W w → Below w.heap.size w w' → Below B W w' := fun w w' h1 h2 => h1.trans (h2.mono (Nat.le_trans hBW h1.size))
 refine wp_region_any hm (wpAny_of_T (C := Below B W) _ _ _ _ ?_)
 have hsz : l.toArray.size = (l.take m).length + (l.drop m).length := by simp; omega
 have hlen : (l.take m).length = m := by simp; omega
 have hlen2 : l.toArray.size - m = (l.drop m).length := by simp
 rw [hlen2] at hR
 have key := wpAnyT_soft (P := P) (Q := Q) (C := Below B W) (md := .any) (ops := l.toArray) hCg hs hQ (l.drop m).length (l.take m) 0 (Array.replicate l.toArray.size false) a { W with drawn := W.drawn + 1 } ((Below.refl B W).drew)
  (fun j hj => by
   rw [hlen] at hj
   simp [List.getElem?_take, hj])
  (by rw [hlen]; exact hL)
  (wpAnyT_soft.mono _ _ (fun a' ha' w' hw' => by
   have hw'' : Below W.heap.size W w' := (Below.refl W.heap.size W).drew.trans hw'
   rw [hlen]
   exact wpAnyT_rest hCg (l.drop m) m _ a' w' (hw''.mono hBW) (fun j => by simp [List.getElem?_drop]) hR (ha' w' hw'')) h)
 rw [← hsz] at key
 exact key
end
attribute [go_sem] Oper.softAt Oper.softUpon
theorem wpRest_step {P : Program} {ops : Array Oper} {C : World → Prop} {Q : Exit → Act → World → Prop} {o : Oper} {rest : List Oper} {a : Act} {w : World} (hw : Region.wanted o (yielded ops a.tmps) = true)
  (h : ∀ K : Act → World → Prop, (∀ a w, C w → (∀ w'', Below w.heap.size w w'' → wpRest P ops C Q rest a w'') → K a w) → o.wp P a w K Q) : wpRest P ops C Q (o :: rest) a w := by
 unfold wpRest
 rw [if_pos hw]
 exact h _ fun _ _ h1 h2 => ⟨h1, h2⟩
theorem wpSoft_skip {P : Program} {ops : Array Oper} {C : World → Prop} {Qa : Act → Prop} {o : Oper} {rest : List Oper} {a : Act} (hw : Region.wanted o (yielded ops a.tmps) = false)
  (h : wpSoft P ops C Qa rest (a.put o.dst undef)) : wpSoft P ops C Qa (o :: rest) a := ⟨undef, .inr ⟨hw, rfl⟩, h⟩
theorem wpSoft_step {P : Program} {ops : Array Oper} {B : Nat} {W : World} {Qa : Act → Prop} {o : Oper} {rest : List Oper} {a : Act} (v : Value) (hw : Region.wanted o (yielded ops a.tmps) = true)
  (hv : ∀ w, Below B W w → (∀ b o, b < B → w.cell? ⟨b, o, none⟩ = W.cell? ⟨b, o, none⟩) → o.softAt P a w v)
  (h : wpSoft P ops (Below B W) Qa rest (a.put o.dst v)) : wpSoft P ops (Below B W) Qa (o :: rest) a := ⟨v, .inl ⟨hw, fun w hb => hv w hb (fun b o h => hb.cell (p := ⟨b, o, none⟩) h)⟩, h⟩
theorem Calls.soft_same {P : Program} {f : FuncId} {args : Array Value} {w : World} {v : Value}
  (h : Calls P f args w fun e w' => e = .returned v ∧ w = w') : Calls P f args w fun e w'' => e = .returned v ∧ Below w.heap.size w w'' :=
 h.mono fun _ _ ⟨he, hw⟩ => ⟨he, hw ▸ Below.refl _ _⟩
theorem bcellB {B : Nat} {W w1 : World} (hb : Below B W w1) : (∀ b o, b < B → w1.cell? ⟨b, o, none⟩ = W.cell? ⟨b, o, none⟩) ∧ (∀ b o, b < B → w1.frozen? ⟨b, o, none⟩ = W.frozen? ⟨b, o, none⟩) :=
 ⟨fun b o h => hb.cell (p := ⟨b, o, none⟩) h, fun b o h => hb.frozen (p := ⟨b, o, none⟩) h⟩
end Go
/- A region that draws its order: operations whose value hangs on nothing that another one may do come up whenever they like; the others come up in one order only. -/
namespace Go
open Go.RowKit
section
variable {P : Program} {ops : Array Oper} {md : Region.Mode} {C : World → Prop} {Q : Exit → Act → World → Prop}

def Region.planB (md : Region.Mode) (ops : Array Oper) : List (Nat × Bool) → Array Bool → Bool
 | [], listed => (Region.ready md ops listed).isEmpty
 | (i, true) :: p, listed => (Region.ready md ops listed).contains i && Region.free md ops listed i && Region.planB md ops p (listed.setIfInBounds i true)
 | (i, false) :: p, listed => (Region.ready md ops listed) == [i] && Region.planB md ops p (listed.setIfInBounds i true)

def wpPlan (P : Program) (ops : Array Oper) (C : World → Prop) (Q : Exit → Act → World → Prop) : List (Nat × Bool) → Act → World → Prop
 | [], a, w => Q .normal a w
 | (i, true) :: p, a, w => ∃ o v, ops[i]? = some o ∧ SoftIn P ops C o v a ∧ ∀ w'', Below w.heap.size w w'' → wpPlan P ops C Q p (a.put o.dst v) w''
 | (i, false) :: p, a, w => ∃ o, ops[i]? = some o ∧ if Region.wanted o (yielded ops a.tmps) then o.wp P a w (fun a' w' => C w' ∧ ∀ w'', Below w'.heap.size w' w'' → wpPlan P ops C Q p a' w'') Q
  else ∀ w'', Below w.heap.size w w'' → wpPlan P ops C Q p (a.put o.dst undef) w''

theorem wpAnyT_plan (hCg : ∀ w w', C w → Below w.heap.size w w' → C w') (hs : Region.noSelect ops = true) (hQ : ∀ c a d v w, Q (.panic c) (a.put d v) w → Q (.panic c) a w) :
  ∀ (p : List (Nat × Bool)) (listed : Array Bool) (a : Act) (w : World), C w → Region.planB md ops p listed = true → wpPlan P ops C Q p a w → wpAnyT P md ops C Q p.length listed a w
 | [], _, _, _, _, hB, h => ⟨by simpa [Region.planB] using hB, h⟩
 | (i, true) :: p, listed, a, w, hC, hB, h => by
  obtain ⟨o, v, ho, hy, hK⟩ := h
  simp only [Region.planB, Bool.and_eq_true] at hB
  obtain ⟨⟨hr, hf⟩, hB'⟩ := hB
  have hr' : i ∈ Region.ready md ops listed := by simpa using hr
  exact wpAnyT_first hCg ho (Region.noSelect_spec hs) hQ p.length listed a w (Region.free_spec ho hf) hr' hy hC fun w' hw' => wpAnyT_plan hCg hs hQ p _ _ w' (hCg _ _ hC hw') hB' (hK w' hw')
 | (i, false) :: p, listed, a, w, hC, hB, h => by
  obtain ⟨o, ho, h⟩ := h
  simp only [Region.planB, Bool.and_eq_true, beq_iff_eq] at hB
  obtain ⟨hr, hB'⟩ := hB
  refine ⟨fun h => (by rw [hr] at h; cases h), fun j hj => ?_⟩
  rw [hr] at hj
  obtain rfl := List.mem_singleton.1 hj
  unfold wpOp
  rw [ho]
  show if Region.wanted o (yielded ops a.tmps) = true then _ else _
  split
  ·rename_i hw
   rw [if_pos hw] at h
   exact .inl (Oper.wp_mono (fun a' w' h' => ⟨h'.1, fun w'' hw'' => wpAnyT_plan hCg hs hQ p _ a' w'' (hCg _ _ h'.1 hw'') hB' (h'.2 w'' hw'')⟩) h)
  ·rename_i hw
   rw [if_neg hw] at h
   exact ⟨hC, fun w'' hw'' => wpAnyT_plan hCg hs hQ p _ _ w'' (hCg _ _ hC hw'') hB' (h w'' hw'')⟩

/-- the plan in whatever has grown out of a world -/
def wpPlanA (P : Program) (ops : Array Oper) (C : World → Prop) (Q : Exit → Act → World → Prop) (p : List (Nat × Bool)) (a : Act) (W0 : World) : Prop :=
 ∀ w'', Below W0.heap.size W0 w'' → wpPlan P ops C Q p a w''
theorem wp_region_plan {id : Nat} {a : Act} {W : World} (p : List (Nat × Bool)) (B : Nat) (hm : P.follows .mixedOrders = true) (hB : (p.length == ops.size && Region.noSelect ops && Region.planB .any ops p (Array.replicate ops.size false)) = true) (hBW : B ≤ W.heap.size)
  (hQ : ∀ c a d v w, Q (.panic c) (a.put d v) w → Q (.panic c) a w)
  (h : wpPlanA P ops (Below B W) Q p a W) : (Code.region id ops true).wp P Q a W := by
 simp only [Bool.and_eq_true, beq_iff_eq] at hB
 obtain ⟨⟨hlen, hs⟩, hP⟩ := hB
 have hCg : ∀ w w', Below B W w → Below w.heap.size w w' → Below B W w' := fun w w' h1 h2 => h1.trans (h2.mono (Nat.le_trans hBW h1.size))
 refine wp_region_any hm (wpAny_of_T (C := Below B W) _ _ _ _ ?_)
 have := wpAnyT_plan (P := P) (Q := Q) (C := Below B W) (md := .any) (ops := ops) hCg hs hQ p (Array.replicate ops.size false) a { W with drawn := W.drawn + 1 } ((Below.refl B W).drew) hP (h _ ((Below.refl _ W).drew))
 rw [hlen] at this
 exact this
theorem wpPlan_skip {i : Nat} {p : List (Nat × Bool)} {a : Act} {w : World} (o : Oper) (ho : ops[i]? = some o) (hw : Region.wanted o (yielded ops a.tmps) = false)
  (h : ∀ w'', Below w.heap.size w w'' → wpPlan P ops C Q p (a.put o.dst undef) w'') : wpPlan P ops C Q ((i, true) :: p) a w := ⟨o, undef, ho, .inr ⟨hw, rfl⟩, h⟩
theorem wpPlan_soft {B i : Nat} {W : World} {p : List (Nat × Bool)} {a : Act} {w : World} (o : Oper) (v : Value) (ho : ops[i]? = some o) (hw : Region.wanted o (yielded ops a.tmps) = true)
  (hv : ∀ w, Below B W w → (∀ b o, b < B → w.cell? ⟨b, o, none⟩ = W.cell? ⟨b, o, none⟩) → o.softAt P a w v)
  (h : ∀ w'', Below w.heap.size w w'' → wpPlan P ops (Below B W) Q p (a.put o.dst v) w'') : wpPlan P ops (Below B W) Q ((i, true) :: p) a w :=
 ⟨o, v, ho, .inl ⟨hw, fun w hb => hv w hb (fun b o h => hb.cell (p := ⟨b, o, none⟩) h)⟩, h⟩
theorem wpPlan_hard {i : Nat} {p : List (Nat × Bool)} {a : Act} {w : World} (o : Oper) (ho : ops[i]? = some o) (hw : Region.wanted o (yielded ops a.tmps) = true)
  (h : ∀ K : Act → World → Prop, (∀ a w, C w → (∀ w'', Below w.heap.size w w'' → wpPlan P ops C Q p a w'') → K a w) → o.wp P a w K Q) : wpPlan P ops C Q ((i, false) :: p) a w := by
 refine ⟨o, ho, ?_⟩
 rw [if_pos hw]
 exact h _ fun _ _ h1 h2 => ⟨h1, h2⟩
theorem wpPlan_hskip {i : Nat} {p : List (Nat × Bool)} {a : Act} {w : World} (o : Oper) (ho : ops[i]? = some o) (hw : Region.wanted o (yielded ops a.tmps) = false)
  (h : ∀ w'', Below w.heap.size w w'' → wpPlan P ops C Q p (a.put o.dst undef) w'') : wpPlan P ops C Q ((i, false) :: p) a w := by
 refine ⟨o, ho, ?_⟩
 rw [if_neg (by rw [hw]; simp)]
 exact h
theorem wpPlanA_skip {l : List Oper} {i : Nat} {p : List (Nat × Bool)} {a : Act} {W0 : World} (o : Oper) (ho : l[i]? = some o) (hw : Region.wanted o (yielded l.toArray a.tmps) = false)
  (h : wpPlanA P l.toArray C Q p (a.put o.dst undef) W0) : wpPlanA P l.toArray C Q ((i, true) :: p) a W0 :=
 fun w hg => wpPlan_skip o (by rw [List.getElem?_toArray]; exact ho) hw fun w2 hg2 => h w2 (hg.trans (hg2.mono hg.size))
theorem wpPlanA_soft {l : List Oper} {B i : Nat} {W W0 : World} {p : List (Nat × Bool)} {a : Act} (o : Oper) (v : Value) (ho : l[i]? = some o) (hw : Region.wanted o (yielded l.toArray a.tmps) = true)
  (hv : ∀ w, Below B W w → (∀ b o, b < B → w.cell? ⟨b, o, none⟩ = W.cell? ⟨b, o, none⟩) → o.softAt P a w v)
  (h : wpPlanA P l.toArray (Below B W) Q p (a.put o.dst v) W0) : wpPlanA P l.toArray (Below B W) Q ((i, true) :: p) a W0 :=
 fun w hg => wpPlan_soft o v (by rw [List.getElem?_toArray]; exact ho) hw hv fun w2 hg2 => h w2 (hg.trans (hg2.mono hg.size))
theorem wpPlanA_hard {l : List Oper} {i : Nat} {p : List (Nat × Bool)} {a : Act} {W0 : World} (o : Oper) (ho : l[i]? = some o) (hw : Region.wanted o (yielded l.toArray a.tmps) = true)
  (h : ∀ w, Below W0.heap.size W0 w → ∀ K : Act → World → Prop, (∀ a w, C w → wpPlanA P l.toArray C Q p a w → K a w) → o.wp P a w K Q) : wpPlanA P l.toArray C Q ((i, false) :: p) a W0 :=
 fun w hg => wpPlan_hard o (by rw [List.getElem?_toArray]; exact ho) hw fun K hK => h w hg K hK
theorem wpPlanA_hskip {l : List Oper} {i : Nat} {p : List (Nat × Bool)} {a : Act} {W0 : World} (o : Oper) (ho : l[i]? = some o) (hw : Region.wanted o (yielded l.toArray a.tmps) = false)
  (h : wpPlanA P l.toArray C Q p (a.put o.dst undef) W0) : wpPlanA P l.toArray C Q ((i, false) :: p) a W0 :=
 fun w hg => wpPlan_hskip o (by rw [List.getElem?_toArray]; exact ho) hw fun w2 hg2 => h w2 (hg.trans (hg2.mono hg.size))
theorem wpPlanA_nil {a : Act} {W0 : World} (h : ∀ w, Below W0.heap.size W0 w → Q .normal a w) : wpPlanA P ops C Q [] a W0 := h
end
end Go
/- A region that draws its order, with one new block that is laid whenever it likes ahead of its use. -/
namespace Go
open Go.RowKit
section
variable {P : Program} {ops : Array Oper} {md : Region.Mode} {C : World → Prop} {Q : Exit → Act → World → Prop} {Φ : Value → World → Prop}

def Region.apartB (ops : Array Oper) (i f : Nat) : Bool := match ops[i]?, ops[f]? with
 | some oi, some o => oi.apart ops o
 | _, _ => false
def Region.ok0 (md : Region.Mode) (ops : Array Oper) : List (Nat × Nat) → Array Bool → Bool
 | [], listed => (Region.ready md ops listed).isEmpty
 | (i, k) :: p, listed =>
  if k = 1 then (Region.ready md ops listed).contains i && Region.free md ops listed i && Region.ok0 md ops p (listed.setIfInBounds i true)
  else if k = 0 then (Region.ready md ops listed) == [i] && Region.ok0 md ops p (listed.setIfInBounds i true)
  else if k = 3 then (Region.ready md ops listed) == [i] && Region.ok0 md ops p (listed.setIfInBounds i true)
  else false
def Region.okA (md : Region.Mode) (ops : Array Oper) (f : Nat) : List (Nat × Nat) → Array Bool → Bool
 | [], _ => false
 | (i, k) :: p, listed =>
  if k = 1 then Region.apartB ops i f && (Region.ready md ops listed).contains i && Region.free md ops listed i && Region.okA md ops f p (listed.setIfInBounds i true)
  else if k = 0 then Region.apartB ops i f && (Region.ready md ops listed) == [i] && Region.okA md ops f p (listed.setIfInBounds i true)
  else if k = 3 then false
  else i == f && Region.ok0 md ops p listed
def Region.okB (md : Region.Mode) (ops : Array Oper) (f : Nat) : List (Nat × Nat) → Array Bool → Bool
 | [], _ => false
 | (i, k) :: p, listed =>
  if k = 1 then (Region.ready md ops listed).contains i && Region.free md ops listed i && Region.okB md ops f p (listed.setIfInBounds i true)
  else if k = 0 then (Region.ready md ops listed).contains i && ((Region.ready md ops listed).all fun j => j == i || j == f) && Region.okA md ops f ((i, 0) :: p) (listed.setIfInBounds f true) && Region.okB md ops f p (listed.setIfInBounds i true)
  else if k = 3 then false
  else i == f && (Region.ready md ops listed) == [f] && Region.ok0 md ops p (listed.setIfInBounds f true)

def wpPlanF (P : Program) (ops : Array Oper) (C : World → Prop) (Q : Exit → Act → World → Prop) (Φ : Value → World → Prop) : List (Nat × Nat) → Act → World → Prop
 | [], a, w => Q .normal a w
 | (i, k) :: p, a, w => ∃ o, ops[i]? = some o ∧
  (if k = 1 then ∃ v, SoftIn P ops C o v a ∧ ∀ w'', Below w.heap.size w w'' → wpPlanF P ops C Q Φ p (a.put o.dst v) w''
   else if k = 0 then (if Region.wanted o (yielded ops a.tmps) then o.wp P a w (fun a' w' => (C w' ∧ Below w.heap.size w w') ∧ ∀ w'', Below w'.heap.size w' w'' → wpPlanF P ops C Q Φ p a' w'') Q
    else ∀ w'', Below w.heap.size w w'' → wpPlanF P ops C Q Φ p (a.put o.dst undef) w'')
   else if k = 3 then (if Region.wanted o (yielded ops a.tmps) then o.wp P a w (fun a' w' => C w' ∧ ∀ w'', Below w'.heap.size w' w'' → wpPlanF P ops C Q Φ p a' w'') Q
    else ∀ w'', Below w.heap.size w w'' → wpPlanF P ops C Q Φ p (a.put o.dst undef) w'')
   else ∀ v w'', Below w.heap.size w w'' → Φ v w'' → wpPlanF P ops C Q Φ p (a.put o.dst v) w'')

theorem wp_putInto {oj : Oper} {d : Option Tmp} {v : Value} {a : Act} {w : World} {K : Act → World → Prop} (h3 : ∀ d', d = some d' → d' ∉ oj.looksAt ops) (h2 : ∀ d', d = some d' → oj.dst ≠ some d')
  (hsj : ∀ cs b, oj.op ≠ .select cs b) (hQ2 : ∀ c a d v w, Q (.panic c) a w → Q (.panic c) (a.put d v) w) (h : oj.wp P a w K Q) :
  oj.wp P (a.put d v) w (fun a' w' => ∃ a1 : Act, a' = a1.put d v ∧ K a1 w') Q := by
 unfold Oper.wp at *
 rw [execOp_put oj hsj a d v h3]
 generalize (execOp a.eval oj).run P w = r at *
 cases r with
 | ok n w' =>
  cases n <;> simp only [Oper.upon] at h ⊢
  case value u => exact ⟨_, Act.put_comm a v u h2, h⟩
  case skip => exact ⟨_, Act.put_comm a v undef h2, h⟩
  case defer x => exact ⟨_, by rw [Act.put_defers]; exact Act.put_comm _ v undef h2, h⟩
  case enter f args =>
   refine Calls.mono h fun e w'' he => ?_
   cases e with
   | returned u => exact ⟨_, Act.put_comm a v u h2, he⟩
   | panicked c => exact hQ2 _ _ _ _ _ he
   | outgrown => exact he
  case row row args => exact Rows.mono h fun u w'' he => ⟨_, Act.put_comm a v u h2, he⟩
 | halt x w' =>
  cases x <;> simp only [Oper.upon] at h ⊢
  case panic u => exact hQ2 _ _ _ _ _ h

theorem wpAnyT_ok0 (hCg : ∀ w w', C w → Below w.heap.size w w' → C w') (hs : Region.noSelect ops = true) (hQ : ∀ c a d v w, Q (.panic c) (a.put d v) w → Q (.panic c) a w) :
  ∀ (p : List (Nat × Nat)) (listed : Array Bool) (a : Act) (w : World), C w → Region.ok0 md ops p listed = true → wpPlanF P ops C Q Φ p a w → wpAnyT P md ops C Q p.length listed a w
 | [], _, _, _, _, hB, h => ⟨by simpa [Region.ok0] using hB, h⟩
 | (i, k) :: p, listed, a, w, hC, hB, h => by
  obtain ⟨o, ho, h⟩ := h
  unfold Region.ok0 at hB
  by_cases h1 : k = 1
  ·rw [if_pos h1] at hB h
   obtain ⟨v, hy, hK⟩ := h
   simp only [Bool.and_eq_true] at hB
   obtain ⟨⟨hr, hf⟩, hB'⟩ := hB
   exact wpAnyT_first hCg ho (Region.noSelect_spec hs) hQ p.length listed a w (Region.free_spec ho hf) (by simpa using hr) hy hC fun w' hw' => wpAnyT_ok0 hCg hs hQ p _ _ w' (hCg _ _ hC hw') hB' (hK w' hw')
  ·rw [if_neg h1] at hB h
   by_cases h0 : k = 0
   ·rw [if_pos h0] at hB h
    simp only [Bool.and_eq_true, beq_iff_eq] at hB
    obtain ⟨hr, hB'⟩ := hB
    refine ⟨fun h => (by rw [hr] at h; cases h), fun j hj => ?_⟩
    rw [hr] at hj
    obtain rfl := List.mem_singleton.1 hj
    unfold wpOp
    rw [ho]
    show if Region.wanted o (yielded ops a.tmps) = true then _ else _
    split
    ·rename_i hw
     rw [if_pos hw] at h
     exact .inl (Oper.wp_mono (fun a' w' h' => ⟨h'.1.1, fun w'' hw'' => wpAnyT_ok0 hCg hs hQ p _ a' w'' (hCg _ _ h'.1.1 hw'') hB' (h'.2 w'' hw'')⟩) h)
    ·rename_i hw
     rw [if_neg hw] at h
     exact ⟨hC, fun w'' hw'' => wpAnyT_ok0 hCg hs hQ p _ _ w'' (hCg _ _ hC hw'') hB' (h w'' hw'')⟩
   ·rw [if_neg h0] at hB h
    by_cases h3 : k = 3
    ·rw [if_pos h3] at hB h
     simp only [Bool.and_eq_true, beq_iff_eq] at hB
     obtain ⟨hr, hB'⟩ := hB
     refine ⟨fun h => (by rw [hr] at h; cases h), fun j hj => ?_⟩
     rw [hr] at hj
     obtain rfl := List.mem_singleton.1 hj
     unfold wpOp
     rw [ho]
     show if Region.wanted o (yielded ops a.tmps) = true then _ else _
     split
     ·rename_i hw
      rw [if_pos hw] at h
      exact .inl (Oper.wp_mono (fun a' w' h' => ⟨h'.1, fun w'' hw'' => wpAnyT_ok0 hCg hs hQ p _ a' w'' (hCg _ _ h'.1 hw'') hB' (h'.2 w'' hw'')⟩) h)
     ·rename_i hw
      rw [if_neg hw] at h
      exact ⟨hC, fun w'' hw'' => wpAnyT_ok0 hCg hs hQ p _ _ w'' (hCg _ _ hC hw'') hB' (h w'' hw'')⟩
    ·rw [if_neg h3] at hB
     cases hB

theorem okA_pos {f : Nat} {p : List (Nat × Nat)} {listed : Array Bool} (h : Region.okA md ops f p listed = true) : 0 < p.length := by
 cases p with
 | nil => cases h
 | cons x p => simp

theorem wpAnyT_okA (hCg : ∀ w w', C w → Below w.heap.size w w' → C w') (hs : Region.noSelect ops = true) (hQ : ∀ c a d v w, Q (.panic c) (a.put d v) w → Q (.panic c) a w)
  (hQ2 : ∀ c a d v w, Q (.panic c) a w → Q (.panic c) (a.put d v) w) (hΦ : ∀ v w w', Φ v w → Below w.heap.size w w' → Φ v w') {f : Nat} {of : Oper} (hof : ops[f]? = some of) (v : Value) :
  ∀ (p : List (Nat × Nat)) (listed : Array Bool) (a : Act) (w : World), C w → Region.okA md ops f p listed = true → Φ v w → wpPlanF P ops C Q Φ p a w → wpAnyT P md ops C Q (p.length - 1) listed (a.put of.dst v) w
 | [], _, _, _, _, hB, _, _ => by cases hB
 | (i, k) :: p, listed, a, w, hC, hB, hv, h => by
  obtain ⟨o, ho, h⟩ := h
  unfold Region.okA at hB
  have ap : Region.apartB ops i f = true → o.apart ops of = true := fun h => by
   unfold Region.apartB at h; rw [ho, hof] at h; exact h
  by_cases h1 : k = 1
  ·rw [if_pos h1] at hB h
   obtain ⟨u, hy, hK⟩ := h
   simp only [Bool.and_eq_true] at hB
   obtain ⟨⟨⟨ha, hr⟩, hf⟩, hB'⟩ := hB
   obtain ⟨a1, a2, a3⟩ := Oper.apart_spec (ap ha)
   have hp := okA_pos hB'
   rw [show ((i, k) :: p).length - 1 = (p.length - 1) + 1 by simp; omega]
   refine wpAnyT_first hCg ho (Region.noSelect_spec hs) hQ (p.length - 1) listed _ w (Region.free_spec ho hf) (by simpa using hr)
    (hy.of_same (execOp_put o (fun cs b => Region.noSelect_spec hs i o cs b ho) a of.dst v a3) (wanted_put o a of.dst v a3)) hC fun w' hw' => ?_
   rw [Act.put_comm a v u (fun d hd hi => a2 d hi hd)]
   exact wpAnyT_okA hCg hs hQ hQ2 hΦ hof v p _ _ w' (hCg _ _ hC hw') hB' (hΦ _ _ _ hv hw') (hK w' hw')
  ·rw [if_neg h1] at hB h
   by_cases h0 : k = 0
   ·rw [if_pos h0] at hB h
    simp only [Bool.and_eq_true, beq_iff_eq] at hB
    obtain ⟨⟨ha, hr⟩, hB'⟩ := hB
    obtain ⟨a1, a2, a3⟩ := Oper.apart_spec (ap ha)
    have hp := okA_pos hB'
    rw [show ((i, k) :: p).length - 1 = (p.length - 1) + 1 by simp; omega]
    refine ⟨fun h => (by rw [hr] at h; cases h), fun j hj => ?_⟩
    rw [hr] at hj
    obtain rfl := List.mem_singleton.1 hj
    unfold wpOp
    rw [ho]
    show if Region.wanted o (yielded ops (a.put of.dst v).tmps) = true then _ else _
    rw [wanted_put o a of.dst v a3]
    have h2' : ∀ d, of.dst = some d → o.dst ≠ some d := fun d hd hi => a2 d hi hd
    split
    ·rename_i hw
     rw [if_pos hw] at h
     refine .inl (Oper.wp_mono ?_ (wp_putInto a3 h2' (fun cs b => Region.noSelect_spec hs j o cs b ho) hQ2 h))
     rintro a' w' ⟨a1', rfl, ⟨hC', hb⟩, hK⟩
     exact ⟨hC', fun w'' hw'' => wpAnyT_okA hCg hs hQ hQ2 hΦ hof v p _ a1' w'' (hCg _ _ hC' hw'') hB' (hΦ _ _ _ hv (hb.trans (hw''.mono hb.size))) (hK w'' hw'')⟩
    ·rename_i hw
     rw [if_neg hw] at h
     rw [Act.put_comm a v undef h2']
     exact ⟨hC, fun w'' hw'' => wpAnyT_okA hCg hs hQ hQ2 hΦ hof v p _ _ w'' (hCg _ _ hC hw'') hB' (hΦ _ _ _ hv hw'') (h w'' hw'')⟩
   ·rw [if_neg h0] at hB h
    by_cases h3 : k = 3
    ·rw [if_pos h3] at hB; cases hB
    rw [if_neg h3] at hB h
    simp only [Bool.and_eq_true, beq_iff_eq] at hB
    obtain ⟨rfl, hB'⟩ := hB
    obtain rfl := Option.some.inj (hof.symm.trans ho)
    exact wpAnyT_ok0 hCg hs hQ p _ _ w hC hB' (h v w (Below.refl _ _) hv)

def wpPlanFA (P : Program) (ops : Array Oper) (C : World → Prop) (Q : Exit → Act → World → Prop) (Φ : Value → World → Prop) (p : List (Nat × Nat)) (a : Act) (W0 : World) : Prop :=
 ∀ w'', Below W0.heap.size W0 w'' → wpPlanF P ops C Q Φ p a w''

theorem wpAnyT_okB (hCg : ∀ w w', C w → Below w.heap.size w w' → C w') (hs : Region.noSelect ops = true) (hQ : ∀ c a d v w, Q (.panic c) (a.put d v) w → Q (.panic c) a w)
  (hQ2 : ∀ c a d v w, Q (.panic c) a w → Q (.panic c) (a.put d v) w) (hΦ : ∀ v w w', Φ v w → Below w.heap.size w w' → Φ v w') {f : Nat} {of : Oper} (hof : ops[f]? = some of)
  (hF : ∀ a w, C w → Region.wanted of (yielded ops a.tmps) = true ∧ of.wp P a w (fun a' w' => ∃ v, a' = a.put of.dst v ∧ Φ v w' ∧ Below w.heap.size w w') Q) :
  ∀ (p : List (Nat × Nat)) (listed : Array Bool) (a : Act) (w : World), C w → Region.okB md ops f p listed = true → wpPlanFA P ops C Q Φ p a w → wpAnyT P md ops C Q p.length listed a w
 | [], _, _, _, _, hB, _ => by cases hB
 | (i, k) :: p, listed, a, w, hC, hB, hA => by
  obtain ⟨o, ho, h⟩ := hA w (Below.refl _ _)
  have hA0 := hA
  unfold Region.okB at hB
  by_cases h1 : k = 1
  ·rw [if_pos h1] at hB h
   obtain ⟨u, hy, hK⟩ := h
   simp only [Bool.and_eq_true] at hB
   obtain ⟨⟨hr, hf⟩, hB'⟩ := hB
   refine wpAnyT_first hCg ho (Region.noSelect_spec hs) hQ p.length listed _ w (Region.free_spec ho hf) (by simpa using hr) hy hC fun w' hw' => ?_
   exact wpAnyT_okB hCg hs hQ hQ2 hΦ hof hF p _ _ w' (hCg _ _ hC hw') hB' (fun w2 hw2 => hK w2 (hw'.trans (hw2.mono hw'.size)))
  ·rw [if_neg h1] at hB h
   by_cases h0 : k = 0
   ·subst h0
    rw [if_pos rfl] at hB h
    simp only [Bool.and_eq_true] at hB
    obtain ⟨⟨⟨hr, hall⟩, hBA⟩, hB'⟩ := hB
    refine ⟨fun h => (by rw [h] at hr; simp at hr), fun j hj => ?_⟩
    have hj2 := List.all_eq_true.1 hall j hj
    simp only [Bool.or_eq_true, beq_iff_eq] at hj2
    rcases hj2 with rfl | rfl
    ·unfold wpOp
     rw [ho]
     show if Region.wanted o (yielded ops a.tmps) = true then _ else _
     split
     ·rename_i hw
      rw [if_pos hw] at h
      exact .inl (Oper.wp_mono (fun a' w' h' => ⟨h'.1.1, fun w'' hw'' => wpAnyT_okB hCg hs hQ hQ2 hΦ hof hF p _ a' w'' (hCg _ _ h'.1.1 hw'') hB' (fun w2 hw2 => h'.2 w2 (hw''.trans (hw2.mono hw''.size)))⟩) h)
     ·rename_i hw
      rw [if_neg hw] at h
      exact ⟨hC, fun w'' hw'' => wpAnyT_okB hCg hs hQ hQ2 hΦ hof hF p _ _ w'' (hCg _ _ hC hw'') hB' (fun w2 hw2 => h w2 (hw''.trans (hw2.mono hw''.size)))⟩
    ·obtain ⟨hwt, hwp⟩ := hF a w hC
     unfold wpOp
     rw [hof]
     show if Region.wanted of (yielded ops a.tmps) = true then _ else _
     rw [if_pos hwt]
     refine .inl (Oper.wp_mono ?_ hwp)
     rintro a' w' ⟨v, rfl, hv, hb⟩
     refine ⟨hCg _ _ hC hb, fun w'' hw'' => ?_⟩
     have hbb := hb.trans (hw''.mono hb.size)
     exact wpAnyT_okA hCg hs hQ hQ2 hΦ hof v ((i, 0) :: p) _ a w'' (hCg _ _ hC hbb) hBA (hΦ _ _ _ hv hw'') (hA0 w'' hbb)
   ·rw [if_neg h0] at hB h
    by_cases h3 : k = 3
    ·rw [if_pos h3] at hB; cases hB
    rw [if_neg h3] at hB h
    simp only [Bool.and_eq_true, beq_iff_eq] at hB
    obtain ⟨⟨rfl, hr⟩, hB'⟩ := hB
    obtain rfl := Option.some.inj (hof.symm.trans ho)
    refine ⟨fun h => (by rw [hr] at h; cases h), fun j hj => ?_⟩
    rw [hr] at hj
    obtain rfl := List.mem_singleton.1 hj
    obtain ⟨hwt, hwp⟩ := hF a w hC
    unfold wpOp
    rw [hof]
    show if Region.wanted of (yielded ops a.tmps) = true then _ else _
    rw [if_pos hwt]
    refine .inl (Oper.wp_mono ?_ hwp)
    rintro a' w' ⟨v, rfl, hv, hb⟩
    refine ⟨hCg _ _ hC hb, fun w'' hw'' => ?_⟩
    have hbb := hb.trans (hw''.mono hb.size)
    exact wpAnyT_ok0 hCg hs hQ p _ _ w'' (hCg _ _ hC hbb) hB' (h v w'' hbb (hΦ _ _ _ hv hw''))

theorem wp_region_planF {id : Nat} {a : Act} {W : World} (p : List (Nat × Nat)) (f B : Nat) (of : Oper) (hof : ops[f]? = some of) (hm : P.follows .mixedOrders = true)
  (hB : (p.length == ops.size && Region.noSelect ops && Region.okB .any ops f p (Array.replicate ops.size false)) = true) (hBW : B ≤ W.heap.size)
  (hQ : ∀ c a d v w, Q (.panic c) (a.put d v) w → Q (.panic c) a w) (hQ2 : ∀ c a d v w, Q (.panic c) a w → Q (.panic c) (a.put d v) w)
  (hΦ : ∀ v w w', Φ v w → Below w.heap.size w w' → Φ v w')
  (hF : ∀ a w, Below B W w → Region.wanted of (yielded ops a.tmps) = true ∧ of.wp P a w (fun a' w' => ∃ v, a' = a.put of.dst v ∧ Φ v w' ∧ Below w.heap.size w w') Q)
  (h : wpPlanFA P ops (Below B W) Q Φ p a W) : (Code.region id ops true).wp P Q a W := by
 simp only [Bool.and_eq_true, beq_iff_eq] at hB
 obtain ⟨⟨hlen, hs⟩, hP⟩ := hB
 have hCg : ∀ w w', Below B W w → Below w.heap.size w w' → Below B W w' := fun w w' h1 h2 => h1.trans (h2.mono (Nat.le_trans hBW h1.size))
 refine wp_region_any hm (wpAny_of_T (C := Below B W) _ _ _ _ ?_)
 have := wpAnyT_okB (P := P) (Q := Q) (C := Below B W) (md := .any) (ops := ops) (Φ := Φ) hCg hs hQ hQ2 hΦ hof hF p (Array.replicate ops.size false) a { W with drawn := W.drawn + 1 } ((Below.refl B W).drew) hP
  (fun w2 hw2 => h w2 (((Below.refl _ W).drew).trans (hw2.mono (Nat.le_refl _))))
 rw [hlen] at this
 exact this
theorem wpPlanFA_skip {l : List Oper} {i : Nat} {p : List (Nat × Nat)} {a : Act} {W0 : World} (o : Oper) (ho : l[i]? = some o) (hw : Region.wanted o (yielded l.toArray a.tmps) = false)
  (h : wpPlanFA P l.toArray C Q Φ p (a.put o.dst undef) W0) : wpPlanFA P l.toArray C Q Φ ((i, 1) :: p) a W0 :=
 fun w hg => ⟨o, by rw [List.getElem?_toArray]; exact ho, by rw [if_pos rfl]; exact ⟨undef, .inr ⟨hw, rfl⟩, fun w2 hg2 => h w2 (hg.trans (hg2.mono hg.size))⟩⟩
theorem wpPlanFA_soft {l : List Oper} {B i : Nat} {W W0 : World} {p : List (Nat × Nat)} {a : Act} (o : Oper) (v : Value) (ho : l[i]? = some o) (hw : Region.wanted o (yielded l.toArray a.tmps) = true)
  (hv : ∀ w, Below B W w → (∀ b o, b < B → w.cell? ⟨b, o, none⟩ = W.cell? ⟨b, o, none⟩) → o.softAt P a w v)
  (h : wpPlanFA P l.toArray (Below B W) Q Φ p (a.put o.dst v) W0) : wpPlanFA P l.toArray (Below B W) Q Φ ((i, 1) :: p) a W0 :=
 fun w hg => ⟨o, by rw [List.getElem?_toArray]; exact ho, by
  rw [if_pos rfl]
  exact ⟨v, .inl ⟨hw, fun w hb => hv w hb (fun b o h => hb.cell (p := ⟨b, o, none⟩) h)⟩, fun w2 hg2 => h w2 (hg.trans (hg2.mono hg.size))⟩⟩
theorem wpPlanFA_hard {l : List Oper} {i : Nat} {p : List (Nat × Nat)} {a : Act} {W0 : World} (o : Oper) (ho : l[i]? = some o) (hw : Region.wanted o (yielded l.toArray a.tmps) = true)
  (h : ∀ w, Below W0.heap.size W0 w → ∀ K : Act → World → Prop, (∀ a w1, C w1 → Below w.heap.size w w1 → wpPlanFA P l.toArray C Q Φ p a w1 → K a w1) → o.wp P a w K Q) : wpPlanFA P l.toArray C Q Φ ((i, 0) :: p) a W0 :=
 fun w hg => ⟨o, by rw [List.getElem?_toArray]; exact ho, by
  rw [if_neg (by decide), if_pos rfl, if_pos hw]
  exact h w hg _ fun _ _ h1 h2 h3 => ⟨⟨h1, h2⟩, h3⟩⟩
theorem wpPlanFA_float {l : List Oper} {i : Nat} {p : List (Nat × Nat)} {a : Act} {W0 : World} (o : Oper) (ho : l[i]? = some o)
  (h : ∀ v w, Below W0.heap.size W0 w → Φ v w → wpPlanFA P l.toArray C Q Φ p (a.put o.dst v) w) : wpPlanFA P l.toArray C Q Φ ((i, 2) :: p) a W0 :=
 fun w hg => ⟨o, by rw [List.getElem?_toArray]; exact ho, by
  rw [if_neg (by decide), if_neg (by decide), if_neg (by decide)]
  exact fun v w2 hg2 hv => h v w2 (hg.trans (hg2.mono hg.size)) hv w2 (Below.refl _ _)⟩
theorem wpPlanFA_late {l : List Oper} {i : Nat} {p : List (Nat × Nat)} {a : Act} {W0 : World} (o : Oper) (ho : l[i]? = some o) (hw : Region.wanted o (yielded l.toArray a.tmps) = true)
  (h : ∀ w, Below W0.heap.size W0 w → ∀ K : Act → World → Prop, (∀ a w1, C w1 → wpPlanFA P l.toArray C Q Φ p a w1 → K a w1) → o.wp P a w K Q) : wpPlanFA P l.toArray C Q Φ ((i, 3) :: p) a W0 :=
 fun w hg => ⟨o, by rw [List.getElem?_toArray]; exact ho, by
  rw [if_neg (by decide), if_neg (by decide), if_pos rfl, if_pos hw]
  exact h w hg _ fun _ _ h1 h3 => ⟨h1, h3⟩⟩
theorem wpPlanFA_nil {a : Act} {W0 : World} (h : ∀ w, Below W0.heap.size W0 w → Q .normal a w) : wpPlanFA P ops C Q Φ [] a W0 := h
end
end Go
namespace Go.Proofs.YtdimmlljjmmdbaaGreatDoor
open Go.RowKit
theorem keepB_alloc {B : Nat} {W w1 : World} (ob : Obj) (h : (∀ b o, b < B → w1.cell? ⟨b, o, none⟩ = W.cell? ⟨b, o, none⟩) ∧ Below B W w1) (hB : B ≤ W.heap.size) :
  (∀ b o, b < B → (w1.alloc ob).cell? ⟨b, o, none⟩ = W.cell? ⟨b, o, none⟩) ∧ Below B W (w1.alloc ob) :=
 keepB_of (h.2.alloc (Nat.le_trans hB h.2.size) ob)
theorem keepB_set {B : Nat} {W w1 : World} {p : Addr} {u : Value} (h : (∀ b o, b < B → w1.cell? ⟨b, o, none⟩ = W.cell? ⟨b, o, none⟩) ∧ Below B W w1) (hp : B ≤ p.block) :
  (∀ b o, b < B → (w1.setCell p u).cell? ⟨b, o, none⟩ = W.cell? ⟨b, o, none⟩) ∧ Below B W (w1.setCell p u) :=
 keepB_of (h.2.setCell hp u)
theorem keepB_sets {B : Nat} {W w1 w2 : World} (h : (∀ b o, b < B → w1.cell? ⟨b, o, none⟩ = W.cell? ⟨b, o, none⟩) ∧ Below B W w1) (h2 : Below B w1 w2) :
  (∀ b o, b < B → w2.cell? ⟨b, o, none⟩ = W.cell? ⟨b, o, none⟩) ∧ Below B W w2 := keepB_of (h.2.trans h2)
end Go.Proofs.YtdimmlljjmmdbaaGreatDoor
namespace Go.Proofs.YtdimmlljjmmdbaaGreatDoor
open Go.RowKit
/-- what is known of a world w1 that has grown out of W, and of w1 with one block more -/
theorem bgrow {W w1 : World} (hb : Below W.heap.size W w1) : (∀ b o, b < W.heap.size → w1.cell? ⟨b, o, none⟩ = W.cell? ⟨b, o, none⟩) ∧ (∀ b o, b < W.heap.size → w1.frozen? ⟨b, o, none⟩ = W.frozen? ⟨b, o, none⟩) ∧
  (∀ ob b o, b < w1.heap.size → (w1.alloc ob).cell? ⟨b, o, none⟩ = w1.cell? ⟨b, o, none⟩) ∧ (∀ ob b o, b < w1.heap.size → (w1.alloc ob).frozen? ⟨b, o, none⟩ = w1.frozen? ⟨b, o, none⟩) :=
 ⟨(bcell hb).1, (bcell hb).2, fun ob b o h => World.cell?_of_block (w := w1) (Below.heap_alloc w1 ob b h), fun ob b o h => World.frozen?_of_block (w := w1) (Below.heap_alloc w1 ob b h)⟩
end Go.Proofs.YtdimmlljjmmdbaaGreatDoor
/- A slice of one-cell elements that the call makes at its full length and fills from the left. -/
namespace Go.Proofs.YtdimmlljjmmdbaaGreatDoor
open Go.RowKit
def fillA (z : Value) (f : Nat → Value) (n k : Nat) : Array Value := ((List.range n).map fun i => if i < k then f i else z).toArray
theorem fillA_size (z : Value) (f : Nat → Value) (n k : Nat) : (fillA z f n k).size = n := by simp [fillA]
theorem fillA_get (z : Value) (f : Nat → Value) (n k j : Nat) (h : j < n) : (fillA z f n k)[j]? = some (if j < k then f j else z) := by
 simp [fillA, h]
theorem fillA_set (z : Value) (f : Nat → Value) (n k : Nat) (h : k < n) : (fillA z f n k).setIfInBounds k (f k) = fillA z f n (k + 1) := by
 apply Array.ext_getElem?
 intro j
 rcases Nat.lt_or_ge j n with hj | hj
 ·rw [fillA_get _ _ _ _ _ hj]
  by_cases hjk : k = j
  ·subst hjk
   rw [Array.getElem?_setIfInBounds_self_of_lt (by rw [fillA_size]; exact h)]
   simp
  ·rw [Array.getElem?_setIfInBounds_ne hjk, fillA_get _ _ _ _ _ hj]
   by_cases h1 : j < k
   ·simp [h1, Nat.lt_succ_of_lt h1]
   ·rw [if_neg h1, if_neg (by omega)]
 ·rw [Array.getElem?_eq_none (by simp [fillA_size]; exact hj), Array.getElem?_eq_none (by rw [fillA_size]; exact hj)]
theorem fillA_full (z : Value) (f : Nat → Value) (n : Nat) : fillA z f n n = ((List.range n).map f).toArray := by
 unfold fillA
 congr 1
 apply List.map_congr_left
 intro i hi
 rw [if_pos (List.mem_range.1 hi)]
theorem madeCells_one (z : Value) (f : Nat → Value) (n : Nat) (h : z.cells = #[z]) : madeCells z.cells (n * 1) = fillA z f n 0 := by
 rw [h, Nat.mul_one]
 apply Array.ext_getElem?
 intro j
 rcases Nat.lt_or_ge j n with hj | hj
 ·rw [fillA_get _ _ _ _ _ hj]
  simp [madeCells, hj, Nat.mod_one]
 ·rw [Array.getElem?_eq_none (by rw [size_madeCells]; exact hj), Array.getElem?_eq_none (by rw [fillA_size]; exact hj)]
theorem run_make_fill {P : Program} (t e : TypeId) (i : TypeInfo) (z : Value) (f : Nat → Value) (ht : P.underlying t = some (.slice e)) (hi : P.info? e = some i) (hz : i.zero = some z) (hs : i.size = 1) (hc : z.cells = #[z])
  (n : Nat) (hn : n ≤ 100000000) (hb : i.bytes ≤ 1024) (w : World) :
  (Instr.makeSlice t (.int .i64 (n : Int)) (.int .i64 (n : Int))).run P w = .ok (.slice (some ⟨w.heap.size, 0, none⟩) n n) (w.alloc (.cells (fillA z f n 0) e)) := by
 have hbb : (i.bytes : Int) * (n : Int) ≤ 281474976710656 := by
  have h : i.bytes * n ≤ 1024 * 100000000 := Nat.mul_le_mul hb hn
  have h2 : ((i.bytes * n : Nat) : Int) ≤ 281474976710656 := by omega
  rwa [Int.natCast_mul] at h2
 have hr := run_make (P := P) w t e i z ht hi hz .i64 .i64 n n (by omega) (by omega) hbb (by omega)
 simp only [Int.toNat_natCast, hs] at hr
 rw [hr, madeCells_one z f n hc]
/-- one cell of a block written -/
theorem set_blk {w : World} {g i : Nat} {cs : Array Value} {t : TypeId} {f : Nat × Nat} (h : w.heap[g]? = some (.cells cs t f)) (u : Value) : (w.setCell ⟨g, i, none⟩ u).heap[g]? = some (.cells (cs.setIfInBounds i u) t f) := by
 simp [World.setCell, Array.getElem?_modify, h]
theorem set_far {w : World} {g : Nat} {p : Addr} (u : Value) (h : g ≠ p.block) : (w.setCell p u).heap[g]? = w.heap[g]? := Below.heap_setCell w p u g h
end Go.Proofs.YtdimmlljjmmdbaaGreatDoor
/- Slices of the call's own that grow by append; what they read as. -/
namespace Go.Proofs.YtdimmlljjmmdbaaGreatDoor
open Go.RowKit
theorem grownBy_of_below {w w' : World} (h : Below w.heap.size w w') (row : Option Nat) : w.grownBy w' row := ⟨h.os, h.tape, h.output, h.size, fun i hi _ => h.block i hi⟩
theorem own_below {w w' : World} {base : Nat} {e : TypeId} {size : Nat} {v : Value} {n : Nat} {xs : List Value} (h : w.ownsRow base e size v n xs) (hb : Below w.heap.size w w') : w'.ownsRow base e size v n xs :=
 h.kept (grownBy_of_below hb none) (by cases hv : v.ownBlock <;> simp)
/-- a slice value that reads as the cells xs -/
def Sl (w : World) (size : Nat) (v : Value) (n : Nat) (xs : List Value) : Prop := ∃ A cap, v = .slice A n cap ∧ RdS w size A n xs
theorem Sl.of_own {w : World} {base : Nat} {e : TypeId} {size : Nat} {v : Value} {n : Nat} {xs : List Value} (h : w.ownsRow base e size v n xs) : Sl w size v n xs := by
 have hx := h.1
 rcases h.2 with ⟨rfl, rfl⟩ | ⟨g, cap, cur, rfl, hg, hh, hn, hc, hs, ht⟩
 ·exact ⟨none, 0, rfl, hx, fun h => absurd h (by omega)⟩
 ·refine ⟨_, cap, rfl, hx, fun _ => ⟨g, 0, rfl, (Array.getElem?_eq_some_iff.1 hh).1, fun j hj => ?_⟩⟩
  simp only [World.cell?, hh]
  rw [← ht] at hj ⊢
  rw [List.getElem?_take]
  have : j < n * size := by rw [List.length_take] at hj; omega
  simp [this]
theorem Sl.below {w w' : World} {size : Nat} {v : Value} {n : Nat} {xs : List Value} (h : Sl w size v n xs) (hb : Below w.heap.size w w') : Sl w' size v n xs := by
 obtain ⟨A, cap, hv, hr⟩ := h
 exact ⟨A, cap, hv, hr.below hb⟩
theorem Sl.of_blk {w : World} {g : Nat} {xs : List Value} {t : TypeId} {size n : Nat} {f : Nat × Nat} (h : w.heap[g]? = some (.cells xs.toArray t f)) (hn : xs.length = n * size) : Sl w size (.slice (some ⟨g, 0, none⟩) n n) n xs :=
 ⟨_, _, rfl, RdS.of_block h hn⟩
/-- the new cells of an append of one element, in the block laid for it -/
theorem news_one {w : World} {g : Nat} (o : List Value) (t : TypeId) (hg : g = w.heap.size) : ∀ j u, o[j]? = some u → (w.alloc (.cells o.toArray t)).cell? ((⟨g, 0, none⟩ : Addr).add j) = some u := by
 subst hg
 intro j u hj
 have hadd : (⟨w.heap.size, 0, none⟩ : Addr).add j = ⟨w.heap.size, j, none⟩ := by unfold Addr.add; split <;> simp_all
 rw [hadd]
 exact cell_at (heap_alloc_new _ _) (by simpa using hj)
end Go.Proofs.YtdimmlljjmmdbaaGreatDoor
namespace Go.Proofs.YtdimmlljjmmdbaaGreatDoor
open Go.RowKit
theorem cell_keep {w : World} {b i : Nat} {o : Obj} (h : b < w.heap.size) (_ : True) : (w.alloc o).cell? ⟨b, i, none⟩ = w.cell? ⟨b, i, none⟩ := World.cell?_of_block (w := w) (Below.heap_alloc w o b h)
end Go.Proofs.YtdimmlljjmmdbaaGreatDoor
namespace Go.Proofs.YtdimmlljjmmdbaaGreatDoor
open Go.RowKit
theorem RdS.news {w : World} {size n : Nat} {ad : Addr} {xs : List Value} (h : RdS w size (some ad) n xs) (hs : 0 < size) : ∀ j u, xs[j]? = some u → w.cell? (ad.add j) = some u := by
 intro j u hu
 obtain ⟨h1, h2⟩ := h
 have hj : j < xs.length := (List.getElem?_eq_some_iff.1 hu).1
 have hn : 0 < n := by
  rcases Nat.eq_zero_or_pos n with h | h
  ·subst h; omega
  ·exact h
 obtain ⟨b, off, he, _, hc⟩ := h2 hn
 cases he
 have hadd : (⟨b, off, none⟩ : Addr).add j = ⟨b, off + j, none⟩ := by unfold Addr.add; split <;> simp_all
 rw [hadd, hc j hj, hu]
theorem RdS.none0 {w : World} {size n : Nat} {xs : List Value} (h : RdS w size none n xs) : n = 0 := by
 rcases Nat.eq_zero_or_pos n with h0 | h0
 ·exact h0
 ·obtain ⟨b, off, he, _⟩ := h.2 h0
  cases he
end Go.Proofs.YtdimmlljjmmdbaaGreatDoor
/- 'copy' of whole elements of several cells into a row that the call itself made at the same length. -/
namespace Go.Proofs.YtdimmlljjmmdbaaGreatDoor
open Go.RowKit
theorem run_copy_wide {P : Program} (w : World) (dT sT ty elem : TypeId) (g dCap n size : Nat) (a : Addr) (sCap : Nat) (cur : Array Value) (t : TypeId) (cs : List Value)
  (hu : P.underlying dT = some (.slice elem)) (hs : (P.info? elem).map (·.size) = some size)
  (hg : w.heap[g]? = some (.cells cur t (0, 0))) (hn : cs.length = n * size)
  (hsrc : ∀ j v, cs[j]? = some v → w.cell? (a.add j) = some v) (hfit : cur.size = n * size) (h1 : ∀ v ∈ cs, v.oneCell' = true) :
  (Builtin.copy_ #[dT, sT] ty #[.slice (some ⟨g, 0, none⟩) n dCap, .slice (some a) n sCap]).run P w = .ok (goInt n) (w.setRow g cs.toArray) := by
 have hl := run_loadCells_list (P := P) w a cs hsrc
 have hst := run_storeCells_at P g 0 t cs 0 cur w hg (by omega) h1
 have he : (cur.toList.take (0 + 0) ++ cs ++ cur.toList.drop (0 + 0 + cs.length)).toArray = cs.toArray := by
  rw [List.drop_of_length_le (by simp; omega)]; simp
 rw [he] at hst
 cases hq : P.info? elem with
 | none => simp [hq] at hs
 | some i =>
  have hi : i.size = size := by simpa [hq] using hs
  have hmin : Nat.min n n = n := Nat.min_self n
  simp [Builtin.copy_, run_underlying hu, Builtin.lenOf, Builtin.firstCells, sizeOf, typeInfo, hq, hi, hmin, ← hn, hl, hst]
theorem run_copy_zero {P : Program} (w : World) (dT sT ty elem : TypeId) (d a : Option Addr) (dLen dCap sCap size : Nat) (hu : P.underlying dT = some (.slice elem)) (hs : (P.info? elem).map (·.size) = some size) :
  (Builtin.copy_ #[dT, sT] ty #[.slice d dLen dCap, .slice a 0 sCap]).run P w = .ok (goInt 0) w := by
 cases hq : P.info? elem with
 | none => simp [hq] at hs
 | some i =>
  have hl : ∀ (x : Addr), (loadCells x 0).run P w = .ok #[] w := fun x => by simpa using run_loadCells_list (P := P) w x [] (by simp)
  have hmin : Nat.min 0 dLen = 0 := Nat.zero_min dLen
  cases d <;> cases a <;> simp [Builtin.copy_, run_underlying hu, Builtin.lenOf, Builtin.firstCells, sizeOf, typeInfo, hq, hmin, storeCells, hl]
/-- 'copy(own, l)' at the operation: both of n elements. -/
theorem wpList_copy_wide {P : Program} {w : World} {ops : Array Oper} {rest : List Oper} {o : Oper} {a : Act} {Q : Exit → Act → World → Prop} (hgd : o.guard = none) (d s : Operand) (dT sT : TypeId)
  (ho : o.op = .call { callee := .builtin .copy, args := #[d, s], argTypes := #[dT, sT] }) (elem : TypeId) (size : Nat) (hu : P.underlying dT = some (.slice elem)) (hsz : (P.info? elem).map (·.size) = some size)
  (g dCap n : Nat) (sp : Option Addr) (sCap : Nat) (hd : a.eval d = .slice (some ⟨g, 0, none⟩) n dCap) (hs : a.eval s = .slice sp n sCap)
  (cur : Array Value) (t : TypeId) (hg : w.heap[g]? = some (.cells cur t (0, 0))) (cs : List Value) (hn : cs.length = n * size)
  (hsrc : RdS w size sp n cs) (hpos : 0 < size) (hfit : cur.size = n * size) (h1 : ∀ v ∈ cs, v.oneCell' = true) (B : Nat) (w0 : World) (hb : Below B w0 w) (hBg : B ≤ g)
  (h : ∀ w', Hid (w'.heap[g]? = some (.cells cs.toArray t (0, 0))) → Below B w0 w' → wpList P ops Q rest (a.put o.dst (goInt n)) w') :
  wpList P ops Q (o :: rest) a w := by
 refine wpList_plain hgd fun K hK => ?_
 cases sp with
 | none =>
  obtain rfl : n = 0 := RdS.none0 hsrc
  have hrun := run_copy_zero (P := P) w dT sT o.type elem (some ⟨g, 0, none⟩) none 0 dCap sCap size hu hsz
  obtain rfl : cs = [] := List.eq_nil_of_length_eq_zero (by omega)
  have hcur : cur = #[] := Array.eq_empty_of_size_eq_zero (by omega)
  unfold Oper.wp
  simp [execOp, ho, resolve, invoke, builtin, hd, hs, hrun, Result.andThen]
  exact hK _ _ (h w (show _ = _ by rw [hg, hcur]) hb)
 | some ad =>
  have hrun := run_copy_wide (P := P) w dT sT o.type elem g dCap n size ad sCap cur t cs hu hsz hg hn (RdS.news hsrc hpos) hfit h1
  unfold Oper.wp
  simp [execOp, ho, resolve, invoke, builtin, hd, hs, hrun, Result.andThen]
  exact hK _ _ (h _ (show _ = _ by exact setRow_heap w g cur _ t _ hg) (below_setRow hb hBg _))
end Go.Proofs.YtdimmlljjmmdbaaGreatDoor
/- A region that draws its order, in a round of a range over a function: what holds of it in the plain way holds there too. -/
namespace Go
open Go.RowKit
def Region.noDefer (ops : Array Oper) : Bool := ops.all fun o => match o.op with | .defer _ => false | _ => true
theorem Oper.semAt_of (ro : Option Nat) (ρ : Operand → Value) (o : Oper) (h : (match o.op with | .defer _ => false | _ => true) = true) : o.semAt ro ρ = execOp ρ o := by
 unfold Oper.semAt
 split
 ·rename_i l c hop
  rw [hop] at h; cases h
 ·rfl
theorem rowsIn_of {P : Program} {row : String} {args : Array Value} {w : World} {R : Value → World → Prop} {n l : Nat} (h : Rows P row args w R) : RowsIn (Fence.wide.inRound l) n P row args w R :=
 fun c cs _ => let ⟨v, w', r, s⟩ := h c cs; ⟨v, w', r, stepsIn_wide.2 s⟩
theorem Oper.wpIn_of_wp {P : Program} {o : Oper} {a : Act} {w : World} {K : Act → World → Prop} {Q : Exit → Act → World → Prop} {n l : Nat} (hd : (match o.op with | .defer _ => false | _ => true) = true)
  (h : o.wp P a w K Q) : o.wpIn (Fence.wide.inRound l) n P a w K Q := by
 refine ⟨fun _ _ => trivial, ?_⟩
 rw [Oper.semAt_of _ _ _ hd]
 unfold Oper.wp at h
 generalize (execOp a.eval o).run P w = r at *
 cases r with
 | ok x w' =>
  cases x <;> simp only [Oper.upon] at h <;> simp only [Oper.uponIn]
  case value => exact h
  case skip => exact h
  case defer => exact h
  case enter f args => exact ⟨fun h => (by cases h), CallsIn.inRound l (callsIn_wide.2 h)⟩
  case row row args => exact ⟨fun h => (by cases h), rowsIn_of h⟩
 | halt x w' => cases x <;> exact h
theorem wpOpIn_of {P : Program} {ops : Array Oper} {Q : Exit → Act → World → Prop} {n l i : Nat} {K : Act → World → Prop} {a : Act} {w : World} (hnd : Region.noDefer ops = true) (hQ : ¬ LetsOut Q)
  (h : wpOp P ops Q i K a w) : wpOpIn (Fence.wide.inRound l) n P ops Q i K a w := by
 unfold wpOp at h
 unfold wpOpIn
 cases ho : ops[i]? with
 | none => simpa [ho] using h
 | some o =>
  simp only [ho] at h ⊢
  have hd : (match o.op with | .defer _ => false | _ => true) = true := by
   have := Array.all_eq_true_iff_forall_mem.1 hnd o (Array.mem_of_getElem? ho)
   exact this
  by_cases hw : Region.wanted o (yielded ops a.tmps) = true
  ·simp only [hw, if_true] at h ⊢
   rcases h with h | h
   ·exact Oper.wpIn_of_wp hd h
   ·exact absurd h.2 hQ
  ·simp only [hw] at h ⊢
   exact ⟨fun _ _ => trivial, h⟩
theorem wpAnyIn_of {P : Program} {md : Region.Mode} {ops : Array Oper} {Q : Exit → Act → World → Prop} {n l : Nat} (hnd : Region.noDefer ops = true) (hQ : ¬ LetsOut Q) :
  ∀ (fuel : Nat) (listed : Array Bool) (a : Act) (w : World), wpAny P md ops Q fuel listed a w → wpAnyIn (Fence.wide.inRound l) n P md ops Q fuel listed a w
 | 0, _, _, _, h => h
 | fuel + 1, listed, a, w, h => ⟨h.1, fun i hi => wpOpIn_mono (fun a' w' hK => wpAnyIn_of hnd hQ fuel _ a' w' hK) (wpOpIn_of hnd hQ (h.2 i hi))⟩
section
variable {P : Program} {C : World → Prop}
theorem wpAny_split {Q : Exit → Act → World → Prop} {a : Act} {w : World} (l1 l2 : List Oper) (hB : Region.splitB .any (l1 ++ l2).toArray l1.length = true) (hC : C { w with drawn := w.drawn + 1 })
  (h : wpQuiet P (l1 ++ l2).toArray C (fun a' => ∀ w', C w' → wpList P (l1 ++ l2).toArray Q l2 a' w') l1 a) : wpAny P .any (l1 ++ l2).toArray Q (l1 ++ l2).toArray.size (Array.replicate (l1 ++ l2).toArray.size false) a { w with drawn := w.drawn + 1 } := by
 simp only [Region.splitB, Bool.and_eq_true] at hB
 obtain ⟨⟨⟨hs, hF⟩, hL⟩, hR⟩ := hB
 have hsz : (l1 ++ l2).toArray.size = l1.length + l2.length := by simp
 have hsub : (l1 ++ l2).toArray.size - l1.length = l2.length := by omega
 rw [hsub] at hR
 have hfr : Front .any (l1 ++ l2).toArray l1.length l1.length (Array.replicate (l1 ++ l2).toArray.size false) := by
  have hg : ∀ (n i : Nat), (Array.replicate n false).getD i false = false := by
   intro n i
   rcases Nat.lt_or_ge i n with h | h <;> simp [h]
  refine ⟨by simp, fun i o ho hl => ?_, fun i _ => hg _ i, ?_⟩
  ·rw [hg] at hl; cases hl
  ·rw [List.filter_eq_self.2 (fun i _ => by rw [hg]; rfl)]; simp
 have := wpAny_of_front (P := P) (md := .any) (ops := (l1 ++ l2).toArray) (C := C) (r := l2.length) (Q' := Q)
  (E := fun listed a' => listed = (List.range' 0 l1.length).foldl (fun b i => b.setIfInBounds i true) (Array.replicate (l1 ++ l2).toArray.size false) ∧ ∀ w', C w' → wpList P (l1 ++ l2).toArray Q l2 a' w')
  (fun listed a' w' hw' hE => by
   obtain ⟨rfl, hE⟩ := hE
   exact wpAny_rest l2 l1.length _ a' w' (fun j => by simp [List.getElem?_append_right]) hR (hE w' hw'))
  l1.length (Array.replicate (l1 ++ l2).toArray.size false) a { w with drawn := w.drawn + 1 } hC
  (wpFront_lex hF hs l1 0 _ a (fun j hj => by simp [List.getElem?_append_left hj]) hfr hL
   (by
    refine cast ?_ h
    congr 1
    funext a'
    simp))
 simp only [hsz] at this ⊢
 exact this
end
/-- wp_region_splitG in a round: front of m quiet operations, the rest plain -/
theorem wpIn_region_splitG {P : Program} {id : Nat} {Q : Exit → Act → World → Prop} {a : Act} {W : World} {n lr : Nat} (m : Nat) {l : List Oper} (hm : P.follows .mixedOrders = true) (hB : Region.splitB .any l.toArray m = true) (hnd : Region.noDefer l.toArray = true) (hQ : ¬ LetsOut Q)
  (h : wpQuiet P l.toArray (fun w' => ∃ p : GB, w' = gw W p) (fun a' => ∀ w', (∃ p : GB, w' = gw W p) → wpList P l.toArray Q (l.drop m) a' w') (l.take m) a) : (Code.region id l.toArray true).wpIn (Fence.wide.inRound lr) n P Q a W := by
 have hml : m ≤ l.length := by
  simp only [Region.splitB, Region.frontB, Bool.and_eq_true, decide_eq_true_eq] at hB
  simpa using hB.1.1.2.1.1
 have h1 := wpAny_split (P := P) (Q := Q) (a := a) (w := W) (C := fun w' => ∃ p : GB, w' = gw W p) (l.take m) (l.drop m)
 rw [List.take_append_drop, List.length_take, Nat.min_eq_left hml] at h1
 exact wpIn_region_any hm (wpAnyIn_of hnd hQ _ _ _ _ (h1 hB (gw_start W) h))
end Go
/- A region that draws its order, in a walk of the fence 'wide' (which may hand on to a round by 'yield'): a quiet front, then a rest in one order. -/
namespace Go
open Go.RowKit
theorem Oper.wpIn_wide_of {P : Program} {o : Oper} {a : Act} {w : World} {K : Act → World → Prop} {Q : Exit → Act → World → Prop} {n : Nat} (h : o.wp P a w K Q) : o.wpIn Fence.wide n P a w K Q := by
 refine ⟨fun _ _ => trivial, ?_⟩
 have hr : Fence.wide.round = none := rfl
 rw [hr, Oper.semAt_none]
 unfold Oper.wp at h
 generalize (execOp a.eval o).run P w = r at *
 cases r with
 | ok x w' =>
  cases x <;> simp only [Oper.upon] at h <;> simp only [Oper.uponIn]
  case value => exact h
  case skip => exact h
  case defer => exact h
  case enter f args => exact ⟨fun h => (by cases h), callsIn_wide.2 h⟩
  case row row args => exact ⟨fun h => (by cases h), fun c cs _ => let ⟨v, w', r, s⟩ := h c cs; ⟨v, w', r, stepsIn_wide.2 s⟩⟩
 | halt x w' => cases x <;> exact h
section
variable {P : Program} {ops : Array Oper} {md : Region.Mode} {C : World → Prop} {n : Nat}
theorem wpOpIn_of_qOp {i : Nat} {a : Act} {K : Act → Prop} {K' : Act → World → Prop} {Q' : Exit → Act → World → Prop} {w : World} (hC : C w) (h : ∀ a w', C w' → K a → K' a w') (hh : qOp P ops C i K a) : wpOpIn Fence.wide n P ops Q' i K' a w := by
 unfold qOp at hh
 unfold wpOpIn
 cases ho : ops[i]? with
 | none => simp only [ho] at hh ⊢; exact h _ _ hC hh
 | some o =>
  simp only [ho] at hh ⊢
  by_cases hw : Region.wanted o (yielded ops a.tmps) = true
  ·simp only [hw, if_true] at hh ⊢
   exact Oper.wpIn_wide_of (Oper.wp_of_quiet hC h hh)
  ·simp only [hw] at hh ⊢
   exact ⟨fun _ _ => trivial, h _ _ hC hh⟩
theorem wpAnyIn_of_front {E : Array Bool → Act → Prop} {Q' : Exit → Act → World → Prop} {r : Nat} (hE : ∀ listed a w, C w → E listed a → wpAnyIn Fence.wide n P md ops Q' r listed a w) : ∀ (fuel : Nat) (listed : Array Bool) (a : Act) (w : World), C w →
  wpFront P md ops C E fuel listed a → wpAnyIn Fence.wide n P md ops Q' (fuel + r) listed a w
 | 0, _, _, _, hw, h => by rw [Nat.zero_add]; exact hE _ _ _ hw h
 | fuel + 1, _, _, _, hw, h => by
  rw [Nat.add_right_comm]
  exact ⟨fun h0 => absurd h0 h.1, fun i hi => wpOpIn_of_qOp hw (fun a' w' hw' => wpAnyIn_of_front hE fuel _ a' w' hw') (h.2 i hi)⟩
theorem wpAnyIn_rest {Q : Exit → Act → World → Prop} : ∀ (l : List Oper) (k : Nat) (listed : Array Bool) (a : Act) (w : World), (∀ j, l[j]? = ops[k + j]?) →
  Region.restB md ops l.length k listed = true → wpListIn Fence.wide n P ops Q l a w → wpAnyIn Fence.wide n P md ops Q l.length listed a w
 | [], _, _, _, _, _, hB, h => ⟨by simpa [Region.restB] using hB, h⟩
 | o :: l, k, listed, a, w, hl, hB, h => by
  have h0 : ops[k]? = some o := by simpa using (hl 0).symm
  simp only [List.length_cons, Region.restB, Bool.and_eq_true, beq_iff_eq] at hB
  obtain ⟨hr, hB'⟩ := hB
  refine ⟨fun h => (by rw [hr] at h; cases h), fun i hi => ?_⟩
  rw [hr] at hi
  obtain rfl := List.mem_singleton.1 hi
  have hn := fun (a' : Act) (w' : World) => wpAnyIn_rest (Q := Q) l (i + 1) (listed.setIfInBounds i true) a' w' (fun j => by have := hl (j + 1); simpa [Nat.add_assoc, Nat.add_comm 1 j] using this) hB'
  have : wpOpIn Fence.wide n P ops Q i (wpListIn Fence.wide n P ops Q l) a w := by
   unfold wpOpIn
   rw [h0]
   exact h
  exact wpOpIn_mono hn this
end
/-- front of m quiet operations, the rest in the fence's own walk -/
theorem wpIn_region_splitW {P : Program} {id : Nat} {Q : Exit → Act → World → Prop} {a : Act} {W : World} {n : Nat} (m : Nat) {l : List Oper} (hm : P.follows .mixedOrders = true) (hB : Region.splitB .any l.toArray m = true)
  (h : wpQuiet P l.toArray (fun w' => ∃ p : GB, w' = gw W p) (fun a' => ∀ w', (∃ p : GB, w' = gw W p) → wpListIn Fence.wide n P l.toArray Q (l.drop m) a' w') (l.take m) a) : (Code.region id l.toArray true).wpIn Fence.wide n P Q a W := by
 have hml : m ≤ l.length := by
  simp only [Region.splitB, Region.frontB, Bool.and_eq_true, decide_eq_true_eq] at hB
  simpa using hB.1.1.2.1.1
 obtain ⟨l1, hl1⟩ : ∃ x, x = l.take m := ⟨_, rfl⟩
 obtain ⟨l2, hl2⟩ : ∃ x, x = l.drop m := ⟨_, rfl⟩
 have hll : l = l1 ++ l2 := by rw [hl1, hl2, List.take_append_drop]
 have hlen : m = l1.length := by rw [hl1, List.length_take, Nat.min_eq_left hml]
 rw [← hl1, ← hl2] at h
 clear hl1 hl2
 subst hll
 subst hlen
 simp only [Region.splitB, Bool.and_eq_true] at hB
 obtain ⟨⟨⟨hs, hF⟩, hL⟩, hR⟩ := hB
 refine wpIn_region_any hm ?_
 have hsz : (l1 ++ l2).toArray.size = l1.length + l2.length := by simp
 have hsub : (l1 ++ l2).toArray.size - l1.length = l2.length := by omega
 rw [hsub] at hR
 have hfr : Front .any (l1 ++ l2).toArray l1.length l1.length (Array.replicate (l1 ++ l2).toArray.size false) := by
  have hg : ∀ (n i : Nat), (Array.replicate n false).getD i false = false := by
   intro n i
   rcases Nat.lt_or_ge i n with h | h <;> simp [h]
  refine ⟨by simp, fun i o ho hl => ?_, fun i _ => hg _ i, ?_⟩
  ·rw [hg] at hl; cases hl
  ·rw [List.filter_eq_self.2 (fun i _ => by rw [hg]; rfl)]; simp
 have := wpAnyIn_of_front (P := P) (n := n) (md := .any) (ops := (l1 ++ l2).toArray) (C := fun w' => ∃ p : GB, w' = gw W p) (r := l2.length) (Q' := Q)
  (E := fun listed a' => listed = (List.range' 0 l1.length).foldl (fun b i => b.setIfInBounds i true) (Array.replicate (l1 ++ l2).toArray.size false) ∧ ∀ w', (∃ p : GB, w' = gw W p) → wpListIn Fence.wide n P (l1 ++ l2).toArray Q l2 a' w')
  (fun listed a' w' hw' hE => by
   obtain ⟨rfl, hE⟩ := hE
   exact wpAnyIn_rest l2 l1.length _ a' w' (fun j => by simp [List.getElem?_append_right]) hR (hE w' hw'))
  l1.length (Array.replicate (l1 ++ l2).toArray.size false) a { W with drawn := W.drawn + 1 } (gw_start W)
  (wpFront_lex hF hs l1 0 _ a (fun j hj => by simp [List.getElem?_append_left hj]) hfr hL
   (by
    refine cast ?_ h
    congr 1
    funext a'
    simp))
 simp only [hsz] at this ⊢
 exact this
end Go
/- Plain laws of chapter 07: costs, times. No program in sight. -/
namespace Im
/-- the element at i, 0 beyond -/
def at0 (l : List Int) (i : Nat) : Int := l.getD i 0
def ap (a b : Nat) : Nat := max (a - b) (b - a)
/-- the cost of two cells, 0 if they are no neighbours -/
def cost (c : Nat) (l : List Int) (a b : Nat) : Int :=
 if a = b ∨ 1 < ap (a % c) (b % c) ∨ 1 < ap (a / c) (b / c) then 0
 else if ap (a % c) (b % c) = 1 ∧ ap (a / c) (b / c) = 1 then 3 * (at0 l a + at0 l b) else 2 * (at0 l a + at0 l b)
structure Gr (c r : Nat) (l : List Int) : Prop where
 c1 : 1 ≤ c
 r1 : 1 ≤ r
 len : l.length = c * r
 lo : ∀ i, i < l.length → 1 ≤ at0 l i
 hi : ∀ i, i < l.length → at0 l i ≤ 100
theorem ap_comm (a b : Nat) : ap a b = ap b a := by unfold ap; omega
theorem cost_comm (c : Nat) (l : List Int) (a b : Nat) : cost c l a b = cost c l b a := by
 unfold cost
 rw [ap_comm (a % c), ap_comm (a / c), Int.add_comm (at0 l a)]
 by_cases h : a = b
 ·simp [h]
 ·have h' : ¬ b = a := fun e => h e.symm
  simp only [h, h', false_or]
theorem cost_nonneg {c r : Nat} {l : List Int} (g : Gr c r l) {a b : Nat} (ha : a < l.length) (hb : b < l.length) : 0 ≤ cost c l a b := by
 have := g.lo a ha; have := g.lo b hb
 unfold cost; split
 ·omega
 ·split <;> omega
theorem cost_le {c r : Nat} {l : List Int} (g : Gr c r l) {a b : Nat} (ha : a < l.length) (hb : b < l.length) : cost c l a b ≤ 600 := by
 have := g.hi a ha; have := g.hi b hb
 unfold cost; split
 ·omega
 ·split <;> omega
theorem cost_pos {c r : Nat} {l : List Int} (g : Gr c r l) {a b : Nat} (ha : a < l.length) (hb : b < l.length) :
  0 < cost c l a b ↔ a ≠ b ∧ ap (a % c) (b % c) ≤ 1 ∧ ap (a / c) (b / c) ≤ 1 := by
 have := g.lo a ha; have := g.lo b hb
 unfold cost; split
 ·omega
 ·split <;> omega
theorem cost_self (c : Nat) (l : List Int) (a : Nat) : cost c l a a = 0 := by unfold cost; simp

/-- potentials that prove themselves -/
def Feas (c : Nat) (l : List Int) (u : List Int) : Prop := ∀ a b, a < l.length → b < l.length → 0 < cost c l a b → at0 u b ≤ at0 u a + cost c l a b
structure IsT (c : Nat) (l : List Int) (s : Nat) (t : List Int) : Prop where
 len : t.length = l.length
 src : at0 t s = 0
 nn : ∀ b, b < l.length → 0 ≤ at0 t b
 feas : Feas c l t
 tight : ∀ b, b < l.length → b ≠ s → ∃ a, a < l.length ∧ 0 < cost c l a b ∧ at0 t b = at0 t a + cost c l a b
/-- what potentials prove is no more than the time -/
theorem IsT.pot {c : Nat} {l : List Int} {s : Nat} {t u : List Int} (h : IsT c l s t) (hu : Feas c l u) : ∀ b, b < l.length → at0 u b ≤ at0 u s + at0 t b := by
 have key : ∀ k : Nat, ∀ b, b < l.length → (at0 t b).toNat = k → at0 u b ≤ at0 u s + at0 t b := by
  intro k
  induction k using Nat.strongRecOn with
  | _ k ih =>
   intro b hb hk
   by_cases hs : b = s
   ·subst hs; rw [h.src]; omega
   ·obtain ⟨a, ha, hc, ht⟩ := h.tight b hb hs
    have hn := h.nn a ha
    have h1 := ih (at0 t a).toNat (by omega) a ha rfl
    have h2 := hu a b ha hb hc
    omega
 exact fun b hb => key _ b hb rfl
theorem ext_at0 {t u : List Int} (hl : t.length = u.length) (h : ∀ i, i < t.length → at0 t i = at0 u i) : t = u := by
 apply List.ext_getElem hl
 intro i h1 h2
 have := h i h1
 simp only [at0, List.getD_eq_getElem?_getD, List.getElem?_eq_getElem h1, List.getElem?_eq_getElem h2, Option.getD_some] at this
 exact this
theorem IsT.unique {c : Nat} {l : List Int} {s : Nat} {t u : List Int} (h : IsT c l s t) (h' : IsT c l s u) : t = u := by
 refine ext_at0 (by rw [h.len, h'.len]) fun i hi => ?_
 have hi' : i < l.length := by rw [← h.len]; exact hi
 have h1 := h.pot h'.feas i hi'
 have h2 := h'.pot h.feas i hi'
 rw [h'.src] at h1; rw [h.src] at h2
 omega
/-- minus potentials -/
theorem Feas.neg {c : Nat} {l u : List Int} (h : Feas c l u) : Feas c l (u.map (fun x => -x)) := by
 have e : ∀ i, at0 (u.map (fun x => -x)) i = - at0 u i := fun i => by
  simp only [at0, List.getD_eq_getElem?_getD, List.getElem?_map]
  cases u[i]? <;> simp
 intro a b ha hb hc
 rw [e, e]
 have := h b a hb ha (by rw [cost_comm]; exact hc)
 rw [cost_comm] at this
 omega
theorem at0_neg (u : List Int) (i : Nat) : at0 (u.map (fun x => -x)) i = - at0 u i := by
 simp only [at0, List.getD_eq_getElem?_getD, List.getElem?_map]
 cases u[i]? <;> simp
theorem IsT.sym {c : Nat} {l : List Int} {s d : Nat} {t o : List Int} (h : IsT c l s t) (h' : IsT c l d o) (hs : s < l.length) (hd : d < l.length) : at0 o s = at0 t d := by
 have h1 := h.pot h'.feas.neg d hd
 have h2 := h'.pot h.feas.neg s hs
 rw [at0_neg, at0_neg, h'.src] at h1
 rw [at0_neg, at0_neg, h.src] at h2
 omega
/-- the triangle, all three ways -/
theorem IsT.tri {c : Nat} {l : List Int} {s d : Nat} {t o : List Int} (h : IsT c l s t) (h' : IsT c l d o) (hs : s < l.length) (hd : d < l.length) {i : Nat} (hi : i < l.length) :
  at0 t i ≤ at0 t d + at0 o i ∧ at0 t d ≤ at0 t i + at0 o i ∧ at0 o i ≤ at0 t d + at0 t i := by
 have h1 := h'.pot h.feas i hi
 have h2 := h'.pot h.feas.neg i hi
 have h3 := h.pot h'.feas i hi
 have h4 := h.sym h' hs hd
 rw [at0_neg, at0_neg] at h2
 omega

/-- the least times are below the number of steps times the greatest cost: what is feasible, is bounded -/
def gap (c : Nat) (a b : Nat) : Nat := max (ap (a % c) (b % c)) (ap (a / c) (b / c))
theorem cell_mk {c r x y : Nat} (hx : x < c) (hy : y < r) : y * c + x < c * r ∧ (y * c + x) % c = x ∧ (y * c + x) / c = y := by
 refine ⟨?_, ?_, ?_⟩
 ·have : y * c + c ≤ r * c := by rw [← Nat.succ_mul]; exact Nat.mul_le_mul_right c hy
  rw [Nat.mul_comm c r]; omega
 ·rw [Nat.mul_comm, Nat.mul_add_mod, Nat.mod_eq_of_lt hx]
 ·rw [Nat.mul_comm, Nat.mul_add_div (by omega), Nat.div_eq_of_lt hx, Nat.add_zero]
theorem cell_eq {c a b : Nat} (h1 : a % c = b % c) (h2 : a / c = b / c) : a = b := by
 rw [← Nat.div_add_mod a c, ← Nat.div_add_mod b c, h1, h2]
/-- a step towards s -/
def toward (x s : Nat) : Nat := if x < s then x + 1 else if s < x then x - 1 else x
theorem toward_ap (x s : Nat) : ap x (toward x s) ≤ 1 ∧ ap (toward x s) s = ap x s - 1 ∧ (x ≠ s → toward x s ≠ x) ∧ (toward x s ≤ max x s) := by
 unfold toward ap; split
 ·omega
 ·split <;> omega
theorem gap_step {x s x' : Nat} {y t y' k : Nat} (h1 : ap x' s = ap x s - 1) (h2 : ap y' t = ap y t - 1) (h : max (ap x s) (ap y t) = k + 1) : max (ap x' s) (ap y' t) = k := by omega
theorem feas_bound {c r : Nat} {l u : List Int} (g : Gr c r l) (hu : Feas c l u) {s : Nat} (hs : s < l.length) : ∀ (k b : Nat), b < l.length → gap c b s = k → at0 u b ≤ at0 u s + 600 * k := by
 intro k
 induction k with
 | zero =>
  intro b hb hk
  have : b = s := by
   unfold gap ap at hk
   exact cell_eq (c := c) (by omega) (by omega)
  subst this; omega
 | succ k ih =>
  intro b hb hk
  have hc := g.c1
  have hcr := g.len
  have bx := Nat.mod_lt b hc
  have sx := Nat.mod_lt s hc
  have by' : b / c < r := by rw [Nat.div_lt_iff_lt_mul hc, Nat.mul_comm, ← hcr]; exact hb
  have sy : s / c < r := by rw [Nat.div_lt_iff_lt_mul hc, Nat.mul_comm, ← hcr]; exact hs
  obtain ⟨x1, x2, x3, x4⟩ := toward_ap (b % c) (s % c)
  obtain ⟨y1, y2, y3, y4⟩ := toward_ap (b / c) (s / c)
  have hx : toward (b % c) (s % c) < c := by omega
  have hy : toward (b / c) (s / c) < r := by omega
  obtain ⟨e1, e2, e3⟩ := cell_mk hx hy
  generalize toward (b / c) (s / c) * c + toward (b % c) (s % c) = m at e1 e2 e3
  have hm : m < l.length := by omega
  have hg : gap c m s = k := by unfold gap at hk ⊢; rw [e2, e3]; exact gap_step x2 y2 hk
  have hne : m ≠ b := by
   intro e; subst e
   unfold gap ap at hk
   by_cases hxx : m % c = s % c
   ·exact y3 (by omega) e3.symm
   ·exact x3 hxx e2.symm
  have hp : 0 < cost c l m b := (cost_pos g hm hb).2 ⟨hne, by rw [e2, ap_comm]; exact x1, by rw [e3, ap_comm]; exact y1⟩
  have h1 := hu m b hm hb hp
  have h2 := ih m hm hg
  have h3 := cost_le g hm hb
  omega
theorem gap_lt {c r : Nat} {l : List Int} (g : Gr c r l) {a b : Nat} (ha : a < l.length) (hb : b < l.length) : gap c a b < c + r := by
 have hc := g.c1
 have ax := Nat.mod_lt a hc
 have bx := Nat.mod_lt b hc
 have ay : a / c < r := by rw [Nat.div_lt_iff_lt_mul hc, Nat.mul_comm, ← g.len]; exact ha
 have by' : b / c < r := by rw [Nat.div_lt_iff_lt_mul hc, Nat.mul_comm, ← g.len]; exact hb
 have key : ∀ x y z v : Nat, x < c → y < c → z < r → v < r → max (max (x - y) (y - x)) (max (z - v) (v - z)) < c + r := by omega
 exact key _ _ _ _ ax bx ay by'

/-- the times -/
noncomputable def times (c : Nat) (l : List Int) (s : Nat) : List Int := by
 classical exact if h : ∃ t, IsT c l s t then h.choose else []
theorem times_eq {c : Nat} {l : List Int} {s : Nat} {t : List Int} (h : IsT c l s t) : times c l s = t := by
 unfold times
 have hx : ∃ t, IsT c l s t := ⟨t, h⟩
 rw [dif_pos hx]
 exact hx.choose_spec.unique h

/-- the reference's way: what holds throughout its rounds -/
structure Rlx (c : Nat) (l : List Int) (s : Nat) (t : List Int) : Prop where
 len : t.length = l.length
 src : at0 t s = 0
 nn : ∀ b, b < l.length → 0 ≤ at0 t b ∧ at0 t b ≤ 1099511627776
 from' : ∀ b, b < l.length → b ≠ s → at0 t b = 1099511627776 ∨ ∃ a, a < l.length ∧ 0 < cost c l a b ∧ at0 t a + cost c l a b ≤ at0 t b
theorem at0_set (l : List Int) (i j : Nat) (x : Int) (hi : i < l.length) : at0 (l.set i x) j = if j = i then x else at0 l j := by
 simp only [at0, List.getD_eq_getElem?_getD, List.getElem?_set]
 by_cases h : i = j
 ·subst h; simp [hi]
 ·have h' : ¬ j = i := fun e => h e.symm
  simp [h, h']
theorem Rlx.step {c r : Nat} {l : List Int} {s : Nat} {t : List Int} (g : Gr c r l) (h : Rlx c l s t) {a b : Nat} (ha : a < l.length) (hb : b < l.length) (hc : 0 < cost c l a b) (hlt : at0 t a + cost c l a b < at0 t b) :
  Rlx c l s (t.set b (at0 t a + cost c l a b)) := by
 have hne : a ≠ b := ((cost_pos g ha hb).1 hc).1
 have hbt : b < t.length := by rw [h.len]; exact hb
 have na := h.nn a ha
 have nb := h.nn b hb
 have hbs : b ≠ s := by intro e; subst e; have := h.src; omega
 refine ⟨by rw [List.length_set, h.len], ?_, ?_, ?_⟩
 ·rw [at0_set _ _ _ _ hbt, if_neg (fun e => hbs e.symm)]; exact h.src
 ·intro k hk
  rw [at0_set _ _ _ _ hbt]
  split
  ·omega
  ·exact h.nn k hk
 ·intro k hk hks
  rw [at0_set _ _ _ _ hbt]
  by_cases hkb : k = b
  ·rw [if_pos hkb]
   subst hkb
   exact .inr ⟨a, ha, hc, by rw [at0_set _ _ _ _ hbt, if_neg hne]; omega⟩
  ·rw [if_neg hkb]
   rcases h.from' k hk hks with e | ⟨x, hx, hxc, hxl⟩
   ·exact .inl e
   ·refine .inr ⟨x, hx, hxc, ?_⟩
    rw [at0_set _ _ _ _ hbt]
    split
    ·rename_i hxb; subst hxb; omega
    ·exact hxl
theorem Rlx.done {c r : Nat} {l : List Int} {s : Nat} {t : List Int} (g : Gr c r l) (hc : c ≤ 16) (hr : r ≤ 16) (hs : s < l.length) (h : Rlx c l s t) (hf : Feas c l t) : IsT c l s t := by
 refine ⟨h.len, h.src, fun b hb => (h.nn b hb).1, hf, ?_⟩
 intro b hb hbs
 rcases h.from' b hb hbs with e | ⟨a, ha, hac, hal⟩
 ·have := feas_bound g hf hs _ b hb rfl
  have := gap_lt g hb hs
  rw [h.src] at *
  omega
 ·exact ⟨a, ha, hac, by have := hf a b ha hb hac; omega⟩
/-- the sum of a list, which falls from round to round -/
def sum (l : List Int) : Int := l.foldr (· + ·) 0
theorem sum_set : ∀ (l : List Int) (i : Nat) (x : Int), i < l.length → sum (l.set i x) = sum l - at0 l i + x
 | [], i, x, h => by simp at h
 | a :: l, 0, x, h => by simp [sum, at0]; omega
 | a :: l, i+1, x, h => by
  have := sum_set l i x (by simpa using h)
  simp only [List.set_cons_succ, sum, List.foldr_cons, at0, List.getD_cons_succ] at this ⊢
  omega
theorem sum_nonneg : ∀ (l : List Int), (∀ b, b < l.length → 0 ≤ at0 l b) → 0 ≤ sum l
 | [], _ => by simp [sum]
 | a :: l, h => by
  have h0 := h 0 (by simp)
  have h1 := sum_nonneg l fun b hb => by have := h (b+1) (by simpa using hb); simpa [at0] using this
  simp only [at0, List.getD_cons_zero] at h0
  simp only [sum, List.foldr_cons] at h1 ⊢
  omega
theorem Rlx.start {c : Nat} {l : List Int} {s : Nat} (hs : s < l.length) : Rlx c l s ((List.replicate l.length (1099511627776 : Int)).set s 0) := by
 have hr : s < (List.replicate l.length (1099511627776 : Int)).length := by simpa using hs
 have e : ∀ b, b < l.length → at0 (List.replicate l.length (1099511627776 : Int)) b = 1099511627776 := fun b hb => by
  simp [at0, List.getD_eq_getElem?_getD, List.getElem?_replicate, hb]
 refine ⟨by simp, by rw [at0_set _ _ _ _ hr]; simp, ?_, ?_⟩
 ·intro b hb
  rw [at0_set _ _ _ _ hr]
  split
  ·omega
  ·rw [e b hb]; omega
 ·intro b hb hbs
  rw [at0_set _ _ _ _ hr, if_neg hbs, e b hb]
  exact .inl rfl
end Im
/- Plain laws of chapter 07: neighbours, and the program's way to the times. -/
namespace Im
def stps : List (Int × Int) := [(-1,-1), (0,-1), (1,-1), (-1,0), (1,0), (-1,1), (0,1), (1,1)]
def fac (d : Int × Int) : Int := if d.1 = 0 ∨ d.2 = 0 then 2 else 3
/-- the neighbour behind a step, with its cost -/
def nb1 (c r : Nat) (l : List Int) (i : Nat) (d : Int × Int) : Option (Nat × Int) :=
 if (i % c : Nat) + d.1 < 0 ∨ (c : Int) ≤ (i % c : Nat) + d.1 ∨ (i / c : Nat) + d.2 < 0 ∨ (r : Int) ≤ (i / c : Nat) + d.2 then none
 else some ((((i / c : Nat) + d.2) * c + ((i % c : Nat) + d.1)).toNat, fac d * (at0 l i + at0 l (((i / c : Nat) + d.2) * c + ((i % c : Nat) + d.1)).toNat))
def nbs (c r : Nat) (l : List Int) (i : Nat) : List (Nat × Int) := stps.filterMap (nb1 c r l i)
theorem nbs_len (c r : Nat) (l : List Int) (i : Nat) : (nbs c r l i).length ≤ 8 := List.length_filterMap_le _ _
/-- a step that stays inside leads to a cell -/
theorem nb1_some {c r : Nat} {l : List Int} (g : Gr c r l) {i : Nat} {d : Int × Int} {k : Nat} {n : Int} (hd : d ∈ stps) (hi : i < l.length) (h : nb1 c r l i d = some (k, n)) :
  k < l.length ∧ ((k % c : Nat) : Int) = (i % c : Nat) + d.1 ∧ ((k / c : Nat) : Int) = (i / c : Nat) + d.2 ∧ n = cost c l i k ∧ 0 < cost c l i k := by
 unfold nb1 at h
 split at h
 ·cases h
 rename_i hn
 simp only [Option.some.injEq, Prod.mk.injEq] at h
 obtain ⟨h1, h2⟩ := h
 have hc := g.c1
 obtain ⟨x, hx⟩ : ∃ x : Nat, (x : Int) = (i % c : Nat) + d.1 := ⟨((i % c : Nat) + d.1).toNat, by omega⟩
 obtain ⟨y, hy⟩ : ∃ y : Nat, (y : Int) = (i / c : Nat) + d.2 := ⟨((i / c : Nat) + d.2).toNat, by omega⟩
 rw [← hx, ← hy] at h1 h2 hn
 have hk : k = y * c + x := by
  rw [← h1]
  have : (y : Int) * c + x = ((y * c + x : Nat) : Int) := by simp
  rw [this]; rfl
 obtain ⟨e1, e2, e3⟩ := cell_mk (c := c) (r := r) (x := x) (y := y) (by omega) (by omega)
 rw [← hk] at e1 e2 e3
 rw [h1] at h2
 have hkl : k < l.length := by rw [g.len]; exact e1
 have hb : ap (i % c) (k % c) ≤ 1 ∧ ap (i / c) (k / c) ≤ 1 ∧ i ≠ k ∧ n = cost c l i k := by
  have key : ∀ (dx dy : Int), d = (dx, dy) → -1 ≤ dx → dx ≤ 1 → -1 ≤ dy → dy ≤ 1 → (dx ≠ 0 ∨ dy ≠ 0) → ap (i % c) (k % c) ≤ 1 ∧ ap (i / c) (k / c) ≤ 1 ∧ i ≠ k ∧ n = cost c l i k := by
   intro dx dy hdd a1 a2 a3 a4 a5
   subst hdd
   simp only at hx hy
   have hne : i ≠ k := by
    intro e
    have qa : i % c = x := by rw [e]; exact e2
    have qb : i / c = y := by rw [e]; exact e3
    omega
   have q1 : ap (i % c) (k % c) ≤ 1 := by unfold ap; omega
   have q2 : ap (i / c) (k / c) ≤ 1 := by unfold ap; omega
   refine ⟨q1, q2, hne, ?_⟩
   rw [← h2]
   symm
   unfold cost
   rw [if_neg (by omega)]
   unfold ap at q1 q2 ⊢
   by_cases hz : dx = 0 ∨ dy = 0
   ·have hf : fac (dx, dy) = 2 := if_pos hz
    rw [if_neg (by omega), hf]
   ·have hf : fac (dx, dy) = 3 := if_neg hz
    rw [if_pos (by omega), hf]
  simp only [stps, List.mem_cons, List.mem_nil_iff, or_false] at hd
  rcases hd with rfl | rfl | rfl | rfl | rfl | rfl | rfl | rfl <;> exact key _ _ rfl (by decide) (by decide) (by decide) (by decide) (by decide)
 refine ⟨hkl, by rw [e2]; exact hx, by rw [e3]; exact hy, hb.2.2.2, (cost_pos g hi hkl).2 ⟨hb.2.2.1, hb.1, hb.2.1⟩⟩
theorem nbs_mem {c r : Nat} {l : List Int} (g : Gr c r l) {i : Nat} (hi : i < l.length) {k : Nat} {n : Int} :
  (k, n) ∈ nbs c r l i ↔ k < l.length ∧ n = cost c l i k ∧ 0 < cost c l i k := by
 constructor
 ·intro h
  obtain ⟨d, hd, h1⟩ := List.mem_filterMap.1 h
  obtain ⟨a, _, _, b, e⟩ := nb1_some g hd hi h1
  exact ⟨a, b, e⟩
 ·rintro ⟨hk, hn, hp⟩
  obtain ⟨hne, h1, h2⟩ := (cost_pos g hi hk).1 hp
  have hc := g.c1
  have kx := Nat.mod_lt k hc
  have ky : k / c < r := by rw [Nat.div_lt_iff_lt_mul hc, Nat.mul_comm, ← g.len]; exact hk
  have hd : ((((k % c : Nat) : Int) - (i % c : Nat)), (((k / c : Nat) : Int) - (i / c : Nat))) ∈ stps := by
   have hne2 : ¬ (i % c = k % c ∧ i / c = k / c) := fun e => hne (cell_eq e.1 e.2)
   generalize i % c = ix at *
   generalize i / c = iy at *
   generalize k % c = kxx at *
   generalize k / c = kyy at *
   unfold ap at h1 h2
   have a1 : (kxx : Int) - ix = -1 ∨ (kxx : Int) - ix = 0 ∨ (kxx : Int) - ix = 1 := by omega
   have a2 : (kyy : Int) - iy = -1 ∨ (kyy : Int) - iy = 0 ∨ (kyy : Int) - iy = 1 := by omega
   rcases a1 with e | e | e <;> rcases a2 with f | f | f <;> rw [e, f] <;> first | decide | (exfalso; omega)
  refine List.mem_filterMap.2 ⟨_, hd, ?_⟩
  have hs : ∃ q, nb1 c r l i ((((k % c : Nat) : Int) - (i % c : Nat)), (((k / c : Nat) : Int) - (i / c : Nat))) = some q := by
   unfold nb1
   have key : ∀ a b x y : Nat, x < c → y < r → ¬ ((a : Int) + ((x : Int) - a) < 0 ∨ (c : Int) ≤ (a : Int) + ((x : Int) - a) ∨ (b : Int) + ((y : Int) - b) < 0 ∨ (r : Int) ≤ (b : Int) + ((y : Int) - b)) := by omega
   rw [if_neg (key _ _ _ _ kx ky)]
   exact ⟨_, rfl⟩
  obtain ⟨⟨k', n'⟩, hq⟩ := hs
  obtain ⟨b1, b2, b3, b4, b5⟩ := nb1_some g hd hi hq
  have : k' = k := cell_eq (c := c) (by omega) (by omega)
  subst this
  rw [hq, hn, b4]
theorem nbs_asc {c r : Nat} {l : List Int} (g : Gr c r l) {i : Nat} (hi : i < l.length) : (nbs c r l i).Pairwise (fun a b => a.1 < b.1) := by
 unfold nbs
 have hp : stps.Pairwise (fun a b : Int × Int => a ∈ stps ∧ b ∈ stps ∧ (a.2 < b.2 ∨ a.2 = b.2 ∧ a.1 < b.1)) := by decide
 refine List.Pairwise.filterMap _ ?_ hp
 rintro a b ⟨ha, hb, hab⟩ ⟨k, n⟩ hk ⟨k', n'⟩ hk'
 obtain ⟨a1, a2, a3, _, _⟩ := nb1_some g ha hi hk
 obtain ⟨b1, b2, b3, _, _⟩ := nb1_some g hb hi hk'
 have hc := g.c1
 show k < k'
 have e1 := Nat.div_add_mod k c
 have e2 := Nat.div_add_mod k' c
 have m1 := Nat.mod_lt k hc
 rcases hab with h | ⟨h1, h2⟩
 ·have : k / c + 1 ≤ k' / c := by omega
  have := Nat.mul_le_mul_left c this
  rw [Nat.mul_add] at this
  omega
 ·have : k / c = k' / c := by omega
  rw [this] at e1
  omega

/-- the order of waiting cells -/
def lt2 (x y : Nat × Int) : Bool := decide (x.2 < y.2 ∨ x.2 = y.2 ∧ x.1 < y.1)
def place (w : List (Nat × Int)) (y : Nat × Int) : Nat := w.countP (fun x => lt2 x y)
def put (w : List (Nat × Int)) (y : Nat × Int) : List (Nat × Int) := w.take (place w y) ++ y :: w.drop (place w y)
def Srt (w : List (Nat × Int)) : Prop := w.Pairwise (fun x y => lt2 y x = false)
theorem lt2_mono {x y z : Nat × Int} (h : lt2 y x = false) (h2 : lt2 y z = true) : lt2 x z = true := by
 simp only [lt2, decide_eq_false_iff_not, decide_eq_true_eq] at *; omega
theorem place_le (w : List (Nat × Int)) (y : Nat × Int) : place w y ≤ w.length := List.countP_le_length
theorem place_cons_lt {a y : Nat × Int} {w : List (Nat × Int)} (h : lt2 a y = true) : place (a :: w) y = place w y + 1 := by simp [place, h]
theorem place_cons_ge {a y : Nat × Int} {w : List (Nat × Int)} (hs : Srt (a :: w)) (h : lt2 a y = false) : place (a :: w) y = 0 := by
 simp only [place, List.countP_eq_zero]
 intro x hx
 rcases List.mem_cons.1 hx with rfl | hx
 ·simp [h]
 ·cases h2 : lt2 x y
  ·simp
  ·have := lt2_mono (List.rel_of_pairwise_cons hs hx) h2
   rw [h] at this; cases this
theorem put_mem {w : List (Nat × Int)} {y x : Nat × Int} : x ∈ put w y ↔ x = y ∨ x ∈ w := by
 unfold put
 rw [List.mem_append, List.mem_cons]
 have := List.take_append_drop (place w y) w
 constructor
 ·rintro (h | h | h)
  ·exact .inr (List.mem_of_mem_take h)
  ·exact .inl h
  ·exact .inr (List.mem_of_mem_drop h)
 ·rintro (h | h)
  ·exact .inr (.inl h)
  ·rw [← this] at h
   rcases List.mem_append.1 h with h | h
   ·exact .inl h
   ·exact .inr (.inr h)
theorem put_len (w : List (Nat × Int)) (y : Nat × Int) : (put w y).length = w.length + 1 := by
 have := place_le w y
 simp [put]; omega
theorem put_srt {y : Nat × Int} : ∀ {w : List (Nat × Int)}, Srt w → Srt (put w y)
 | [], _ => by simp [put, Srt, place]
 | a :: w, h => by
  cases h2 : lt2 a y
  ·unfold put
   rw [place_cons_ge h h2]
   simp only [List.take_zero, List.drop_zero, List.nil_append]
   refine List.pairwise_cons.2 ⟨?_, h⟩
   intro x hx
   rcases List.mem_cons.1 hx with rfl | hx
   ·exact h2
   ·cases h3 : lt2 x y
    ·rfl
    ·have := lt2_mono (List.rel_of_pairwise_cons h hx) h3
     rw [h2] at this; cases this
  ·have ih := put_srt (y := y) (List.Pairwise.of_cons h)
   unfold put at ih ⊢
   rw [place_cons_lt h2]
   simp only [List.take_succ_cons, List.drop_succ_cons, List.cons_append]
   refine List.pairwise_cons.2 ⟨?_, ih⟩
   intro x hx
   have hx' : x ∈ put w y := hx
   rcases put_mem.1 hx' with rfl | hx'
   ·simp only [lt2, decide_eq_false_iff_not, decide_eq_true_eq] at *; omega
   ·exact List.rel_of_pairwise_cons h hx'

/-- what holds in the program's rounds; E a b: the edge from a to b is dealt with -/
structure Dij (c : Nat) (l : List Int) (s : Nat) (out : List Int) (w : List (Nat × Int)) (E : Nat → Nat → Prop) : Prop where
 len : out.length = l.length
 val : ∀ b, b < l.length → -1 ≤ at0 out b
 ent : ∀ e, e ∈ w → e.1 < l.length ∧ 0 ≤ e.2 ∧ (e.1 = s ∨ ∃ a, a < l.length ∧ 0 ≤ at0 out a ∧ 0 < cost c l a e.1 ∧ e.2 = at0 out a + cost c l a e.1)
 mono : ∀ b e, b < l.length → e ∈ w → at0 out b ≤ e.2
 src : 0 ≤ at0 out s → at0 out s = 0
 tight : ∀ b, b < l.length → b ≠ s → 0 ≤ at0 out b → ∃ a, a < l.length ∧ 0 ≤ at0 out a ∧ 0 < cost c l a b ∧ at0 out b = at0 out a + cost c l a b
 edge : ∀ a b, a < l.length → b < l.length → 0 ≤ at0 out a → 0 < cost c l a b → E a b → (0 ≤ at0 out b ∧ at0 out b ≤ at0 out a + cost c l a b) ∨ ∃ e, e ∈ w ∧ e.1 = b ∧ e.2 ≤ at0 out a + cost c l a b
 beg : 0 ≤ at0 out s ∨ (s, 0) ∈ w
 srt : Srt w
theorem Dij.start {c : Nat} {l : List Int} {s : Nat} (hs : s < l.length) : Dij c l s (List.replicate l.length (-1)) [(s, 0)] (fun _ _ => True) := by
 have e : ∀ b, b < l.length → at0 (List.replicate l.length (-1 : Int)) b = -1 := fun b hb => by
  simp [at0, List.getD_eq_getElem?_getD, List.getElem?_replicate, hb]
 refine ⟨by simp, fun b hb => by rw [e b hb]; omega, ?_, ?_, ?_, ?_, ?_, .inr (by simp), by simp [Srt]⟩
 ·intro x hx; simp at hx; subst hx; exact ⟨hs, Int.le_refl _, .inl rfl⟩
 ·intro b x hb hx; simp at hx; subst hx; rw [e b hb]; simp
 ·intro h; rw [e s hs] at h; omega
 ·intro b hb _ h; rw [e b hb] at h; omega
 ·intro a b ha _ h; rw [e a ha] at h; omega
/-- a cell that is done already is struck -/
theorem Dij.skip {c : Nat} {l : List Int} {s : Nat} {out : List Int} {x : Nat × Int} {w : List (Nat × Int)} {E : Nat → Nat → Prop} (h : Dij c l s out (x :: w) E) (hd : 0 ≤ at0 out x.1) : Dij c l s out w E := by
 obtain ⟨h1, h2, h3, h4, h5, h6, h7, h8, h9⟩ := h
 refine ⟨h1, h2, fun e he => h3 e (List.mem_cons_of_mem _ he), fun b e hb he => h4 b e hb (List.mem_cons_of_mem _ he), h5, h6, ?_, ?_, List.Pairwise.of_cons h9⟩
 ·intro a b ha hb hda hc hE
  rcases h7 a b ha hb hda hc hE with h | ⟨e, he, e1, e2⟩
  ·exact .inl h
  ·rcases List.mem_cons.1 he with rfl | he
   ·subst e1
    exact .inl ⟨hd, Int.le_trans (h4 _ e hb List.mem_cons_self) e2⟩
   ·exact .inr ⟨e, he, e1, e2⟩
 ·rcases h8 with h | h
  ·exact .inl h
  ·rcases List.mem_cons.1 h with e | h
   ·rw [← e] at hd; exact .inl hd
   ·exact .inr h
/-- a cell is done -/
theorem Dij.take {c r : Nat} {l : List Int} {s : Nat} {out : List Int} {x : Nat × Int} {w : List (Nat × Int)} (g : Gr c r l) (hs : s < l.length) (h : Dij c l s out (x :: w) (fun _ _ => True)) (hd : at0 out x.1 < 0) :
  Dij c l s (out.set x.1 x.2) w (fun a _ => a ≠ x.1) ∧ (∀ b, b < l.length → at0 (out.set x.1 x.2) b ≤ x.2) ∧ at0 (out.set x.1 x.2) x.1 = x.2 ∧ x.1 < l.length ∧ 0 ≤ x.2 := by
 obtain ⟨h1, h2, h3, h4, h5, h6, h7, h8, h9⟩ := h
 obtain ⟨x1, x2, x3⟩ := h3 x List.mem_cons_self
 have hxo : x.1 < out.length := by rw [h1]; exact x1
 have S : ∀ j, at0 (out.set x.1 x.2) j = if j = x.1 then x.2 else at0 out j := fun j => at0_set _ _ _ _ hxo
 have head : ∀ e, e ∈ w → x.2 ≤ e.2 := fun e he => by
  have := List.rel_of_pairwise_cons h9 he
  simp only [lt2, decide_eq_false_iff_not] at this; omega
 have up : ∀ a, 0 ≤ at0 out a → a ≠ x.1 := fun a ha e => by subst e; omega
 have hx0 : x.1 = s → x.2 = 0 := by
  intro e
  rcases h8 with h | h
  ·rw [← e] at h; omega
  ·rcases List.mem_cons.1 h with e' | h
   ·rw [← e']
   ·have := head _ h
    simp only at this; omega
 refine ⟨⟨by rw [List.length_set, h1], ?_, ?_, ?_, ?_, ?_, ?_, ?_, List.Pairwise.of_cons h9⟩, ?_, by rw [S, if_pos rfl], x1, x2⟩
 ·intro b hb; rw [S]; split
  ·omega
  ·exact h2 b hb
 ·intro e he
  obtain ⟨e1, e2, e3⟩ := h3 e (List.mem_cons_of_mem _ he)
  refine ⟨e1, e2, ?_⟩
  rcases e3 with e3 | ⟨a, a1, a2, a3, a4⟩
  ·exact .inl e3
  ·exact .inr ⟨a, a1, by rw [S, if_neg (up a a2)]; exact a2, a3, by rw [S, if_neg (up a a2)]; exact a4⟩
 ·intro b e hb he
  rw [S]; split
  ·exact head e he
  ·exact h4 b e hb (List.mem_cons_of_mem _ he)
 ·intro _
  rw [S]; split
  ·rename_i e; exact hx0 e.symm
  ·rename_i e
   rename_i hh
   rw [S, if_neg e] at hh
   exact h5 hh
 ·intro b hb hbs hdb
  rw [S] at hdb ⊢
  by_cases e : b = x.1
  ·rw [if_pos e]
   subst e
   rcases x3 with e3 | ⟨a, a1, a2, a3, a4⟩
   ·exact absurd e3 hbs
   ·exact ⟨a, a1, by rw [S, if_neg (up a a2)]; exact a2, a3, by rw [S, if_neg (up a a2)]; exact a4⟩
  ·rw [if_neg e] at hdb ⊢
   obtain ⟨a, a1, a2, a3, a4⟩ := h6 b hb hbs hdb
   exact ⟨a, a1, by rw [S, if_neg (up a a2)]; exact a2, a3, by rw [S, if_neg (up a a2)]; exact a4⟩
 ·intro a b ha hb hda hc hE
  rw [S a, if_neg hE] at hda ⊢
  rw [S b]
  rcases h7 a b ha hb hda hc trivial with ⟨q1, q2⟩ | ⟨e, he, e1, e2⟩
  ·rw [if_neg (up b q1)]
   exact .inl ⟨q1, q2⟩
  ·rcases List.mem_cons.1 he with rfl | he
   ·subst e1
    rw [if_pos rfl]
    exact .inl ⟨x2, e2⟩
   ·exact .inr ⟨e, he, e1, e2⟩
 ·rw [S]
  by_cases e : s = x.1
  ·rw [if_pos e]; exact .inl x2
  ·rw [if_neg e]
   rcases h8 with h | h
   ·exact .inl h
   ·rcases List.mem_cons.1 h with e' | h
    ·exact absurd (by rw [← e']) e
    ·exact .inr h
 ·intro b hb
  rw [S]; split
  ·exact Int.le_refl _
  ·exact h4 b x hb List.mem_cons_self
/-- a neighbour that is done already -/
theorem Dij.pass {c r : Nat} {l : List Int} {s : Nat} {out : List Int} {w : List (Nat × Int)} {x b : Nat} {E : Nat → Nat → Prop} (g : Gr c r l) (hx : x < l.length) (hb : b < l.length)
  (h : Dij c l s out w E) (top : at0 out b ≤ at0 out x) (hd : 0 ≤ at0 out b) : Dij c l s out w (fun a k => E a k ∨ (a = x ∧ k = b)) := by
 obtain ⟨h1, h2, h3, h4, h5, h6, h7, h8, h9⟩ := h
 refine ⟨h1, h2, h3, h4, h5, h6, ?_, h8, h9⟩
 rintro a k ha hk hda hc (hE | ⟨rfl, rfl⟩)
 ·exact h7 a k ha hk hda hc hE
 ·exact .inl ⟨hd, by omega⟩
/-- a neighbour that is to be waited for -/
theorem Dij.push {c r : Nat} {l : List Int} {s : Nat} {out : List Int} {w : List (Nat × Int)} {x b : Nat} {E : Nat → Nat → Prop} (g : Gr c r l) (hx : x < l.length) (hb : b < l.length)
  (h : Dij c l s out w E) (top : ∀ b, b < l.length → at0 out b ≤ at0 out x) (hdx : 0 ≤ at0 out x) (hc0 : 0 < cost c l x b) :
  Dij c l s out (put w (b, at0 out x + cost c l x b)) (fun a k => E a k ∨ (a = x ∧ k = b)) := by
 obtain ⟨h1, h2, h3, h4, h5, h6, h7, h8, h9⟩ := h
 refine ⟨h1, h2, ?_, ?_, h5, h6, ?_, ?_, put_srt h9⟩
 ·intro e he
  rcases put_mem.1 he with rfl | he
  ·exact ⟨hb, by simp only; omega, .inr ⟨x, hx, hdx, hc0, rfl⟩⟩
  ·exact h3 e he
 ·intro k e hk he
  rcases put_mem.1 he with rfl | he
  ·have := top k hk; simp only; omega
  ·exact h4 k e hk he
 ·rintro a k ha hk hda hc (hE | ⟨rfl, rfl⟩)
  ·rcases h7 a k ha hk hda hc hE with q | ⟨e, he, e1, e2⟩
   ·exact .inl q
   ·exact .inr ⟨e, put_mem.2 (.inr he), e1, e2⟩
  ·exact .inr ⟨_, put_mem.2 (.inl rfl), rfl, Int.le_refl _⟩
 ·rcases h8 with h | h
  ·exact .inl h
  ·exact .inr (put_mem.2 (.inr h))
theorem Dij.weak {c : Nat} {l : List Int} {s : Nat} {out : List Int} {w : List (Nat × Int)} {E F : Nat → Nat → Prop} (h : Dij c l s out w E) (hEF : ∀ a b, a < l.length → b < l.length → 0 < cost c l a b → F a b → E a b) : Dij c l s out w F := by
 obtain ⟨h1, h2, h3, h4, h5, h6, h7, h8, h9⟩ := h
 exact ⟨h1, h2, h3, h4, h5, h6, fun a b ha hb hd hc hF => h7 a b ha hb hd hc (hEF a b ha hb hc hF), h8, h9⟩
/-- nothing waits: these are the times -/
theorem Dij.done {c r : Nat} {l : List Int} {s : Nat} {out : List Int} (g : Gr c r l) (hs : s < l.length) (h : Dij c l s out [] (fun _ _ => True)) : IsT c l s out := by
 obtain ⟨h1, h2, h3, h4, h5, h6, h7, h8, h9⟩ := h
 have hs0 : 0 ≤ at0 out s := by rcases h8 with h | h; exact h; cases h
 have nb : ∀ a b, a < l.length → b < l.length → 0 ≤ at0 out a → 0 < cost c l a b → 0 ≤ at0 out b ∧ at0 out b ≤ at0 out a + cost c l a b := by
  intro a b ha hb hda hc
  rcases h7 a b ha hb hda hc trivial with q | ⟨e, he, _⟩
  ·exact q
  ·cases he
 have all : ∀ k b, b < l.length → gap c b s = k → 0 ≤ at0 out b := by
  intro k
  induction k with
  | zero =>
   intro b hb hk
   have : b = s := by unfold gap ap at hk; exact cell_eq (c := c) (by omega) (by omega)
   subst this; exact hs0
  | succ k ih =>
   intro b hb hk
   have hc := g.c1
   have hcr := g.len
   have bx := Nat.mod_lt b hc
   have sx := Nat.mod_lt s hc
   have by' : b / c < r := by rw [Nat.div_lt_iff_lt_mul hc, Nat.mul_comm, ← hcr]; exact hb
   have sy : s / c < r := by rw [Nat.div_lt_iff_lt_mul hc, Nat.mul_comm, ← hcr]; exact hs
   obtain ⟨x1, x2, x3, x4⟩ := toward_ap (b % c) (s % c)
   obtain ⟨y1, y2, y3, y4⟩ := toward_ap (b / c) (s / c)
   have hx : toward (b % c) (s % c) < c := by omega
   have hy : toward (b / c) (s / c) < r := by omega
   obtain ⟨e1, e2, e3⟩ := cell_mk hx hy
   generalize toward (b / c) (s / c) * c + toward (b % c) (s % c) = m at e1 e2 e3
   have hm : m < l.length := by omega
   have hg : gap c m s = k := by unfold gap at hk ⊢; rw [e2, e3]; exact gap_step x2 y2 hk
   have hne : m ≠ b := by
    intro e; subst e
    unfold gap ap at hk
    by_cases hxx : m % c = s % c
    ·exact y3 (by omega) e3.symm
    ·exact x3 hxx e2.symm
   have hp : 0 < cost c l m b := (cost_pos g hm hb).2 ⟨hne, by rw [e2, ap_comm]; exact x1, by rw [e3, ap_comm]; exact y1⟩
   exact (nb m b hm hb (ih m hm hg) hp).1
 have dn : ∀ b, b < l.length → 0 ≤ at0 out b := fun b hb => all _ b hb rfl
 exact ⟨h1, h5 hs0, dn, fun a b ha hb hc => (nb a b ha hb (dn a ha) hc).2, fun b hb hbs => by
  obtain ⟨a, a1, _, a3, a4⟩ := h6 b hb hbs (dn b hb)
  exact ⟨a, a1, a3, a4⟩⟩
/-- the measure: undone cells -/
def undone (out : List Int) : Nat := out.countP (fun x => decide (x < 0))
theorem undone_set {out : List Int} {i : Nat} {x : Int} (hi : i < out.length) (h : at0 out i < 0) (hx : 0 ≤ x) : undone (out.set i x) + 1 = undone out := by
 unfold undone
 induction out generalizing i with
 | nil => simp at hi
 | cons a out ih =>
  cases i with
  | zero =>
   simp only [at0, List.getD_cons_zero] at h
   have hx' : ¬ x < 0 := by omega
   simp [h, hx']
  | succ i =>
   have := ih (i := i) (by simpa using hi) (by simpa [at0] using h)
   simp only [List.set_cons_succ, List.countP_cons]
   omega
end Im
/- Plain laws of chapter 07: ways. -/
namespace Im
/-- the next cell of the best way: the first one from which the rest is as short as it can be -/
def nxt (c : Nat) (l left : List Int) (a : Nat) : Option Nat := (List.range l.length).find? (fun b => decide (0 < cost c l a b ∧ at0 left a = cost c l a b + at0 left b))
theorem nxt_some {c : Nat} {l left : List Int} {a b : Nat} (h : nxt c l left a = some b) : b < l.length ∧ 0 < cost c l a b ∧ at0 left a = cost c l a b + at0 left b ∧
  ∀ k, k < b → ¬ (0 < cost c l a k ∧ at0 left a = cost c l a k + at0 left k) := by
 unfold nxt at h
 rw [List.find?_range_eq_some] at h
 obtain ⟨h1, h2, h3⟩ := h
 simp only [decide_eq_true_eq, Bool.not_eq_true', decide_eq_false_iff_not] at h1 h3
 exact ⟨by simpa using h2, h1.1, h1.2, h3⟩
theorem nxt_of {c : Nat} {l left : List Int} {a b : Nat} (hb : b < l.length) (h1 : 0 < cost c l a b) (h2 : at0 left a = cost c l a b + at0 left b)
  (h3 : ∀ k, k < b → ¬ (0 < cost c l a k ∧ at0 left a = cost c l a k + at0 left k)) : nxt c l left a = some b := by
 unfold nxt
 rw [List.find?_range_eq_some]
 exact ⟨by simp [h1, h2], by simpa using hb, fun j hj => by rw [Bool.not_eq_true', decide_eq_false_iff_not]; exact h3 j hj⟩
/-- there is one -/
theorem nxt_ex {c : Nat} {l left : List Int} {d a : Nat} (h : IsT c l d left) (ha : a < l.length) (hd : a ≠ d) : ∃ b, nxt c l left a = some b := by
 obtain ⟨b, hb, hc, ht⟩ := h.tight a ha hd
 cases hn : nxt c l left a with
 | some k => exact ⟨k, rfl⟩
 | none =>
  unfold nxt at hn
  rw [List.find?_eq_none] at hn
  have := hn b (List.mem_range.2 hb)
  rw [cost_comm] at hc ht
  simp only [decide_eq_true_eq] at this
  exact absurd ⟨hc, by omega⟩ this
/-- the best way from a on, with so many steps at most -/
def wayN (c : Nat) (l left : List Int) (d : Nat) : Nat → Nat → List Nat
 | 0, a => [a]
 | k + 1, a => if a = d then [a] else match nxt c l left a with
  | some b => a :: wayN c l left d k b
  | none => [a]
theorem wayN_enough {c : Nat} {l left : List Int} {d : Nat} (h : IsT c l d left) : ∀ (k m a : Nat), a < l.length → (at0 left a).toNat ≤ k → (at0 left a).toNat ≤ m → wayN c l left d k a = wayN c l left d m a := by
 have zero : ∀ a, a < l.length → (at0 left a).toNat = 0 → a = d := by
  intro a ha hz
  by_cases e : a = d
  ·exact e
  ·obtain ⟨b, hb, hc, ht⟩ := h.tight a ha e
   have := h.nn b hb
   omega
 intro k
 induction k with
 | zero =>
  intro m a ha hk hm
  have e := zero a ha (by omega)
  cases m with
  | zero => rfl
  | succ m => simp [wayN, e]
 | succ k ih =>
  intro m a ha hk hm
  by_cases e : a = d
  ·cases m <;> simp [wayN, e]
  ·cases m with
   | zero => exact absurd (zero a ha (by omega)) e
   | succ m =>
    obtain ⟨b, hb⟩ := nxt_ex h ha e
    obtain ⟨b1, b2, b3, _⟩ := nxt_some hb
    have nb := h.nn b b1
    simp only [wayN, if_neg e, hb]
    rw [ih m b b1 (by omega) (by omega)]
/-- the best way -/
def way (c : Nat) (l left : List Int) (d a : Nat) : List Nat := wayN c l left d (at0 left a).toNat a
theorem way_end (c : Nat) (l left : List Int) (d : Nat) : way c l left d d = [d] := by
 unfold way
 cases (at0 left d).toNat <;> simp [wayN]
theorem way_step {c : Nat} {l left : List Int} {d a b : Nat} (h : IsT c l d left) (ha : a < l.length) (hd : a ≠ d) (hb : nxt c l left a = some b) : way c l left d a = a :: way c l left d b := by
 obtain ⟨b1, b2, b3, _⟩ := nxt_some hb
 have nb := h.nn b b1
 unfold way
 cases hk : (at0 left a).toNat with
 | zero => omega
 | succ k =>
  simp only [wayN, if_neg hd, hb]
  rw [wayN_enough h k (at0 left b).toNat b b1 (by omega) (by omega)]
/-- what the program finds among the neighbours is the next cell -/
theorem nbs_first {c r : Nat} {l left : List Int} (g : Gr c r l) {a : Nat} (ha : a < l.length) {p : List (Nat × Int)} {b : Nat} {n : Int} {q : List (Nat × Int)} (h : nbs c r l a = p ++ (b, n) :: q)
  (hp : ∀ e, e ∈ p → at0 left a ≠ e.2 + at0 left e.1) (hb : at0 left a = n + at0 left b) : nxt c l left a = some b := by
 have hm : (b, n) ∈ nbs c r l a := by rw [h]; simp
 obtain ⟨b1, b2, b3⟩ := (nbs_mem g ha).1 hm
 refine nxt_of b1 b3 (by rw [← b2]; exact hb) fun k hk ⟨k1, k2⟩ => ?_
 by_cases hkl : k < l.length
 ·have hkm : (k, cost c l a k) ∈ nbs c r l a := (nbs_mem g ha).2 ⟨hkl, rfl, k1⟩
  have asc := nbs_asc g ha
  rw [h] at hkm asc
  rcases List.mem_append.1 hkm with hx | hx
  ·exact hp _ hx k2
  ·rcases List.mem_cons.1 hx with hx | hx
   ·simp only [Prod.mk.injEq] at hx; omega
   ·have := List.rel_of_pairwise_cons (List.pairwise_append.1 asc).2.1 hx
    simp only at this; omega
 ·omega
theorem nbs_never {c r : Nat} {l left : List Int} (g : Gr c r l) {a d : Nat} (ha : a < l.length) (h : IsT c l d left) (hd : a ≠ d) (hp : ∀ e, e ∈ nbs c r l a → at0 left a ≠ e.2 + at0 left e.1) : False := by
 obtain ⟨b, hb⟩ := nxt_ex h ha hd
 obtain ⟨b1, b2, b3, _⟩ := nxt_some hb
 exact hp (b, cost c l a b) ((nbs_mem g ha).2 ⟨b1, rfl, b2⟩) b3
/-- the sum of costs along a way that starts at a -/
def costs (c : Nat) (l : List Int) : Nat → List Nat → Int
 | _, [] => 0
 | a, b :: w => cost c l a b + costs c l b w
/-- each step leads to a neighbour -/
def Walk (c : Nat) (l : List Int) : Nat → List Nat → Prop
 | _, [] => True
 | a, b :: w => b < l.length ∧ 0 < cost c l a b ∧ Walk c l b w
theorem way_facts {c : Nat} {l left : List Int} {d : Nat} (h : IsT c l d left) : ∀ (k a : Nat), a < l.length → (at0 left a).toNat ≤ k →
  ∃ w, way c l left d a = a :: w ∧ Walk c l a w ∧ costs c l a w = at0 left a ∧ (a :: w).getLast? = some d ∧ (a :: w).Pairwise (fun x y => at0 left y < at0 left x) := by
 intro k
 induction k with
 | zero =>
  intro a ha hk
  have e : a = d := by
   by_cases e : a = d
   ·exact e
   ·obtain ⟨b, hb, hc, ht⟩ := h.tight a ha e
    have := h.nn b hb
    omega
  subst e
  exact ⟨[], way_end _ _ _ _, trivial, by simp [costs, h.src], by simp, by simp⟩
 | succ k ih =>
  intro a ha hk
  by_cases e : a = d
  ·subst e
   exact ⟨[], way_end _ _ _ _, trivial, by simp [costs, h.src], by simp, by simp⟩
  ·obtain ⟨b, hb⟩ := nxt_ex h ha e
   obtain ⟨b1, b2, b3, _⟩ := nxt_some hb
   have nb := h.nn b b1
   obtain ⟨w, w1, w2, w3, w4, w5⟩ := ih b b1 (by omega)
   refine ⟨b :: w, by rw [way_step h ha e hb, w1], ⟨b1, b2, w2⟩, by simp only [costs]; omega, by rw [List.getLast?_cons_cons]; exact w4, ?_⟩
   refine List.pairwise_cons.2 ⟨?_, w5⟩
   intro y hy
   rcases List.mem_cons.1 hy with rfl | hy
   ·omega
   ·have := List.rel_of_pairwise_cons w5 hy; omega
/-- a way takes no less than the time between its ends -/
theorem costs_ge {c : Nat} {l u : List Int} (hu : Feas c l u) : ∀ (w : List Nat) (a : Nat), a < l.length → Walk c l a w → ∃ z, (a :: w).getLast? = some z ∧ z < l.length ∧ at0 u z ≤ at0 u a + costs c l a w
 | [], a, ha, _ => ⟨a, by simp, ha, by simp [costs]⟩
 | b :: w, a, ha, ⟨h1, h2, h3⟩ => by
  obtain ⟨z, z1, z2, z3⟩ := costs_ge hu w b h1 h3
  have := hu a b ha h1 h2
  exact ⟨z, by rw [List.getLast?_cons_cons]; exact z1, z2, by simp only [costs]; omega⟩
/-- a list of cells below n without twins is no longer than n -/
theorem nodup_len {n : Nat} {w : List Nat} (hn : w.Nodup) (h : ∀ x, x ∈ w → x < n) : w.length ≤ n := by
 have := List.Nodup.length_le_of_subset hn (l₂ := List.range n) (fun x hx => List.mem_range.2 (h x hx))
 simpa using this
theorem walk_lt {c : Nat} {l : List Int} : ∀ (w : List Nat) (a : Nat), a < l.length → Walk c l a w → ∀ x, x ∈ a :: w → x < l.length
 | [], a, ha, _, x, hx => by simp at hx; subst hx; exact ha
 | b :: w, a, ha, ⟨h1, _, h3⟩, x, hx => by
  rcases List.mem_cons.1 hx with rfl | hx
  ·exact ha
  ·exact walk_lt w b h1 h3 x hx
theorem way_len {c : Nat} {l left : List Int} {d a : Nat} (h : IsT c l d left) (ha : a < l.length) : (way c l left d a).length ≤ l.length := by
 obtain ⟨w, w1, w2, _, _, w5⟩ := way_facts h _ a ha (Nat.le_refl _)
 rw [w1]
 exact nodup_len (List.Pairwise.imp (fun {x y} hxy => by intro e; subst e; omega) w5) (walk_lt w a ha w2)
end Im
/- Plain laws of chapter 07: delays, the operator and its adjoint. -/
namespace Im
/-- the numbers of the cells: the time there and back by the unit -/
def nums (unit : Int) (t u : List Int) : List Int := List.zipWith (fun a b => (a + b) / unit) t u
def straight (c i k : Nat) : Bool := decide (i % c = k % c ∨ i / c = k / c)
/-- a straight neighbour whose number differs by more than a greatest step -/
def alia (c : Nat) (l ns : List Int) (most : Int) (i : Nat) : Bool := (List.range l.length).any fun k => decide (0 < cost c l i k) && straight c i k && decide (most < max (at0 ns k - at0 ns i) (at0 ns i - at0 ns k))
/-- the sample of a cell, or -1 -/
def dly (c : Nat) (l ns : List Int) (len most : Int) (hole : Bool) (i : Nat) : Int := if hole || decide (len ≤ at0 ns i) || alia c l ns most i then -1 else at0 ns i
def delays (c : Nat) (l ns : List Int) (len most : Int) (hole : Bool) : List Int := (List.range l.length).map (dly c l ns len most hole)
theorem delays_len (c : Nat) (l ns : List Int) (len most : Int) (hole : Bool) : (delays c l ns len most hole).length = l.length := by simp [delays]
theorem at0_map_range (n : Nat) (f : Nat → Int) (i : Nat) (hi : i < n) : at0 ((List.range n).map f) i = f i := by
 simp [at0, List.getD_eq_getElem?_getD, List.getElem?_map, List.getElem?_range hi]
theorem delays_at {c : Nat} {l ns : List Int} {len most : Int} {hole : Bool} {i : Nat} (hi : i < l.length) : at0 (delays c l ns len most hole) i = dly c l ns len most hole i := at0_map_range _ _ _ hi
theorem dly_range {c : Nat} {l ns : List Int} {len most : Int} {hole : Bool} {i : Nat} (h : 0 ≤ at0 ns i) : -1 ≤ dly c l ns len most hole i ∧ (0 ≤ dly c l ns len most hole i → dly c l ns len most hole i < len) := by
 unfold dly
 split
 ·omega
 ·rename_i hh
  simp only [Bool.or_eq_true, decide_eq_true_eq, not_or] at hh
  omega
theorem alia_nbs {c r : Nat} {l ns : List Int} (g : Gr c r l) {most : Int} {i : Nat} (hi : i < l.length) :
  alia c l ns most i = (nbs c r l i).any fun e => straight c i e.1 && decide (most < max (at0 ns e.1 - at0 ns i) (at0 ns i - at0 ns e.1)) := by
 rw [Bool.eq_iff_iff]
 simp only [alia, List.any_eq_true, Bool.and_eq_true, decide_eq_true_eq, List.mem_range]
 constructor
 ·rintro ⟨k, hk, ⟨h1, h2⟩, h3⟩
  exact ⟨(k, cost c l i k), (nbs_mem g hi).2 ⟨hk, rfl, h1⟩, h2, h3⟩
 ·rintro ⟨⟨k, n⟩, hm, h2, h3⟩
  obtain ⟨a, b, e⟩ := (nbs_mem g hi).1 hm
  exact ⟨k, a, ⟨e, h2⟩, h3⟩

/-- the trace of a model by delays: cell by cell -/
def addAt (tr : List Int) (d m : Int) : List Int := if 0 ≤ d then tr.set d.toNat (at0 tr d.toNat + m) else tr
def trace (len : Nat) (ds ms : List Int) : List Int := (List.zip ds ms).foldl (fun tr x => addAt tr x.1 x.2) (List.replicate len 0)
/-- what a trace gives a cell -/
def pick (tr : List Int) (d : Int) : Int := if 0 ≤ d then at0 tr d.toNat else 0
/-- the inner product -/
def inner : List Int → List Int → Int
 | a :: l, b :: m => a * b + inner l m
 | _, _ => 0
theorem inner_nil_right (l : List Int) : inner l [] = 0 := by cases l <;> rfl
theorem inner_comm : ∀ l m : List Int, inner l m = inner m l
 | [], m => by rw [inner_nil_right]; cases m <;> rfl
 | _ :: _, [] => rfl
 | a :: l, b :: m => by simp only [inner]; rw [inner_comm l m, Int.mul_comm]
theorem inner_set : ∀ (tr x : List Int) (i : Nat) (y : Int), i < tr.length → tr.length = x.length → inner (tr.set i (at0 tr i + y)) x = inner tr x + y * at0 x i
 | [], _, i, _, h, _ => by simp at h
 | _ :: _, [], _, _, _, h => by simp at h
 | a :: tr, b :: x, 0, y, _, _ => by simp [inner, at0]; rw [Int.add_mul]; omega
 | a :: tr, b :: x, i+1, y, h, hl => by
  have := inner_set tr x i y (by simpa using h) (by simpa using hl)
  simp only [at0, List.set_cons_succ, List.getD_cons_succ, inner] at this ⊢
  rw [this]; omega
theorem addAt_len (tr : List Int) (d m : Int) : (addAt tr d m).length = tr.length := by unfold addAt; split <;> simp
theorem trace_fold_len : ∀ (xs : List (Int × Int)) (tr : List Int), (xs.foldl (fun tr x => addAt tr x.1 x.2) tr).length = tr.length
 | [], _ => rfl
 | x :: xs, tr => by rw [List.foldl_cons, trace_fold_len xs, addAt_len]
theorem trace_len (len : Nat) (ds ms : List Int) : (trace len ds ms).length = len := by unfold trace; rw [trace_fold_len]; simp
theorem inner_fold : ∀ (xs : List (Int × Int)) (tr x : List Int), tr.length = x.length → (∀ e, e ∈ xs → e.1 < (tr.length : Int)) →
  inner (xs.foldl (fun tr x => addAt tr x.1 x.2) tr) x = inner tr x + inner (xs.map (·.2)) (xs.map (fun e => pick x e.1))
 | [], tr, x, _, _ => by simp [inner]
 | e :: xs, tr, x, hl, h => by
  rw [List.foldl_cons, inner_fold xs _ x (by rw [addAt_len]; exact hl) (fun e' he' => by rw [addAt_len]; exact h e' (List.mem_cons_of_mem _ he'))]
  simp only [List.map_cons, inner]
  have he := h e List.mem_cons_self
  have : inner (addAt tr e.1 e.2) x = inner tr x + e.2 * pick x e.1 := by
   unfold addAt pick
   split
   ·exact inner_set tr x _ _ (by omega) hl
   ·simp
  rw [this]; omega
theorem inner_zero : ∀ (n : Nat) (x : List Int), inner (List.replicate n 0) x = 0
 | 0, _ => rfl
 | n+1, [] => rfl
 | n+1, b :: x => by simp [List.replicate_succ, inner, inner_zero n x]
/-- ONE PAIR: the trace of a model with a trace is the model with what the trace gives -/
theorem adj1 {len : Nat} {ds ms x : List Int} (hl : ds.length = ms.length) (hx : x.length = len) (h : ∀ d, d ∈ ds → d < (len : Int)) :
  inner (trace len ds ms) x = inner ms (ds.map (pick x)) := by
 unfold trace
 rw [inner_fold _ _ x (by simp [hx]) (fun e he => by simp; exact h _ (List.of_mem_zip he).1), inner_zero, Int.zero_add]
 have e1 : (List.zip ds ms).map (·.2) = ms := List.map_snd_zip (by omega)
 have e2 : (List.zip ds ms).map (fun e => pick x e.1) = ds.map (pick x) := by
  have : (fun e : Int × Int => pick x e.1) = pick x ∘ Prod.fst := rfl
  rw [this, ← List.map_map, List.map_fst_zip (by omega)]
 rw [e1, e2]
theorem inner_add : ∀ (l m k : List Int), m.length = k.length → inner l (List.zipWith (· + ·) m k) = inner l m + inner l k
 | [], m, k, _ => by simp [inner]
 | a :: l, [], [], _ => by simp [inner]
 | a :: l, b :: m, d :: k, h => by
  have := inner_add l m k (by simpa using h)
  simp only [List.zipWith_cons_cons, inner]
  rw [this, Int.mul_add]; omega
 | _ :: _, [], _ :: _, h => by simp at h
 | _ :: _, _ :: _, [], h => by simp at h
theorem inner_append : ∀ (a b x y : List Int), a.length = x.length → inner (a ++ b) (x ++ y) = inner a x + inner b y
 | [], b, [], y, _ => by simp [inner]
 | p :: a, b, q :: x, y, h => by
  have := inner_append a b x y (by simpa using h)
  simp only [List.cons_append, inner]; rw [this]; omega
 | [], _, _ :: _, _, h => by simp at h
 | _ :: _, _, [], _, h => by simp at h
theorem inner_self_nonneg : ∀ a : List Int, 0 ≤ inner a a
 | [] => by simp [inner]
 | x :: a => by
  have := inner_self_nonneg a
  have h2 : 0 ≤ x * x := by
   rcases Int.le_total 0 x with h | h
   ·exact Int.mul_nonneg h h
   ·exact Int.mul_nonneg_of_nonpos_of_nonpos h h
  simp only [inner]; omega

/-- the operator of a survey: 'dss' the delays of the pairs, [] for none -/
def traces (len : Nat) (pairs : List (Bool × List Int)) (m : List Int) : List (List Int) := pairs.map fun p => if p.1 then [] else trace len p.2 m
def imgFold (out : List Int) (ds tr : List Int) : List Int := List.zipWith (· + ·) out (ds.map (pick tr))
/-- the image of traces -/
def image (n : Nat) (dss : List (List Int)) (data : List (List Int)) : List Int := (List.zip dss data).foldl (fun out x => imgFold out x.1 x.2) (List.replicate n 0)
theorem imgFold_len {out ds tr : List Int} (h : ds.length = out.length) : (imgFold out ds tr).length = out.length := by simp [imgFold]; omega
theorem image_fold_len : ∀ (xs : List (List Int × List Int)) (out : List Int), (∀ x, x ∈ xs → x.1.length = out.length) → (xs.foldl (fun out x => imgFold out x.1 x.2) out).length = out.length
 | [], _, _ => rfl
 | x :: xs, out, h => by
  have h1 := imgFold_len (tr := x.2) (h x List.mem_cons_self)
  rw [List.foldl_cons, image_fold_len xs _ (fun y hy => by rw [h1]; exact h y (List.mem_cons_of_mem _ hy)), h1]
theorem inner_image_fold (m : List Int) : ∀ (xs : List (List Int × List Int)) (out : List Int), (∀ x, x ∈ xs → x.1.length = out.length) →
  inner m (xs.foldl (fun out x => imgFold out x.1 x.2) out) = inner m out + (xs.map (fun x => inner m (x.1.map (pick x.2)))).foldr (· + ·) 0
 | [], out, _ => by simp
 | x :: xs, out, h => by
  have h0 := h x List.mem_cons_self
  have h1 := imgFold_len (tr := x.2) h0
  rw [List.foldl_cons, inner_image_fold m xs _ (fun y hy => by rw [h1]; exact h y (List.mem_cons_of_mem _ hy))]
  simp only [List.map_cons, List.foldr_cons]
  unfold imgFold
  rw [inner_add m out _ (by simp [h0])]
  omega
end Im
namespace Go.Proofs.YtdimmlljjmmdbaaGreatDoor
structure Sgt where
 t : Int
 x : Int
 y : Int
structure Spn where
 f : Int
 t : Int
structure Fir where
 t : Int
 v : Int
structure Ent where
 f : Int
 t : Int
 c : ByteArray
structure Res where
 n : ByteArray
 f : Int
 w : Int
def Sgt.enc (s : Sgt) : List Value := [.int .i64 s.t, .int .i64 s.x, .int .i64 s.y]
def Spn.enc (s : Spn) : List Value := [.int .i64 s.f, .int .i64 s.t]
def Fir.enc (s : Fir) : List Value := [.int .i64 s.t, .int .i64 s.v]
def Ent.enc (s : Ent) : List Value := [.int .i64 s.f, .int .i64 s.t, .string s.c]
def Res.enc (s : Res) : List Value := [.string s.n, .int .i64 s.f, .int .i64 s.w]
theorem Sgt.len (s : Sgt) : s.enc.length = 3 := rfl
theorem Spn.len (s : Spn) : s.enc.length = 2 := rfl
theorem Fir.len (s : Fir) : s.enc.length = 2 := rfl
theorem Ent.len (s : Ent) : s.enc.length = 3 := rfl
theorem Res.len (s : Res) : s.enc.length = 3 := rfl
namespace Mo
def range (n lo hi : Int) : Int := if n < lo ∨ hi < n then 3 else 0
def when (c : Bool) (e : Int) : Int := if c then e else 0
def first : List Int → Int
 | [] => 0
 | x :: xs => if x ≠ 0 then x else first xs
theorem first_drop (xs : List Int) (k : Nat) (h : k < xs.length) : first (xs.drop k) = if xs[k] ≠ 0 then xs[k] else first (xs.drop (k+1)) := by
 rw [List.drop_eq_getElem_cons h]; rfl
def point (x y m : Int) : Int := first [range x (-m) m, range y (-m) m]
def vessel (a b c d t : Int) : Int := first [point a b 100000, point c d 1000, range t 1 4096]
def watch (a b c d e : Int) : Int := first [range a 0 10000, range b 0 1000, range c 0 1000, range d 0 1000, range e 0 1000]
def each (n most : Nat) (f : Nat → Int) : Int := if most < n then 5 else first ((List.range n).map f)
theorem first_range (n k : Nat) (f : Nat → Int) (h : k < n) : first (((List.range n).map f).drop k) = if f k ≠ 0 then f k else first (((List.range n).map f).drop (k+1)) := by
 rw [first_drop _ k (by simpa using h)]; simp
theorem first_range_end (n k : Nat) (f : Nat → Int) (h : n ≤ k) : first (((List.range n).map f).drop k) = 0 := by
 rw [List.drop_of_length_le (by simpa using h)]; rfl
def badSpan (f t : Int) : Bool := decide (f < 0 ∨ t ≤ f ∨ 100000 < t)
def has (f t k : Int) : Bool := decide (f ≤ k ∧ k < t)
def sgt1 (l : List Sgt) (k : Nat) : Int := match l[k]? with
 | some s => first [range s.t 0 100000, point s.x s.y 100000, when (decide (0 < k ∧ s.t < ((l[k-1]?).getD ⟨0,0,0⟩).t)) 11]
 | none => 0
def sightings (l : List Sgt) : Int := each l.length 64 (sgt1 l)
def spn1 (l : List Spn) (k : Nat) : Int := match l[k]? with
 | some s => first [when (badSpan s.f s.t) 14, when (decide (0 < k ∧ s.f < ((l[k-1]?).getD ⟨0,0⟩).t)) 11]
 | none => 0
def spans (l : List Spn) : Int := each l.length 256 (spn1 l)
end Mo
end Go.Proofs.YtdimmlljjmmdbaaGreatDoor
/- A region that draws its order, whose last operation waits for all others and may write what they read. -/
namespace Go
open Go.RowKit
section
variable {P : Program} {ops : Array Oper} {md : Region.Mode} {C : World → Prop} {Q : Exit → Act → World → Prop} {L : Nat}
def Region.waitsB (md : Region.Mode) (ops : Array Oper) (L i : Nat) : Bool := match ops[L]? with
 | some o => o.after.any (fun e => Region.binds md e && e.on == i)
 | none => false
def wpAnyL (P : Program) (md : Region.Mode) (ops : Array Oper) (C : World → Prop) (Q : Exit → Act → World → Prop) (L : Nat) : Nat → Array Bool → Act → World → Prop
 | 0, listed, a, w => Region.ready md ops listed = [] ∧ Q .normal a w
 | fuel + 1, listed, a, w =>
  (Region.ready md ops listed = [] → Q .normal a w) ∧
  ∀ i ∈ Region.ready md ops listed, wpOp P ops Q i (fun a' w' => (i ≠ L → C w') ∧ ∀ w'', Below w'.heap.size w' w'' → wpAnyL P md ops C Q L fuel (listed.setIfInBounds i true) a' w'') a w
theorem wpAny_of_L : ∀ (fuel : Nat) (listed : Array Bool) (a : Act) (w : World), wpAnyL P md ops C Q L fuel listed a w → wpAny P md ops Q fuel listed a w
 | 0, _, _, _, h => h
 | fuel + 1, _, _, _, h => ⟨h.1, fun i hi => wpOp_mono (fun a' w' h' => wpAny_of_L fuel _ a' w' (h'.2 w' (Below.refl _ _))) (h.2 i hi)⟩
theorem wpAnyL_first (hCg : ∀ w w', C w → Below w.heap.size w w' → C w') {i : Nat} {oi : Oper} {v : Value} (hi : ops[i]? = some oi) (hsel : ∀ (j : Nat) (o : Oper) cs b, ops[j]? = some o → o.op ≠ .select cs b)
  (hQ : ∀ c a d v w, Q (.panic c) (a.put d v) w → Q (.panic c) a w) (hL : Region.waitsB md ops L i = true) :
  ∀ (fuel : Nat) (listed : Array Bool) (a : Act) (w : World),
   (∀ j oj, ops[j]? = some oj → j ≠ i → listed.getD j true = false → (∀ e ∈ oj.after, Region.binds md e = true → e.on ≠ i) → oi.apart ops oj = true) →
   i ∈ Region.ready md ops listed → SoftIn P ops C oi v a → C w →
   (∀ w', Below w.heap.size w w' → wpAnyL P md ops C Q L fuel (listed.setIfInBounds i true) (a.put oi.dst v) w') → wpAnyL P md ops C Q L (fuel + 1) listed a w := by
 intro fuel
 induction fuel with
 | zero =>
  intro listed a w _ hr hy hC H
  refine ⟨fun h => (by rw [h] at hr; cases hr), fun j hj => ?_⟩
  by_cases hji : j = i
  ·subst hji
   exact hy.wpOp hi hC fun w' hw' => ⟨fun _ => hCg _ _ hC hw', fun w'' hw'' => H w'' (hw'.trans (hw''.mono hw'.size))⟩
  ·have := ready_mono hj hji
   rw [(H w (Below.refl _ _)).1] at this
   cases this
 | succ fuel ih =>
  intro listed a w hfree hr hy hC H
  refine ⟨fun h => (by rw [h] at hr; cases hr), fun j hj => ?_⟩
  by_cases hji : j = i
  ·subst hji
   exact hy.wpOp hi hC fun w' hw' => ⟨fun _ => hCg _ _ hC hw', fun w'' hw'' => H w'' (hw'.trans (hw''.mono hw'.size))⟩
  ·have h1 := (H w (Below.refl _ _)).2 j (ready_mono hj hji)
   obtain ⟨hjun, oj, hoj, hall⟩ := mem_ready.1 hj
   have hnot : ∀ e ∈ oj.after, Region.binds md e = true → e.on ≠ i := fun e he hb heq => by
    have h1 := hall e he hb
    have h0 := (mem_ready.1 hr).1
    rw [heq] at h1
    rcases Nat.lt_or_ge i listed.size with h' | h'
    ·simp [h'] at h0 h1; rw [h0] at h1; cases h1
    ·simp [Array.getElem?_eq_none h'] at h1
   have hjL : j ≠ L := fun e => by
    unfold Region.waitsB at hL
    rw [← e, hoj] at hL
    obtain ⟨x, hx, hxx⟩ := Array.any_eq_true'.1 hL
    rw [Bool.and_eq_true] at hxx
    exact hnot x hx hxx.1 (by simpa using hxx.2)
   have h2 := wpOp_putSoft hoj (hfree j oj hoj hji hjun hnot) (fun cs b => hsel i oi cs b hi) (fun cs b => hsel j oj cs b hoj) hQ hy h1
   have hfree' : ∀ k ok, ops[k]? = some ok → k ≠ i → (listed.setIfInBounds j true).getD k true = false →
     (∀ e ∈ ok.after, Region.binds md e = true → e.on ≠ i) → oi.apart ops ok = true := fun k ok hk hki hun hno => by
    refine hfree k ok hk hki ?_ hno
    by_cases hjk : j = k
    ·subst hjk; exact hjun
    ·rw [getD_set_ne true hjk] at hun; exact hun
   refine wpOp_mono (fun a' w' h3 => ⟨fun _ => h3.2.1 hjL, fun w'' hw'' => ih (listed.setIfInBounds j true) a' w'' hfree' (ready_mono hr (Ne.symm hji)) h3.1 (hCg _ _ (h3.2.1 hjL) hw'') ?_⟩) h2
   intro w3 hw3
   rw [Array.setIfInBounds_comm _ _ hji]
   exact h3.2.2 w3 (hw''.trans (hw3.mono hw''.size))
def Region.planLB (md : Region.Mode) (ops : Array Oper) (L : Nat) : List (Nat × Bool) → Array Bool → Bool
 | [], listed => (Region.ready md ops listed) == [L] && (Region.ready md ops (listed.setIfInBounds L true)).isEmpty
 | (i, true) :: p, listed => (Region.ready md ops listed).contains i && Region.free md ops listed i && Region.waitsB md ops L i && Region.planLB md ops L p (listed.setIfInBounds i true)
 | (i, false) :: p, listed => (Region.ready md ops listed) == [i] && Region.planLB md ops L p (listed.setIfInBounds i true)
def wpPlanL (P : Program) (ops : Array Oper) (C : World → Prop) (Q : Exit → Act → World → Prop) (L : Nat) : List (Nat × Bool) → Act → World → Prop
 | [], a, w => ∃ o, ops[L]? = some o ∧ Region.wanted o (yielded ops a.tmps) = true ∧ o.wp P a w (fun a' w' => ∀ w'', Below w'.heap.size w' w'' → Q .normal a' w'') Q
 | (i, true) :: p, a, w => ∃ o v, ops[i]? = some o ∧ SoftIn P ops C o v a ∧ ∀ w'', Below w.heap.size w w'' → wpPlanL P ops C Q L p (a.put o.dst v) w''
 | (i, false) :: p, a, w => ∃ o, ops[i]? = some o ∧ if Region.wanted o (yielded ops a.tmps) then o.wp P a w (fun a' w' => C w' ∧ ∀ w'', Below w'.heap.size w' w'' → wpPlanL P ops C Q L p a' w'') Q
  else ∀ w'', Below w.heap.size w w'' → wpPlanL P ops C Q L p (a.put o.dst undef) w''
theorem wpAnyL_plan (hCg : ∀ w w', C w → Below w.heap.size w w' → C w') (hs : Region.noSelect ops = true) (hQ : ∀ c a d v w, Q (.panic c) (a.put d v) w → Q (.panic c) a w) :
  ∀ (p : List (Nat × Bool)) (listed : Array Bool) (a : Act) (w : World), C w → Region.planLB md ops L p listed = true → wpPlanL P ops C Q L p a w → wpAnyL P md ops C Q L (p.length + 1) listed a w
 | [], listed, a, w, _, hB, h => by
  obtain ⟨o, ho, hw, h⟩ := h
  simp only [Region.planLB, Bool.and_eq_true, beq_iff_eq] at hB
  obtain ⟨hr, hE⟩ := hB
  refine ⟨fun h => (by rw [hr] at h; cases h), fun j hj => ?_⟩
  rw [hr] at hj
  obtain rfl := List.mem_singleton.1 hj
  unfold wpOp
  rw [ho]
  show if Region.wanted o (yielded ops a.tmps) = true then _ else _
  rw [if_pos hw]
  exact .inl (Oper.wp_mono (fun a' w' h' => ⟨fun hne => absurd rfl hne, fun w'' hw'' => ⟨by simpa using hE, h' w'' hw''⟩⟩) h)
 | (i, true) :: p, listed, a, w, hC, hB, h => by
  obtain ⟨o, v, ho, hy, hK⟩ := h
  simp only [Region.planLB, Bool.and_eq_true] at hB
  obtain ⟨⟨⟨hr, hf⟩, hL⟩, hB'⟩ := hB
  have hr' : i ∈ Region.ready md ops listed := by simpa using hr
  exact wpAnyL_first hCg ho (Region.noSelect_spec hs) hQ hL (p.length + 1) listed a w (Region.free_spec ho hf) hr' hy hC fun w' hw' => wpAnyL_plan hCg hs hQ p _ _ w' (hCg _ _ hC hw') hB' (hK w' hw')
 | (i, false) :: p, listed, a, w, hC, hB, h => by
  obtain ⟨o, ho, h⟩ := h
  simp only [Region.planLB, Bool.and_eq_true, beq_iff_eq] at hB
  obtain ⟨hr, hB'⟩ := hB
  refine ⟨fun h => (by rw [hr] at h; cases h), fun j hj => ?_⟩
  rw [hr] at hj
  obtain rfl := List.mem_singleton.1 hj
  unfold wpOp
  rw [ho]
  show if Region.wanted o (yielded ops a.tmps) = true then _ else _
  split
  ·rename_i hw
   rw [if_pos hw] at h
   exact .inl (Oper.wp_mono (fun a' w' h' => ⟨fun _ => h'.1, fun w'' hw'' => wpAnyL_plan hCg hs hQ p _ a' w'' (hCg _ _ h'.1 hw'') hB' (h'.2 w'' hw'')⟩) h)
  ·rename_i hw
   rw [if_neg hw] at h
   exact ⟨fun _ => hC, fun w'' hw'' => wpAnyL_plan hCg hs hQ p _ _ w'' (hCg _ _ hC hw'') hB' (h w'' hw'')⟩
def wpPlanLA (P : Program) (ops : Array Oper) (C : World → Prop) (Q : Exit → Act → World → Prop) (L : Nat) (p : List (Nat × Bool)) (a : Act) (W0 : World) : Prop :=
 ∀ w'', Below W0.heap.size W0 w'' → wpPlanL P ops C Q L p a w''
theorem wpAny_planL {a : Act} {W : World} (p : List (Nat × Bool)) (B L : Nat)
  (hB : (p.length + 1 == ops.size && Region.noSelect ops && Region.planLB .any ops L p (Array.replicate ops.size false)) = true) (hBW : B ≤ W.heap.size)
  (hQ : ∀ c a d v w, Q (.panic c) (a.put d v) w → Q (.panic c) a w)
  (h : wpPlanLA P ops (Below B W) Q L p a W) : wpAny P .any ops Q ops.size (Array.replicate ops.size false) a { W with drawn := W.drawn + 1 } := by
 simp only [Bool.and_eq_true, beq_iff_eq] at hB
 obtain ⟨⟨hlen, hs⟩, hP⟩ := hB
 have hCg : ∀ w w', Below B W w → Below w.heap.size w w' → Below B W w' := fun w w' h1 h2 => h1.trans (h2.mono (Nat.le_trans hBW h1.size))
 have := wpAnyL_plan (P := P) (Q := Q) (C := Below B W) (md := .any) (ops := ops) hCg hs hQ p (Array.replicate ops.size false) a { W with drawn := W.drawn + 1 } ((Below.refl B W).drew) hP (h _ ((Below.refl _ W).drew))
 rw [hlen] at this
 exact wpAny_of_L _ _ _ _ this
theorem wp_region_planL {id : Nat} {a : Act} {W : World} (p : List (Nat × Bool)) (B L : Nat) (hm : P.follows .mixedOrders = true)
  (hB : (p.length + 1 == ops.size && Region.noSelect ops && Region.planLB .any ops L p (Array.replicate ops.size false)) = true) (hBW : B ≤ W.heap.size)
  (hQ : ∀ c a d v w, Q (.panic c) (a.put d v) w → Q (.panic c) a w)
  (h : wpPlanLA P ops (Below B W) Q L p a W) : (Code.region id ops true).wp P Q a W := wp_region_any hm (wpAny_planL p B L hB hBW hQ h)
theorem wpIn_region_planL {id n lr : Nat} {a : Act} {W : World} (p : List (Nat × Bool)) (B L : Nat) (hm : P.follows .mixedOrders = true)
  (hB : (p.length + 1 == ops.size && Region.noSelect ops && Region.planLB .any ops L p (Array.replicate ops.size false)) = true) (hnd : Region.noDefer ops = true) (hQl : ¬ LetsOut Q) (hBW : B ≤ W.heap.size)
  (hQ : ∀ c a d v w, Q (.panic c) (a.put d v) w → Q (.panic c) a w)
  (h : wpPlanLA P ops (Below B W) Q L p a W) : (Code.region id ops true).wpIn (Fence.wide.inRound lr) n P Q a W := wpIn_region_any hm (wpAnyIn_of hnd hQl _ _ _ _ (wpAny_planL p B L hB hBW hQ h))
theorem wpPlanLA_skip {l : List Oper} {i : Nat} {p : List (Nat × Bool)} {a : Act} {W0 : World} (o : Oper) (ho : l[i]? = some o) (hw : Region.wanted o (yielded l.toArray a.tmps) = false)
  (h : wpPlanLA P l.toArray C Q L p (a.put o.dst undef) W0) : wpPlanLA P l.toArray C Q L ((i, true) :: p) a W0 :=
 fun w hg => ⟨o, undef, by rw [List.getElem?_toArray]; exact ho, .inr ⟨hw, rfl⟩, fun w2 hg2 => h w2 (hg.trans (hg2.mono hg.size))⟩
theorem wpPlanLA_soft {l : List Oper} {B i : Nat} {W W0 : World} {p : List (Nat × Bool)} {a : Act} (o : Oper) (v : Value) (ho : l[i]? = some o) (hw : Region.wanted o (yielded l.toArray a.tmps) = true)
  (hv : ∀ w, Below B W w → (∀ b o, b < B → w.cell? ⟨b, o, none⟩ = W.cell? ⟨b, o, none⟩) → o.softAt P a w v)
  (h : wpPlanLA P l.toArray (Below B W) Q L p (a.put o.dst v) W0) : wpPlanLA P l.toArray (Below B W) Q L ((i, true) :: p) a W0 :=
 fun w hg => ⟨o, v, by rw [List.getElem?_toArray]; exact ho, .inl ⟨hw, fun w hb => hv w hb (fun b o h => hb.cell (p := ⟨b, o, none⟩) h)⟩, fun w2 hg2 => h w2 (hg.trans (hg2.mono hg.size))⟩
theorem wpPlanLA_hard {l : List Oper} {i : Nat} {p : List (Nat × Bool)} {a : Act} {W0 : World} (o : Oper) (ho : l[i]? = some o) (hw : Region.wanted o (yielded l.toArray a.tmps) = true)
  (h : ∀ w, Below W0.heap.size W0 w → ∀ K : Act → World → Prop, (∀ a w, C w → wpPlanLA P l.toArray C Q L p a w → K a w) → o.wp P a w K Q) : wpPlanLA P l.toArray C Q L ((i, false) :: p) a W0 :=
 fun w hg => ⟨o, by rw [List.getElem?_toArray]; exact ho, by rw [if_pos hw]; exact h w hg _ fun _ _ h1 h2 => ⟨h1, h2⟩⟩
theorem wpPlanLA_last {l : List Oper} {a : Act} {W0 : World} (o : Oper) (ho : l[L]? = some o) (hw : Region.wanted o (yielded l.toArray a.tmps) = true)
  (h : ∀ w, Below W0.heap.size W0 w → ∀ K : Act → World → Prop, (∀ a w, (∀ w'', Below w.heap.size w w'' → Q .normal a w'') → K a w) → o.wp P a w K Q) : wpPlanLA P l.toArray C Q L [] a W0 :=
 fun w hg => ⟨o, by rw [List.getElem?_toArray]; exact ho, hw, h w hg _ fun _ _ h1 => h1⟩
end
end Go
