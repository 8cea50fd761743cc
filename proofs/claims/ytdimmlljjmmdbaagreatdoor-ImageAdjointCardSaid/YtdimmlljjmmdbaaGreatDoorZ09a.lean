/- A part of the proofs about chapter 7 (image): contracts of functions and plain laws (Split, Base, Open, Util, Model, V1, V2, Float, Plan, PlanF). -/
import Derived.Deep.QuietTactic
import Derived.BigQuiet
import Derived.Below
import Derived.WalkKit
import Derived.Sort.Grow
import Derived.WalkLawsBesides
import Derived.WalkSpells
import Derived.Outline
import Derived.KernelRfl
import Derived.RegionTactic
import Derived.Deep.RegionHeld3
import Derived.Deep.DeepCutAuto
import Derived.Lib.Hide
import Derived.ProofKit
import Derived.Deep.Slices
import Derived.Carry
import Derived.OpenShut
import Derived.Laws.MakeOwn
import Derived.Laws.CopyOwn
import Derived.Laws.AppendOwnNone
import Derived.Test.YtdimmlljjmmdbaaGreatDoorProg
set_option linter.all false
/- A region that draws its order: a front part that only reads and calls what reads or grows, every operation of which the rest waits for; then a rest that can come up in one order only. -/
namespace Go
section
variable {P : Program} {ops : Array Oper} {md : Region.Mode} {C : World → Prop}
/-- only front operations come up, till all of them have; then E. -/
def wpFront (P : Program) (md : Region.Mode) (ops : Array Oper) (C : World → Prop) (E : Array Bool → Act → Prop) : Nat → Array Bool → Act → Prop
 | 0, listed, a => E listed a
 | fuel + 1, listed, a => Region.ready md ops listed ≠ [] ∧ ∀ i ∈ Region.ready md ops listed, qOp P ops C i (wpFront P md ops C E fuel (listed.setIfInBounds i true)) a
theorem wpAny_of_front {E : Array Bool → Act → Prop} {Q' : Exit → Act → World → Prop} {r : Nat} (hE : ∀ listed a w, C w → E listed a → wpAny P md ops Q' r listed a w) : ∀ (fuel : Nat) (listed : Array Bool) (a : Act) (w : World), C w →
  wpFront P md ops C E fuel listed a → wpAny P md ops Q' (fuel + r) listed a w
 | 0, _, _, _, hw, h => by rw [Nat.zero_add]; exact hE _ _ _ hw h
 | fuel + 1, _, _, _, hw, h => by
  rw [Nat.add_right_comm]
  exact ⟨fun h0 => absurd h0 h.1, fun i hi => wpOp_of_qOp hw (fun a' w' hw' => wpAny_of_front hE fuel _ a' w' hw') (h.2 i hi)⟩
/-- The state of a front part of m operations: what is listed is closed downwards, lies in the front, and 'left' of the front are still to come. -/
structure Front (md : Region.Mode) (ops : Array Oper) (m : Nat) (left : Nat) (listed : Array Bool) : Prop where
 size : listed.size = ops.size
 down : ∀ i o, ops[i]? = some o → listed.getD i false = true → ∀ e ∈ o.after, Region.binds md e = true → listed.getD e.on false = true
 front : ∀ i, m ≤ i → listed.getD i false = false
 count : ((List.range m).filter fun i => !listed.getD i false).length = left
def Region.frontB (md : Region.Mode) (ops : Array Oper) (m : Nat) : Bool :=
 m ≤ ops.size &&
 ((List.range m).all fun j => (List.range (m + 1)).any fun h => j < h && h < ops.size && ((ops[h]?).map fun o => o.after.any fun e => Region.binds md e && e.on == j).getD false) &&
 ((List.range ops.size).all fun s => s ≤ m || ((ops[s]?).map fun o => o.after.any fun e => Region.binds md e && m ≤ e.on).getD true)
theorem getD_false_true {listed : Array Bool} {i : Nat} (hi : i < listed.size) : listed.getD i true = listed.getD i false := by
 simp [hi]
theorem Front.not_ready {m left : Nat} {listed : Array Bool} (hB : Region.frontB md ops m = true) (hf : Front md ops m (left + 1) listed) : ∀ i ∈ Region.ready md ops listed, i < m := by
 intro i hi
 simp only [Region.frontB, Bool.and_eq_true, decide_eq_true_eq, List.all_eq_true, List.mem_range, List.any_eq_true, Bool.or_eq_true] at hB
 obtain ⟨⟨hm, hA⟩, hS⟩ := hB
 rcases Nat.lt_or_ge i m with h | h
 ·exact h
 exfalso
 obtain ⟨_, o, ho, hall⟩ := mem_ready.1 hi
 have him : i = m := by
  rcases hS i (Array.getElem?_eq_some_iff.1 ho).1 with h1 | h1
  ·omega
  ·rw [ho] at h1
   simp only [Option.map_some, Option.getD_some, Array.any_eq_true, Bool.and_eq_true, decide_eq_true_eq] at h1
   obtain ⟨q, hq, hb, hle⟩ := h1
   have h2 := hall _ (Array.getElem_mem hq) hb
   rw [hf.front _ hle] at h2
   cases h2
 subst him
 -- everything in the front is listed
 have key : ∀ d j, j < i → i - j ≤ d → listed.getD j false = true := by
  intro d
  induction d with
  | zero => intro j hj hd; omega
  | succ d ih =>
   intro j hj hd
   obtain ⟨h', hh', h3⟩ := hA j hj
   have ⟨⟨h4, h5⟩, h6⟩ := h3
   obtain ⟨oh, hoh⟩ : ∃ oh, ops[h']? = some oh := ⟨ops[h'], Array.getElem?_eq_getElem h5⟩
   rw [hoh] at h6
   simp only [Option.map_some, Option.getD_some, Array.any_eq_true, Bool.and_eq_true, beq_iff_eq] at h6
   obtain ⟨q, hq, hb, he⟩ := h6
   rcases Nat.lt_or_ge h' i with hlt | hge
   ·have := hf.down h' oh hoh (ih h' hlt (by omega)) _ (Array.getElem_mem hq) hb
    rw [he] at this; exact this
   ·have : h' = i := by omega
    subst this
    rw [ho] at hoh
    cases hoh
    have := hall _ (Array.getElem_mem hq) hb
    rw [he] at this; exact this
 have h0 : ((List.range i).filter fun j => !listed.getD j false) = [] := by
  rw [List.filter_eq_nil_iff]
  intro j hj
  rw [List.mem_range] at hj
  rw [key (i - j) j hj (Nat.le_refl _)]
  simp
 have hc := hf.count
 rw [h0] at hc
 simp at hc
theorem filter_len_set {m i : Nat} {listed : Array Bool} (hi : i < m) (hs : i < listed.size) (hu : listed.getD i false = false) :
  ((List.range m).filter fun j => !(listed.setIfInBounds i true).getD j false).length + 1 = ((List.range m).filter fun j => !listed.getD j false).length := by
 have key : ∀ n, ((List.range n).filter fun j => !(listed.setIfInBounds i true).getD j false).length + (if i < n then 1 else 0) = ((List.range n).filter fun j => !listed.getD j false).length := by
  intro n
  induction n with
  | zero => simp
  | succ n ih =>
   rw [List.range_succ, List.filter_append, List.filter_append, List.length_append, List.length_append]
   by_cases hin : i = n
   ·subst hin
    have h1 : (listed.setIfInBounds i true).getD i false = true := by simp [hs]
    simp only [Nat.lt_irrefl, if_false, Nat.add_zero] at ih
    have h1' : (listed.setIfInBounds i true)[i]?.getD false = true := by simpa using h1
    have hu' : listed[i]?.getD false = false := by simpa using hu
    simp only [List.filter_cons, h1, hu, Bool.not_true, Bool.not_false, List.filter_nil, List.length_nil, List.length_cons, if_true, Bool.false_eq_true, if_false]
    rw [if_pos (show i < i + 1 by omega)]
    omega
   ·have h2 : (listed.setIfInBounds i true).getD n false = listed.getD n false := getD_set_ne false hin
    simp only [List.filter_cons, h2, List.filter_nil]
    by_cases hlt : i < n
    ·rw [if_pos hlt] at ih; rw [if_pos (show i < n + 1 by omega)]; omega
    ·rw [if_neg hlt] at ih; rw [if_neg (show ¬ i < n + 1 by omega)]; omega
 have := key m
 rw [if_pos hi] at this
 exact this
theorem Front.step {m left i : Nat} {listed : Array Bool} (hf : Front md ops m (left + 1) listed) (hr : i ∈ Region.ready md ops listed) (hi : i < m) : Front md ops m left (listed.setIfInBounds i true) := by
 obtain ⟨hu, o, ho, hall⟩ := mem_ready.1 hr
 have hlt : i < ops.size := (Array.getElem?_eq_some_iff.1 ho).1
 have hs : i < listed.size := by rw [hf.size]; exact hlt
 refine ⟨by simp [hf.size], fun j oj hj hl e he hb => ?_, fun j hj => ?_, ?_⟩
 ·by_cases hij : i = j
  ·subst hij
   rw [ho] at hj; cases hj
   exact getD_set_true (hall e he hb)
  ·rw [getD_set_ne false hij] at hl
   exact getD_set_true (hf.down j oj hj hl e he hb)
 ·rw [getD_set_ne false (by omega)]; exact hf.front j hj
 ·have := filter_len_set hi hs (by rw [← getD_false_true hs]; exact hu)
  have hc := hf.count
  omega
theorem wpFront_first {m : Nat} (hB : Region.frontB md ops m = true) {E : Array Bool → Act → Prop} {i : Nat} {oi : Oper} {v : Value} (hi : ops[i]? = some oi) (hsel : ∀ (j : Nat) (o : Oper) cs b, ops[j]? = some o → o.op ≠ .select cs b) :
  ∀ (fuel : Nat) (listed : Array Bool) (a : Act), Front md ops m (fuel + 1) listed →
   (∀ j oj, ops[j]? = some oj → j ≠ i → listed.getD j true = false → (∀ e ∈ oj.after, Region.binds md e = true → e.on ≠ i) → oi.apart ops oj = true) →
   i ∈ Region.ready md ops listed → YieldsIn P ops C oi v a →
   wpFront P md ops C E fuel (listed.setIfInBounds i true) (a.put oi.dst v) → wpFront P md ops C E (fuel + 1) listed a := by
 intro fuel
 induction fuel with
 | zero =>
  intro listed a hF hfree hr hy H
  refine ⟨fun h => (by rw [h] at hr; cases hr), fun j hj => ?_⟩
  by_cases hji : j = i
  ·subst hji; exact hy.qOp hi H
  ·exfalso
   have h1 := hF.step hr (hF.not_ready hB i hr)
   have h2 := ready_mono hj hji
   have hjm := hF.not_ready hB j hj
   have h3 : j ∈ (List.range m).filter fun k => !(listed.setIfInBounds i true).getD k false := by
    rw [List.mem_filter, List.mem_range]
    refine ⟨hjm, ?_⟩
    obtain ⟨hu, o, ho, _⟩ := mem_ready.1 h2
    rw [getD_false_true (by rw [h1.size]; exact (Array.getElem?_eq_some_iff.1 ho).1)] at hu
    rw [hu]; rfl
   have h4 := h1.count
   rw [List.length_eq_zero_iff] at h4
   rw [h4] at h3
   cases h3
 | succ fuel ih =>
  intro listed a hF hfree hr hy H
  refine ⟨fun h => (by rw [h] at hr; cases hr), fun j hj => ?_⟩
  by_cases hji : j = i
  ·subst hji; exact hy.qOp hi H
  ·have h1 := H.2 j (ready_mono hj hji)
   obtain ⟨hjun, oj, hoj, hall⟩ := mem_ready.1 hj
   have hnot : ∀ e ∈ oj.after, Region.binds md e = true → e.on ≠ i := fun e he hb heq => by
    have h1 := hall e he hb
    have h0 := (mem_ready.1 hr).1
    rw [heq] at h1
    rcases Nat.lt_or_ge i listed.size with h' | h'
    ·simp [h'] at h0 h1; rw [h0] at h1; cases h1
    ·simp [Array.getElem?_eq_none h'] at h1
   have h2 := qOp_put hoj (hfree j oj hoj hji hjun hnot) (fun cs b => hsel i oi cs b hi) (fun cs b => hsel j oj cs b hoj) hy h1
   have hfree' : ∀ k ok, ops[k]? = some ok → k ≠ i → (listed.setIfInBounds j true).getD k true = false →
     (∀ e ∈ ok.after, Region.binds md e = true → e.on ≠ i) → oi.apart ops ok = true := fun k ok hk hki hun hno => by
    refine hfree k ok hk hki ?_ hno
    by_cases hjk : j = k
    ·subst hjk; exact hjun
    ·rw [getD_set_ne true hjk] at hun; exact hun
   refine qOp_mono (fun a' h3 => ih (listed.setIfInBounds j true) a' (hF.step hj (hF.not_ready hB j hj)) hfree' (ready_mono hr (Ne.symm hji)) h3.1 ?_) h2
   rw [Array.setIfInBounds_comm _ _ hji]
   exact h3.2
def Region.lexFront (md : Region.Mode) (ops : Array Oper) : Nat → Nat → Array Bool → Bool
 | 0, _, _ => true
 | fuel + 1, k, listed => (Region.ready md ops listed).contains k && Region.free md ops listed k && Region.lexFront md ops fuel (k + 1) (listed.setIfInBounds k true)
theorem wpFront_lex {m : Nat} (hB : Region.frontB md ops m = true) {E : Array Bool → Act → Prop} (hs : Region.noSelect ops = true) : ∀ (l : List Oper) (k : Nat) (listed : Array Bool) (a : Act), (∀ j, j < l.length → l[j]? = ops[k + j]?) →
  Front md ops m l.length listed → Region.lexFront md ops l.length k listed = true → wpQuiet P ops C (fun a => E ((List.range' k l.length).foldl (fun b i => b.setIfInBounds i true) listed) a) l a → wpFront P md ops C E l.length listed a
 | [], _, _, _, _, _, _, h => h
 | o :: l, k, listed, a, hl, hF, hL, h => by
  have h0 : ops[k]? = some o := by simpa using (hl 0 (by simp)).symm
  simp only [List.length_cons, Region.lexFront, Bool.and_eq_true] at hL
  obtain ⟨⟨hr, hf⟩, hL'⟩ := hL
  have hr' : k ∈ Region.ready md ops listed := by simpa using hr
  have hst : qOp P ops C k (wpQuiet P ops C (fun a => E ((List.range' k (l.length + 1)).foldl (fun b i => b.setIfInBounds i true) listed) a) l) a := by unfold qOp; simp only [h0]; exact h
  obtain ⟨v, hy, hK⟩ := yieldsIn_of_qOp h0 hst
  refine wpFront_first hB h0 (Region.noSelect_spec hs) l.length listed a hF (Region.free_spec h0 hf) hr' hy ?_
  exact wpFront_lex hB hs l (k + 1) _ _ (fun j hj => by have := hl (j + 1) (by simpa using hj); simpa [Nat.add_assoc, Nat.add_comm 1 j] using this) (hF.step hr' (hF.not_ready hB k hr')) hL' hK
/-- the rest can come up in one order only -/
def Region.restB (md : Region.Mode) (ops : Array Oper) : Nat → Nat → Array Bool → Bool
 | 0, _, listed => (Region.ready md ops listed).isEmpty
 | fuel + 1, k, listed => (Region.ready md ops listed) == [k] && Region.restB md ops fuel (k + 1) (listed.setIfInBounds k true)
theorem wpAny_rest {Q : Exit → Act → World → Prop} : ∀ (l : List Oper) (k : Nat) (listed : Array Bool) (a : Act) (w : World), (∀ j, l[j]? = ops[k + j]?) →
  Region.restB md ops l.length k listed = true → wpList P ops Q l a w → wpAny P md ops Q l.length listed a w
 | [], _, _, _, _, _, hB, h => ⟨by simpa [Region.restB] using hB, h⟩
 | o :: l, k, listed, a, w, hl, hB, h => by
  have h0 : ops[k]? = some o := by simpa using (hl 0).symm
  simp only [List.length_cons, Region.restB, Bool.and_eq_true, beq_iff_eq] at hB
  obtain ⟨hr, hB'⟩ := hB
  refine ⟨fun h => (by rw [hr] at h; cases h), fun i hi => ?_⟩
  rw [hr] at hi
  obtain rfl := List.mem_singleton.1 hi
  have hn := fun (a' : Act) (w' : World) => wpAny_rest (Q := Q) l (i + 1) (listed.setIfInBounds i true) a' w' (fun j => by have := hl (j + 1); simpa [Nat.add_assoc, Nat.add_comm 1 j] using this) hB'
  have : wpOp P ops Q i (wpList P ops Q l) a w := by
   unfold wpOp
   rw [h0]
   exact h
  exact wpOp_mono hn this
def Region.splitB (md : Region.Mode) (ops : Array Oper) (m : Nat) : Bool :=
 Region.noSelect ops && Region.frontB md ops m && Region.lexFront md ops m 0 (Array.replicate ops.size false) &&
 Region.restB md ops (ops.size - m) m ((List.range' 0 m).foldl (fun b i => b.setIfInBounds i true) (Array.replicate ops.size false))
theorem wp_region_split {id : Nat} {Q : Exit → Act → World → Prop} {a : Act} {w : World} (l1 l2 : List Oper) (hm : P.follows .mixedOrders = true) (hB : Region.splitB .any (l1 ++ l2).toArray l1.length = true) (hC : C { w with drawn := w.drawn + 1 })
  (h : wpQuiet P (l1 ++ l2).toArray C (fun a' => ∀ w', C w' → wpList P (l1 ++ l2).toArray Q l2 a' w') l1 a) : (Code.region id (l1 ++ l2).toArray true).wp P Q a w := by
 simp only [Region.splitB, Bool.and_eq_true] at hB
 obtain ⟨⟨⟨hs, hF⟩, hL⟩, hR⟩ := hB
 refine wp_region_any hm ?_
 have hsz : (l1 ++ l2).toArray.size = l1.length + l2.length := by simp
 have hsub : (l1 ++ l2).toArray.size - l1.length = l2.length := by omega
 rw [hsub] at hR
 have hfr : Front .any (l1 ++ l2).toArray l1.length l1.length (Array.replicate (l1 ++ l2).toArray.size false) := by
  have hg : ∀ (n i : Nat), (Array.replicate n false).getD i false = false := by
   intro n i
   rcases Nat.lt_or_ge i n with h | h <;> simp [h]
  refine ⟨by simp, fun i o ho hl => ?_, fun i _ => hg _ i, ?_⟩
  ·rw [hg] at hl; cases hl
  ·rw [List.filter_eq_self.2 (fun i _ => by rw [hg]; rfl)]; simp
 have := wpAny_of_front (P := P) (md := .any) (ops := (l1 ++ l2).toArray) (C := C) (r := l2.length) (Q' := Q)
  (E := fun listed a' => listed = (List.range' 0 l1.length).foldl (fun b i => b.setIfInBounds i true) (Array.replicate (l1 ++ l2).toArray.size false) ∧ ∀ w', C w' → wpList P (l1 ++ l2).toArray Q l2 a' w')
  (fun listed a' w' hw' hE => by
   obtain ⟨rfl, hE⟩ := hE
   exact wpAny_rest l2 l1.length _ a' w' (fun j => by simp [List.getElem?_append_right]) hR (hE w' hw'))
  l1.length (Array.replicate (l1 ++ l2).toArray.size false) a { w with drawn := w.drawn + 1 } hC
  (wpFront_lex hF hs l1 0 _ a (fun j hj => by simp [List.getElem?_append_left hj]) hfr hL
   (by
    refine cast ?_ h
    congr 1
    funext a'
    simp))
 simp only [hsz] at this ⊢
 exact this
end
end Go
namespace Go
open Go.RowKit
/-- how far a world has grown -/
structure GB where
 d : Nat
 os : Array Obj
 deriving Inhabited
def gw (W : World) (p : GB) : World := { W with heap := W.heap ++ p.os, drawn := p.d }
theorem gw_heap (W : World) (p : GB) (k : Nat) (h : k < W.heap.size) : (gw W p).heap[k]? = W.heap[k]? := by
 show (W.heap ++ p.os)[k]? = _
 rw [Array.getElem?_append_left h]
theorem gw_below (W : World) (p : GB) : Below W.heap.size W (gw W p) :=
 ⟨rfl, rfl, rfl, by show _ ≤ (W.heap ++ p.os).size; simp, fun k hk => gw_heap W p k hk⟩
theorem gw_of {W w' : World} (h : Below W.heap.size W w') : ∃ p : GB, w' = gw W p := by
 refine ⟨⟨w'.drawn, w'.heap.extract W.heap.size w'.heap.size⟩, ?_⟩
 have h1 : w'.heap = W.heap ++ w'.heap.extract W.heap.size w'.heap.size := by
  apply Array.ext_getElem?
  intro i
  rcases Nat.lt_or_ge i W.heap.size with hi | hi
  ·rw [Array.getElem?_append_left hi]; exact h.block i hi
  ·rw [Array.getElem?_append_right hi, Array.getElem?_extract]
   have hs := h.size
   rcases Nat.lt_or_ge i w'.heap.size with h2 | h2
   ·rw [if_pos (by omega)]; congr 1; omega
   ·rw [Array.getElem?_eq_none h2, if_neg (by omega)]
 have h2 := h.os
 have h3 := h.tape
 have h4 := h.output
 cases w'
 simp only [gw] at *
 congr 1
theorem gw_start (W : World) : ∃ p : GB, { W with drawn := W.drawn + 1 } = gw W p := ⟨⟨W.drawn + 1, #[]⟩, by simp [gw]⟩
theorem cell?_gw (W : World) (p : GB) (b o : Nat) (h : b < W.heap.size) : (gw W p).cell? ⟨b, o, none⟩ = W.cell? ⟨b, o, none⟩ := World.cell?_of_block (gw_heap W p b h)
attribute [go_sem] cell?_gw
theorem Calls.gw_of {P : Program} {f : FuncId} {args : Array Value} {W : World} {p : GB} {v : Value}
  (h : Calls P f args (gw W p) fun e w' => e = .returned v ∧ Below (gw W p).heap.size (gw W p) w') : Calls P f args (gw W p) fun e w'' => e = .returned v ∧ ∃ q : GB, w'' = gw W q :=
 h.mono fun _ _ ⟨he, hb⟩ => ⟨he, Go.gw_of ((gw_below W p).trans (hb.mono (gw_below W p).size))⟩
theorem wp_region_splitG {P : Program} {id : Nat} {Q : Exit → Act → World → Prop} {a : Act} {W : World} (m : Nat) {l : List Oper} (hm : P.follows .mixedOrders = true) (hB : Region.splitB .any l.toArray m = true)
  (h : wpQuiet P l.toArray (fun w' => ∃ p : GB, w' = gw W p) (fun a' => ∀ w', (∃ p : GB, w' = gw W p) → wpList P l.toArray Q (l.drop m) a' w') (l.take m) a) : (Code.region id l.toArray true).wp P Q a W := by
 have hml : m ≤ l.length := by
  simp only [Region.splitB, Region.frontB, Bool.and_eq_true, decide_eq_true_eq] at hB
  simpa using hB.1.1.2.1.1
 have h1 := wp_region_split (P := P) (id := id) (Q := Q) (a := a) (w := W) (C := fun w' => ∃ p : GB, w' = gw W p) (l.take m) (l.drop m) hm
 rw [List.take_append_drop, List.length_take, Nat.min_eq_left hml] at h1
 exact h1 hB (gw_start W) h
/-- a region that draws its order, all of whose operations read or call what reads or grows -/
theorem wp_region_growG {P : Program} {id : Nat} {Q : Exit → Act → World → Prop} {a : Act} {W : World} {l : List Oper} (hm : P.follows .mixedOrders = true) (hB : Region.lexB .any l.toArray = true)
  (h : wpQuiet P l.toArray (fun w' => ∃ p : GB, w' = gw W p) (fun a' => ∀ w', (∃ p : GB, w' = gw W p) → Q .normal a' w') l a) : (Code.region id l.toArray true).wp P Q a W :=
 wp_region_quiet (C := fun w' => ∃ p : GB, w' = gw W p) hm hB (gw_start W) (by simpa using h)
theorem gw_out {W : World} {Q : World → Prop} (h : ∀ w', Below W.heap.size W w' → Q w') : ∀ w', (∃ p : GB, w' = gw W p) → Q w' := by
 rintro w' ⟨p, rfl⟩
 exact h _ (gw_below W p)
end Go
namespace Go.RowKit
theorem Below.call {B : Nat} {a w w' : World} (h : Below B a w) (hb : Below w.heap.size w w') : a.heap.size = B → Below B a w' := fun e => h.trans (hb.mono (e ▸ h.size))
end Go.RowKit
namespace Go.Proofs.YtdimmlljjmmdbaaGreatDoor
open Go.RowKit
theorem heap_new {w : World} {o : Obj} {k : Nat} (h : k = w.heap.size) : (w.alloc o).heap[k]? = some o := by subst h; exact heap_alloc_new _ _
theorem heap_old {w : World} {o x : Obj} {k : Nat} (h : k < w.heap.size) (hx : w.heap[k]? = some x) : (w.alloc o).heap[k]? = some x := (Below.heap_alloc _ _ _ h).trans hx
theorem cell_at {W : World} {b i : Nat} {cs : Array Value} {t : TypeId} {f : Nat × Nat} {v : Value} (h : W.heap[b]? = some (.cells cs t f)) (hi : cs[i]? = some v) : W.cell? ⟨b, i, none⟩ = some v := by
 simp [World.cell?, h, hi]
theorem free_at {W : World} {b i : Nat} {cs : Array Value} {t : TypeId} (h : W.heap[b]? = some (.cells cs t (0, 0))) : W.frozen? ⟨b, i, none⟩ = false := by
 simp [World.frozen?, h]
theorem ret_int {k : IntKind} {a b : Int} (h : a = b) : Ending.returned (.int k a) = .returned (.int k b) := by rw [h]
theorem bcell {W w1 : World} (hb : Below W.heap.size W w1) : (∀ b o, b < W.heap.size → w1.cell? ⟨b, o, none⟩ = W.cell? ⟨b, o, none⟩) ∧ (∀ b o, b < W.heap.size → w1.frozen? ⟨b, o, none⟩ = W.frozen? ⟨b, o, none⟩) :=
 ⟨fun b o h => hb.cell (p := ⟨b, o, none⟩) h, fun b o h => hb.frozen (p := ⟨b, o, none⟩) h⟩
/-- n elements of 'size' cells each, read at A. -/
def RdS (w : World) (size : Nat) (A : Option Addr) (n : Nat) (xs : List Value) : Prop :=
 xs.length = n * size ∧ (0 < n → ∃ b off, A = some ⟨b, off, none⟩ ∧ b < w.heap.size ∧ ∀ j, j < xs.length → w.cell? ⟨b, off+j, none⟩ = xs[j]?)
theorem RdS.at {w : World} {size n : Nat} {A : Option Addr} {xs : List Value} (h : RdS w size A n xs) {k : Nat} (hk : k < n) : 
 ∃ b off, A = some ⟨b, off, none⟩ ∧ b < w.heap.size ∧ ∀ j, j < size → w.cell? ⟨b, off + (k * size + j), none⟩ = xs[k * size + j]? := by
 obtain ⟨h1, h2⟩ := h
 obtain ⟨b, off, rfl, hb, hc⟩ := h2 (by omega)
 refine ⟨b, off, rfl, hb, fun j hj => hc _ ?_⟩
 rw [h1]
 calc k * size + j < k * size + size := by omega
  _ = (k+1) * size := by rw [Nat.succ_mul]
  _ ≤ n * size := Nat.mul_le_mul_right _ hk
theorem RdS.below {w w' : World} {size n : Nat} {A : Option Addr} {xs : List Value} (h : RdS w size A n xs) (hb : Below w.heap.size w w') : RdS w' size A n xs := by
 obtain ⟨h1, h2⟩ := h
 refine ⟨h1, fun hn => ?_⟩
 obtain ⟨b, off, rfl, hlt, hc⟩ := h2 hn
 exact ⟨b, off, rfl, Nat.lt_of_lt_of_le hlt hb.size, fun j hj => (hb.cell (p := ⟨b, off + j, none⟩) hlt).trans (hc j hj)⟩
/-- a whole block, read from its head -/
theorem RdS.of_block {w : World} {g size n : Nat} {cs : List Value} {t : TypeId} {f : Nat × Nat} (h : w.heap[g]? = some (.cells cs.toArray t f)) (hn : cs.length = n * size) : RdS w size (some ⟨g, 0, none⟩) n cs := by
 refine ⟨hn, fun _ => ⟨g, 0, rfl, (Array.getElem?_eq_some_iff.1 h).1, fun j hj => ?_⟩⟩
 simp [World.cell?, h]
theorem RdS.of_new {w : World} {g size n : Nat} {cs : List Value} {t : TypeId} {f : Nat × Nat} (hg : g = w.heap.size) (hn : cs.length = n * size) : RdS (w.alloc (.cells cs.toArray t f)) size (some ⟨g, 0, none⟩) n cs := by
 subst hg
 exact RdS.of_block (heap_alloc_new _ _) hn
theorem fin0 {w W w1 : World} (hB : Below w.heap.size w W) (hb : Below W.heap.size W w1) : Below w.heap.size w w1 := hB.trans (hb.mono hB.size)
/-- a slice that reads as a list of data, each of 'size' cells -/
def RdL {α : Type} (w : World) (size : Nat) (enc : α → List Value) (A : Option Addr) (l : List α) : Prop := RdS w size A l.length (l.flatMap enc)
theorem flat_get {α : Type} {size : Nat} {enc : α → List Value} (he : ∀ a, (enc a).length = size) : ∀ (l : List α) (k j : Nat) (x : α), l[k]? = some x → j < size → (l.flatMap enc)[k * size + j]? = (enc x)[j]?
 | [], k, j, x, h, _ => by simp at h
 | a :: l, 0, j, x, h, hj => by
  simp at h; subst h
  rw [List.flatMap_cons, Nat.zero_mul, Nat.zero_add, List.getElem?_append_left (by rw [he]; exact hj)]
 | a :: l, k+1, j, x, h, hj => by
  rw [List.flatMap_cons, List.getElem?_append_right (by rw [he, Nat.succ_mul]; omega), he]
  have := flat_get he l k j x (by simpa using h) hj
  rw [← this]
  congr 1
  rw [Nat.succ_mul]; omega
theorem RdL.at {α : Type} {w : World} {size : Nat} {enc : α → List Value} {A : Option Addr} {l : List α} (h : RdL w size enc A l) (he : ∀ a, (enc a).length = size) {k : Nat} (hk : k < l.length) :
  ∃ b off x, A = some ⟨b, off, none⟩ ∧ l[k]? = some x ∧ b < w.heap.size ∧ ∀ j, j < size → w.cell? ⟨b, off + k * size + j, none⟩ = (enc x)[j]? := by
 obtain ⟨b, off, hA, hb, hc⟩ := RdS.at h hk
 refine ⟨b, off, l[k], hA, List.getElem?_eq_getElem hk, hb, fun j hj => ?_⟩
 rw [Nat.add_assoc, hc j hj, flat_get he l k j l[k] (List.getElem?_eq_getElem hk) hj]
def encI (l : List Int) : List Value := l.map (Value.int .i64)
end Go.Proofs.YtdimmlljjmmdbaaGreatDoor
/- What an argument of plain data is: the leaves of a struct or an array, one behind the other; a slice of such. -/
namespace Go.Proofs.YtdimmlljjmmdbaaGreatDoor
open Go.RowKit Go.ChangeShapes Go.WideShapes
/-- the leaves of fields that lie one behind the other -/
def leavesF (P : Program) (L : TypeId → Option (List TypeId)) : List Field → Nat → Option (List TypeId)
 | [], _ => some []
 | f :: fs, off =>
  match L f.type with
  | some l => if f.offset = off ∧ P.cellsOf f.type = l.length then (leavesF P L fs (off + l.length)).map (l ++ ·) else none
  | none => none
/-- the leaves of a type of structs and arrays -/
def leaves (P : Program) : Nat → TypeId → Option (List TypeId)
 | 0, _ => none
 | n+1, t =>
  match P.underlying t with
  | some (.struct fs) => (leavesF P (leaves P n) fs.toList 0).bind fun ts => if P.cellsOf t = ts.length then some ts else none
  | some (.array k e) => (leaves P n e).bind fun l => if P.cellsOf e = l.length ∧ P.cellsOf t = k * l.length then some (List.replicate k l).flatten else none
  | some (.int _) => some [t]
  | some .string => some [t]
  | some .bool => some [t]
  | some (.slice _) => some [t]
  | _ => none
section
variable {H : Type} {enc : TypeId × Value → H} {P : Program} {w : World} {base : Nat} {spare : Nat → Bool} {held : Bool}
/-- each cell reads by its leaf's type -/
def LeafAll (enc : TypeId × Value → H) (P : Program) (w : World) (base : Nat) (spare : Nat → Bool) (held : Bool) : List TypeId → List Value → Prop
 | [], [] => True
 | t :: ts, c :: cs => (∃ n y, DataW.trod enc P w base spare held n t [c] = some y) ∧ LeafAll enc P w base spare held ts cs
 | _, _ => False
theorem LeafAll.append : ∀ {ts us : List TypeId} {cs ds : List Value}, LeafAll enc P w base spare held ts cs → LeafAll enc P w base spare held us ds → LeafAll enc P w base spare held (ts ++ us) (cs ++ ds)
 | [], _, [], _, _, h2 => h2
 | _ :: _, _, _ :: _, _, h, h2 => ⟨h.1, LeafAll.append h.2 h2⟩
 | [], _, _ :: _, _, h, _ => h.elim
 | _ :: _, _, [], _, h, _ => h.elim
theorem leavesF_all {L : TypeId → Option (List TypeId)} {cs : List Value} : ∀ (fs : List Field) (off : Nat) (ts : List TypeId), leavesF P L fs off = some ts →
  (∀ f ∈ fs, ∀ l, L f.type = some l → LeafAll enc P w base spare held l ((cs.drop f.offset).take (P.cellsOf f.type))) → LeafAll enc P w base spare held ts ((cs.drop off).take ts.length)
 | [], off, ts, h, _ => by
  simp only [leavesF, Option.some.injEq] at h
  subst h
  simp [LeafAll]
 | f :: fs, off, ts, h, hf => by
  unfold leavesF at h
  cases hL : L f.type with
  | none => rw [hL] at h; cases h
  | some l =>
   rw [hL] at h
   simp only [] at h
   split at h
   ·rename_i hc
    cases hr : leavesF P L fs (off + l.length) with
    | none => rw [hr] at h; cases h
    | some r =>
     rw [hr] at h
     simp only [Option.map_some, Option.some.injEq] at h
     subst h
     have h1 := hf f (by simp) l hL
     rw [hc.1, hc.2] at h1
     have h2 := leavesF_all fs (off + l.length) r hr (fun g hg => hf g (by simp [hg]))
     have := h1.append h2
     rw [List.length_append, List.take_add, List.drop_drop]
     exact this
   ·cases h
theorem leavesA_all {cs : List Value} {l : List TypeId} : ∀ (k : Nat) (off : Nat), (∀ i, i < k → LeafAll enc P w base spare held l ((cs.drop (off + i * l.length)).take l.length)) →
  LeafAll enc P w base spare held (List.replicate k l).flatten ((cs.drop off).take (k * l.length))
 | 0, _, _ => by simp [LeafAll]
 | k+1, off, h => by
  have h1 := h 0 (by omega)
  rw [Nat.zero_mul, Nat.add_zero] at h1
  have h2 := leavesA_all k (off + l.length) (fun i hi => by
   have := h (i + 1) (by omega)
   rw [show off + l.length + i * l.length = off + (i + 1) * l.length by rw [Nat.add_mul]; omega]
   exact this)
  rw [List.replicate_succ, List.flatten_cons, show (k + 1) * l.length = l.length + k * l.length by rw [Nat.add_mul]; omega, List.take_add, List.drop_drop]
  exact h1.append h2
theorem leaves_trod (n : Nat) : ∀ (t : TypeId) (ts : List TypeId) (fuel : Nat) (cs : List Value) x, leaves P n t = some ts → DataW.trod enc P w base spare held fuel t cs = some x → LeafAll enc P w base spare held ts cs := by
 induction n with
 | zero => intro t ts fuel cs x h; cases h
 | succ n ih =>
  intro t ts fuel cs x h hx
  unfold leaves at h
  split at h
  ·rename_i fs hu
   obtain ⟨xs, m, rfl, rfl, hl, hlen, hf⟩ := DataW.trod_struct hu hx
   cases hF : leavesF P (leaves P n) fs.toList 0 with
   | none => rw [hF] at h; cases h
   | some r =>
    rw [hF] at h
    simp only [Option.bind_some] at h
    split at h
    ·rename_i hc
     cases h
     have := leavesF_all (enc := enc) (w := w) (base := base) (spare := spare) (held := held) (cs := cs) fs.toList 0 _ hF (fun f hf' l hL => by
      obtain ⟨i, hi, he⟩ := List.mem_iff_getElem.1 hf'
      have hfi : fs[i]? = some f := by
       rw [← he]; simp at hi; simp [hi]
      have h2 := hf i f hfi
      have hxi : i < xs.length := by rw [hlen]; simpa using hi
      rw [List.getElem?_eq_getElem hxi] at h2
      exact ih _ _ _ _ _ hL h2)
     rw [List.drop_zero, List.take_of_length_le (by rw [hl, hc]; exact Nat.le_refl _)] at this
     exact this
    ·cases h
  ·rename_i k e hu
   obtain ⟨xs, m, rfl, rfl, hl, hlen, hf⟩ := DataW.trod_array hu hx
   cases hL : leaves P n e with
   | none => rw [hL] at h; cases h
   | some l =>
    rw [hL] at h
    simp only [Option.bind_some] at h
    split at h
    ·rename_i hc
     cases h
     have hk : cs.length = k * l.length := hl.trans hc.2
     have := leavesA_all (enc := enc) (P := P) (w := w) (base := base) (spare := spare) (held := held) (cs := cs) (l := l) k 0 (fun i hi => by
      have h2 := hf i hi
      rw [List.getElem?_eq_getElem (by omega), hc.1] at h2
      rw [Nat.zero_add]
      exact ih _ _ _ _ _ hL h2)
     rw [List.drop_zero, List.take_of_length_le (by omega)] at this
     exact this
    ·cases h
  ·rename_i k hu
   cases h
   obtain ⟨v, rfl, _, _⟩ := DataW.trod_int hu hx
   exact ⟨⟨_, _, hx⟩, trivial⟩
  ·rename_i hu
   cases h
   obtain ⟨v, rfl, _, _⟩ := DataW.trod_string hu hx
   exact ⟨⟨_, _, hx⟩, trivial⟩
  ·rename_i hu
   cases h
   obtain ⟨v, rfl, _⟩ := DataW.trod_bool hu hx
   exact ⟨⟨_, _, hx⟩, trivial⟩
  ·rename_i e hu
   cases h
   rcases DataW.trod_slice hu hx with ⟨rfl, _⟩ | ⟨a, len, cap, elems, rest, m, _, rfl, _⟩
   ·exact ⟨⟨_, _, hx⟩, trivial⟩
   ·exact ⟨⟨_, _, hx⟩, trivial⟩
  ·cases h
theorem LeafAll.head {t : TypeId} {ts : List TypeId} {cs : List Value} (h : LeafAll enc P w base spare held (t :: ts) cs) : ∃ c r, cs = c :: r ∧ (∃ n y, DataW.trod enc P w base spare held n t [c] = some y) ∧ LeafAll enc P w base spare held ts r := by
 cases cs with
 | nil => exact h.elim
 | cons c r => exact ⟨c, r, rfl, h.1, h.2⟩
theorem LeafAll.nil {cs : List Value} (h : LeafAll enc P w base spare held [] cs) : cs = [] := by
 cases cs with
 | nil => rfl
 | cons c r => exact h.elim
/-- a first cell that is an integer -/
theorem LeafAll.int {t : TypeId} {ts : List TypeId} {cs : List Value} {k : IntKind} (ht : P.underlying t = some (.int k)) (h : LeafAll enc P w base spare held (t :: ts) cs) : ∃ n r, cs = .int k n :: r ∧ (Lit.int k n).wf = true ∧ LeafAll enc P w base spare held ts r := by
 obtain ⟨c, r, rfl, ⟨n, y, hy⟩, h2⟩ := h.head
 obtain ⟨z, hz, _, hw⟩ := DataW.trod_int ht hy
 cases hz
 exact ⟨z, r, rfl, hw, h2⟩
/-- a slice whose elements are of leaves alone -/
theorem rdl_open {α : Type} {enc' : α → List Value} {Q : α → Prop} {t e : TypeId} {ts : List TypeId} {size fuel n : Nat} {v : Value} {x : DataW H × List MemPlace} (ht : P.underlying t = some (.slice e)) (hl : leaves P n e = some ts)
  (hs : P.cellsOf e = size) (hlen : ts.length = size) (hpos : 0 < size) (hα : ∀ cs, LeafAll enc P w base spare held ts cs → ∃ x : α, cs = enc' x ∧ Q x) (h : DataW.trod enc P w base spare held fuel t [v] = some x) :
  ∃ A cap l, v = .slice A (List.length l) cap ∧ RdL w size enc' A l ∧ (A = none → cap = 0) ∧ l.length ≤ cap ∧ cap ≤ maxLen ∧ ∀ y ∈ l, Q y := by
 rcases Deep.open_slice ht h with ⟨h1, _⟩ | ⟨a, len, cap, m, k, D, Pl, h1, _, hlc, hcm, hm, _, hel⟩
 ·cases h1
  exact ⟨none, 0, [], rfl, ⟨by simp, fun h => absurd h (by simp)⟩, fun _ => rfl, Nat.zero_le _, Nat.zero_le _, by simp⟩
 ·cases h1
  have hlm : len ≤ m := by rw [hm]; split <;> omega
  have each : ∀ i, i < len → ∃ y : α, Q y ∧ ∀ j, j < size → w.cell? (a.add (i * size + j)) = (enc' y)[j]? ∧ (enc' y).length = size := by
   intro i hi
   obtain ⟨cs', c1, c2⟩ := hel i (by omega)
   have c3 := leaves_trod n _ _ _ _ _ hl c2
   obtain ⟨y, rfl, hy⟩ := hα _ c3
   obtain ⟨_, hln, hcell⟩ := World.cells?_some c1
   rw [hs] at hln hcell
   refine ⟨y, hy, fun j hj => ⟨?_, hln⟩⟩
   have := hcell j hj
   rw [Deep.add_add] at this
   exact this
  obtain ⟨l, hll, hlq⟩ : ∃ l : List α, l.length = len ∧ ∀ i y, l[i]? = some y → Q y ∧ ∀ j, j < size → w.cell? (a.add (i * size + j)) = (enc' y)[j]? ∧ (enc' y).length = size := by
   clear hel hm hlm h hlc ‹x = _›
   induction len with
   | zero => exact ⟨[], rfl, by simp⟩
   | succ len ih =>
    obtain ⟨l, h1, h2⟩ := ih (fun i hi => each i (by omega))
    obtain ⟨y, h3⟩ := each len (by omega)
    refine ⟨l ++ [y], by simp [h1], fun i z hz => ?_⟩
    by_cases hi : i < l.length
    ·rw [List.getElem?_append_left hi] at hz
     exact h2 i z hz
    ·have hlt := (List.getElem?_eq_some_iff.1 hz).1
     simp only [List.length_append, List.length_cons, List.length_nil] at hlt
     obtain rfl : i = len := by omega
     rw [List.getElem?_append_right (by omega), h1, Nat.sub_self] at hz
     simp at hz
     subst hz
     exact h3
  have he : ∀ y ∈ l, (enc' y).length = size := by
   intro y hy
   obtain ⟨i, hi, rfl⟩ := List.mem_iff_getElem.1 hy
   exact ((hlq i _ (List.getElem?_eq_getElem hi)).2 0 hpos).2
  have hfl : ∀ (r : List α), (∀ y ∈ r, (enc' y).length = size) → (r.flatMap enc').length = r.length * size := by
   intro r
   induction r with
   | nil => intro _; simp
   | cons y r ih =>
    intro h
    rw [List.flatMap_cons, List.length_append, ih (fun z hz => h z (by simp [hz])), h y (by simp), List.length_cons, Nat.add_mul]; omega
  have hget : ∀ (r : List α), (∀ y ∈ r, (enc' y).length = size) → ∀ (i j : Nat) (y : α), r[i]? = some y → j < size → (r.flatMap enc')[i * size + j]? = (enc' y)[j]? := by
   intro r
   induction r with
   | nil => intro _ i j y hy; simp at hy
   | cons z r ih =>
    intro h i j y hy hj
    cases i with
    | zero =>
     simp at hy; subst hy
     rw [List.flatMap_cons, Nat.zero_mul, Nat.zero_add, List.getElem?_append_left (by rw [h _ (by simp)]; exact hj)]
    | succ i =>
     rw [List.flatMap_cons, List.getElem?_append_right (by rw [h _ (by simp), Nat.add_mul]; omega), h _ (by simp)]
     rw [← ih (fun q hq => h q (by simp [hq])) i j y (by simpa using hy) hj]
     congr 1
     rw [Nat.add_mul]; omega
  refine ⟨some a, cap, l, by rw [hll], ⟨hfl l he, fun h0 => ?_⟩, (fun h => by cases h), by omega, hcm, fun y hy => ?_⟩
  ·obtain ⟨b, off, spot⟩ := a
   obtain ⟨y0, hy0⟩ : ∃ y, l[0]? = some y := ⟨_, List.getElem?_eq_getElem h0⟩
   have hc0 := ((hlq 0 y0 hy0).2 0 hpos)
   rw [Nat.zero_mul, Nat.zero_add] at hc0
   obtain ⟨c, hc⟩ : ∃ c, (enc' y0)[0]? = some c := ⟨_, List.getElem?_eq_getElem (by rw [hc0.2]; exact hpos)⟩
   have hcc := hc0.1.trans hc
   have hspot : spot = none := by simpa [Addr.add] using World.cell?_spot hcc
   subst hspot
   refine ⟨b, off, rfl, ?_, fun j hj => ?_⟩
   ·have := hcc
    rw [Go.WideShapes.add_plain] at this
    unfold World.cell? at this
    by_cases hb : b < w.heap.size
    ·exact hb
    ·rw [Array.getElem?_eq_none (Nat.le_of_not_lt hb)] at this
     simp at this
   ·rw [hfl l he] at hj
    have hi : j / size < l.length := Nat.div_lt_of_lt_mul (by rw [Nat.mul_comm]; exact hj)
    have hr : j % size < size := Nat.mod_lt _ hpos
    have hq := (hlq _ _ (List.getElem?_eq_getElem hi)).2 _ hr
    have hg := hget l he _ _ _ (List.getElem?_eq_getElem hi) hr
    have hj' : j / size * size + j % size = j := by rw [Nat.mul_comm]; exact Nat.div_add_mod j size
    rw [hj'] at hq hg
    rw [hg, ← hq.1, Go.WideShapes.add_plain]
  ·obtain ⟨i, hi, rfl⟩ := List.mem_iff_getElem.1 hy
   exact (hlq i _ (List.getElem?_eq_getElem hi)).1
end
end Go.Proofs.YtdimmlljjmmdbaaGreatDoor
namespace Go.Proofs.YtdimmlljjmmdbaaGreatDoor
open Go.RowKit
end Go.Proofs.YtdimmlljjmmdbaaGreatDoor
namespace Go.Proofs.YtdimmlljjmmdbaaGreatDoor
open Go.RowKit
end Go.Proofs.YtdimmlljjmmdbaaGreatDoor
/- A slice of one-cell elements that the call makes at its full length and fills from the left. -/
namespace Go.Proofs.YtdimmlljjmmdbaaGreatDoor
open Go.RowKit
def fillA (z : Value) (f : Nat → Value) (n k : Nat) : Array Value := ((List.range n).map fun i => if i < k then f i else z).toArray
theorem fillA_size (z : Value) (f : Nat → Value) (n k : Nat) : (fillA z f n k).size = n := by simp [fillA]
theorem fillA_get (z : Value) (f : Nat → Value) (n k j : Nat) (h : j < n) : (fillA z f n k)[j]? = some (if j < k then f j else z) := by
 simp [fillA, h]
theorem fillA_set (z : Value) (f : Nat → Value) (n k : Nat) (h : k < n) : (fillA z f n k).setIfInBounds k (f k) = fillA z f n (k + 1) := by
 apply Array.ext_getElem?
 intro j
 rcases Nat.lt_or_ge j n with hj | hj
 ·rw [fillA_get _ _ _ _ _ hj]
  by_cases hjk : k = j
  ·subst hjk
   rw [Array.getElem?_setIfInBounds_self_of_lt (by rw [fillA_size]; exact h)]
   simp
  ·rw [Array.getElem?_setIfInBounds_ne hjk, fillA_get _ _ _ _ _ hj]
   by_cases h1 : j < k
   ·simp [h1, Nat.lt_succ_of_lt h1]
   ·rw [if_neg h1, if_neg (by omega)]
 ·rw [Array.getElem?_eq_none (by simp [fillA_size]; exact hj), Array.getElem?_eq_none (by rw [fillA_size]; exact hj)]
theorem fillA_full (z : Value) (f : Nat → Value) (n : Nat) : fillA z f n n = ((List.range n).map f).toArray := by
 unfold fillA
 congr 1
 apply List.map_congr_left
 intro i hi
 rw [if_pos (List.mem_range.1 hi)]
theorem madeCells_one (z : Value) (f : Nat → Value) (n : Nat) (h : z.cells = #[z]) : madeCells z.cells (n * 1) = fillA z f n 0 := by
 rw [h, Nat.mul_one]
 apply Array.ext_getElem?
 intro j
 rcases Nat.lt_or_ge j n with hj | hj
 ·rw [fillA_get _ _ _ _ _ hj]
  simp [madeCells, hj, Nat.mod_one]
 ·rw [Array.getElem?_eq_none (by rw [size_madeCells]; exact hj), Array.getElem?_eq_none (by rw [fillA_size]; exact hj)]
theorem run_make_fill {P : Program} (t e : TypeId) (i : TypeInfo) (z : Value) (f : Nat → Value) (ht : P.underlying t = some (.slice e)) (hi : P.info? e = some i) (hz : i.zero = some z) (hs : i.size = 1) (hc : z.cells = #[z])
  (n : Nat) (hn : n ≤ 100000000) (hb : i.bytes ≤ 1024) (w : World) :
  (Instr.makeSlice t (.int .i64 (n : Int)) (.int .i64 (n : Int))).run P w = .ok (.slice (some ⟨w.heap.size, 0, none⟩) n n) (w.alloc (.cells (fillA z f n 0) e)) := by
 have hbb : (i.bytes : Int) * (n : Int) ≤ 281474976710656 := by
  have h : i.bytes * n ≤ 1024 * 100000000 := Nat.mul_le_mul hb hn
  have h2 : ((i.bytes * n : Nat) : Int) ≤ 281474976710656 := by omega
  rwa [Int.natCast_mul] at h2
 have hr := run_make (P := P) w t e i z ht hi hz .i64 .i64 n n (by omega) (by omega) hbb (by omega)
 simp only [Int.toNat_natCast, hs] at hr
 rw [hr, madeCells_one z f n hc]
/-- one cell of a block written -/
theorem set_blk {w : World} {g i : Nat} {cs : Array Value} {t : TypeId} {f : Nat × Nat} (h : w.heap[g]? = some (.cells cs t f)) (u : Value) : (w.setCell ⟨g, i, none⟩ u).heap[g]? = some (.cells (cs.setIfInBounds i u) t f) := by
 simp [World.setCell, Array.getElem?_modify, h]
theorem set_far {w : World} {g : Nat} {p : Addr} (u : Value) (h : g ≠ p.block) : (w.setCell p u).heap[g]? = w.heap[g]? := Below.heap_setCell w p u g h
end Go.Proofs.YtdimmlljjmmdbaaGreatDoor
/- Slices of the call's own that grow by append; what they read as. -/
namespace Go.Proofs.YtdimmlljjmmdbaaGreatDoor
open Go.RowKit
theorem grownBy_of_below {w w' : World} (h : Below w.heap.size w w') (row : Option Nat) : w.grownBy w' row := ⟨h.os, h.tape, h.output, h.size, fun i hi _ => h.block i hi⟩
theorem own_below {w w' : World} {base : Nat} {e : TypeId} {size : Nat} {v : Value} {n : Nat} {xs : List Value} (h : w.ownsRow base e size v n xs) (hb : Below w.heap.size w w') : w'.ownsRow base e size v n xs :=
 h.kept (grownBy_of_below hb none) (by cases hv : v.ownBlock <;> simp)
/-- a slice value that reads as the cells xs -/
def Sl (w : World) (size : Nat) (v : Value) (n : Nat) (xs : List Value) : Prop := ∃ A cap, v = .slice A n cap ∧ RdS w size A n xs
theorem Sl.of_own {w : World} {base : Nat} {e : TypeId} {size : Nat} {v : Value} {n : Nat} {xs : List Value} (h : w.ownsRow base e size v n xs) : Sl w size v n xs := by
 have hx := h.1
 rcases h.2 with ⟨rfl, rfl⟩ | ⟨g, cap, cur, rfl, hg, hh, hn, hc, hs, ht⟩
 ·exact ⟨none, 0, rfl, hx, fun h => absurd h (by omega)⟩
 ·refine ⟨_, cap, rfl, hx, fun _ => ⟨g, 0, rfl, (Array.getElem?_eq_some_iff.1 hh).1, fun j hj => ?_⟩⟩
  simp only [World.cell?, hh]
  rw [← ht] at hj ⊢
  rw [List.getElem?_take]
  have : j < n * size := by rw [List.length_take] at hj; omega
  simp [this]
/-- the new cells of an append of one element, in the block laid for it -/
theorem news_one {w : World} {g : Nat} (o : List Value) (t : TypeId) (hg : g = w.heap.size) : ∀ j u, o[j]? = some u → (w.alloc (.cells o.toArray t)).cell? ((⟨g, 0, none⟩ : Addr).add j) = some u := by
 subst hg
 intro j u hj
 have hadd : (⟨w.heap.size, 0, none⟩ : Addr).add j = ⟨w.heap.size, j, none⟩ := by unfold Addr.add; split <;> simp_all
 rw [hadd]
 exact cell_at (heap_alloc_new _ _) (by simpa using hj)
end Go.Proofs.YtdimmlljjmmdbaaGreatDoor
namespace Go.Proofs.YtdimmlljjmmdbaaGreatDoor
open Go.RowKit
end Go.Proofs.YtdimmlljjmmdbaaGreatDoor
namespace Go.Proofs.YtdimmlljjmmdbaaGreatDoor
open Go.RowKit
theorem RdS.news {w : World} {size n : Nat} {ad : Addr} {xs : List Value} (h : RdS w size (some ad) n xs) (hs : 0 < size) : ∀ j u, xs[j]? = some u → w.cell? (ad.add j) = some u := by
 intro j u hu
 obtain ⟨h1, h2⟩ := h
 have hj : j < xs.length := (List.getElem?_eq_some_iff.1 hu).1
 have hn : 0 < n := by
  rcases Nat.eq_zero_or_pos n with h | h
  ·subst h; omega
  ·exact h
 obtain ⟨b, off, he, _, hc⟩ := h2 hn
 cases he
 have hadd : (⟨b, off, none⟩ : Addr).add j = ⟨b, off + j, none⟩ := by unfold Addr.add; split <;> simp_all
 rw [hadd, hc j hj, hu]
theorem RdS.none0 {w : World} {size n : Nat} {xs : List Value} (h : RdS w size none n xs) : n = 0 := by
 rcases Nat.eq_zero_or_pos n with h0 | h0
 ·exact h0
 ·obtain ⟨b, off, he, _⟩ := h.2 h0
  cases he
end Go.Proofs.YtdimmlljjmmdbaaGreatDoor
/- 'copy' of whole elements of several cells into a row that the call itself made at the same length. -/
namespace Go.Proofs.YtdimmlljjmmdbaaGreatDoor
open Go.RowKit
end Go.Proofs.YtdimmlljjmmdbaaGreatDoor
namespace Go.Proofs.YtdimmlljjmmdbaaGreatDoor
namespace Mo
def range (n lo hi : Int) : Int := if n < lo ∨ hi < n then 3 else 0
def when (c : Bool) (e : Int) : Int := if c then e else 0
def first : List Int → Int
 | [] => 0
 | x :: xs => if x ≠ 0 then x else first xs
theorem first_drop (xs : List Int) (k : Nat) (h : k < xs.length) : first (xs.drop k) = if xs[k] ≠ 0 then xs[k] else first (xs.drop (k+1)) := by
 rw [List.drop_eq_getElem_cons h]; rfl
end Mo
end Go.Proofs.YtdimmlljjmmdbaaGreatDoor
namespace Go.Proofs.YtdimmlljjmmdbaaGreatDoor
open Go.RowKit
set_option maxHeartbeats 400000
theorem c94 (c : Bool) (e : Int) (w : World) : Calls Tryz.prog 94 #[.bool c, .int .i64 e] w fun en w' => en = .returned (.int .i64 (Mo.when c e)) ∧ w = w' := by
 go_enter Tryz.func94, Tryz.ntmps94
 go_wp2
 all_goals go_ret
 all_goals simp [Mo.when, *]
theorem c93 (n lo hi : Int) (w : World) : Calls Tryz.prog 93 #[.int .i64 n, .int .i64 lo, .int .i64 hi] w fun en w' => en = .returned (.int .i64 (Mo.range n lo hi)) ∧ w = w' := by
 go_enter Tryz.func93, Tryz.ntmps93
 go_wp2
 all_goals go_ret
 all_goals (refine ⟨ret_int ?_, rfl⟩; simp [Mo.range]; try omega)
theorem c42 (n lo hi : Int) (w : World) : Calls Tryz.prog 42 #[.int .i64 n, .int .i64 lo, .int .i64 hi] w fun en w' => en = .returned (.int .i64 (Mo.range n lo hi)) ∧ w = w' := by
 go_enter Tryz.func42, Tryz.ntmps42
 go_wp2
 all_goals go_ret
 all_goals (refine ⟨ret_int ?_, rfl⟩; simp [Mo.range]; try omega)
theorem c98 (A : Option Addr) (n cap : Nat) (xs : List Int) (w : World) (hn : xs.length = n) (hl : n ≤ 1000000) (H : RdS w 1 A n (encI xs)) :
  Calls Tryz.prog 98 #[.slice A n cap] w fun en w' => en = .returned (.int .i64 (Mo.first xs)) ∧ w = w' := by
 have Hn := Lib.hid hn
 clear hn
 go_enter Tryz.func98, Tryz.ntmps98
 go_wp2
 go_loop [3] (fun i => ∃ k : Nat, k ≤ n ∧ i = .int .i64 k ∧ Mo.first xs = Mo.first (xs.drop k)) (fun i => n - (intOf i).toNat)
 case atStart => exact ⟨0, Nat.zero_le _, rfl, rfl⟩
 case round =>
  obtain ⟨k, hk, rfl, he⟩ := hrel
  have HE := Lib.hid he
  clear he
  by_cases hlt : k < n
  ·obtain ⟨b, off, rfl, hb, hc⟩ := H.at hlt
   have hx : k < xs.length := by rw [Hn.out]; exact hlt
   have h0 := hc 0 (by omega)
   simp [encI, hx] at h0
   clear hc H hb
   have hs := Lib.hid (Mo.first_drop xs k hx)
   go_wp2
   ·go_ret
    exact ⟨ret_int (by rw [HE.out, hs.out, if_pos (by simpa using ‹(xs[k] != 0) = true›)]), rfl⟩
   ·go_round
    case rel => exact ⟨k+1, by omega, by go_num, by rw [HE.out, hs.out, if_neg (by simpa using ‹(xs[k] != 0) = false›)]⟩
    case measure => simp [intOf]; omega
  ·go_wp2
   go_ret
   exact ⟨by rw [HE.out, List.drop_of_length_le (by rw [Hn.out]; omega)]; rfl, rfl⟩
theorem c89 (A : Option Addr) (n cap : Nat) (xs : List Int) (w : World) (hn : xs.length = n) (hl : n ≤ 1000000) (H : RdS w 1 A n (encI xs)) :
  Calls Tryz.prog 89 #[.slice A n cap] w fun en w' => en = .returned (.int .i64 (Mo.first xs)) ∧ w = w' := by
 have Hn := Lib.hid hn
 clear hn
 go_enter Tryz.func89, Tryz.ntmps89
 go_wp2
 go_loop [7] (fun i => ∃ k : Nat, k ≤ n ∧ i = .int .i64 k ∧ Mo.first xs = Mo.first (xs.drop k)) (fun i => n - (intOf i).toNat)
 case atStart => exact ⟨0, Nat.zero_le _, rfl, rfl⟩
 case round =>
  obtain ⟨k, hk, rfl, he⟩ := hrel
  have HE := Lib.hid he
  clear he
  by_cases hlt : k < n
  ·obtain ⟨b, off, rfl, hb, hc⟩ := H.at hlt
   have hx : k < xs.length := by rw [Hn.out]; exact hlt
   have h0 := hc 0 (by omega)
   simp [encI, hx] at h0
   clear hc H hb
   have hs := Lib.hid (Mo.first_drop xs k hx)
   go_wp2
   ·go_ret
    exact ⟨ret_int (by rw [HE.out, hs.out, if_pos (by simpa using ‹(xs[k] != 0) = true›)]), rfl⟩
   ·go_round
    case rel => exact ⟨k+1, by omega, by go_num, by rw [HE.out, hs.out, if_neg (by simpa using ‹(xs[k] != 0) = false›)]⟩
    case measure => simp [intOf]; omega
  ·go_wp2
   go_ret
   exact ⟨by rw [HE.out, List.drop_of_length_le (by rw [Hn.out]; omega)]; rfl, rfl⟩
end Go.Proofs.YtdimmlljjmmdbaaGreatDoor
namespace Go.Proofs.YtdimmlljjmmdbaaGreatDoor
open Go.RowKit
set_option maxHeartbeats 1000000
set_option maxRecDepth 20000
/-- a list of integers at A -/
def RdI (w : World) (A : Option Addr) (n : Nat) (l : List Int) : Prop := RdS w 1 A n (encI l)
theorem RdI.below {w w' : World} {A : Option Addr} {n : Nat} {l : List Int} (h : RdI w A n l) (hb : Below w.heap.size w w') : RdI w' A n l := RdS.below h hb
theorem RdI.len {w : World} {A : Option Addr} {n : Nat} {l : List Int} (h : RdI w A n l) : l.length = n := by have := h.1; simpa [encI] using this
theorem RdI.at {w : World} {A : Option Addr} {n : Nat} {l : List Int} (h : RdI w A n l) {k : Nat} (hk : k < n) :
  ∃ b off x, A = some ⟨b, off, none⟩ ∧ l[k]? = some x ∧ b < w.heap.size ∧ w.cell? ⟨b, off + k, none⟩ = some (.int .i64 x) := by
 obtain ⟨b, off, hA, hb, hc⟩ := RdS.at h hk
 have hx : k < l.length := by rw [h.len]; exact hk
 have h0 := hc 0 (by omega)
 simp [encI, hx] at h0
 exact ⟨b, off, l[k], hA, List.getElem?_eq_getElem hx, hb, h0⟩
theorem blkb {w W : World} {g : Nat} {o : Obj} (h : w.heap[g]? = some o) (hb : Below w.heap.size w W) : W.heap[g]? = some o :=
 (hb.block g (Array.getElem?_eq_some_iff.1 h).1).trans h
theorem quietB {P : Program} {F : Nat} {args : Array Value} {w : World} {v : Value} (h : Calls P F args w fun e w' => e = .returned v ∧ w = w') : Calls P F args w fun e w' => e = .returned v ∧ Below w.heap.size w w' :=
 h.mono (fun _ _ h => ⟨h.1, h.2 ▸ Below.refl _ _⟩)
theorem own_form {w : World} {base : Nat} {e : TypeId} {size : Nat} {v : Value} {n : Nat} {xs : List Value} (h : w.ownsRow base e size v n xs) :
  ∃ A C, v = .slice A n C ∧ RdS w size A n xs ∧ n ≤ C ∧ C ≤ 9223372036854775807 ∧ ∀ b off, A = some ⟨b, off, none⟩ → b < w.heap.size := by
 have h0 := Sl.of_own h
 obtain ⟨hx, ⟨rfl, hn⟩ | ⟨g, cap, cur, rfl, hg, hh, hn, hc, hs, ht⟩⟩ := h
 ·obtain ⟨A, C, he, hr⟩ := h0
  cases he
  exact ⟨none, 0, rfl, hr, by omega, by omega, fun _ _ h => by cases h⟩
 ·obtain ⟨A, C, he, hr⟩ := h0
  cases he
  unfold maxLen at hc
  exact ⟨_, _, rfl, hr, hn, by omega, fun b off h => by cases h; exact (Array.getElem?_eq_some_iff.1 hh).1⟩
/-- a pair -/
structure Pr where
 s : Int
 r : Int
 h : Bool
def Pr.enc (p : Pr) : List Value := [.int .i64 p.s, .int .i64 p.r, .bool p.h]
theorem Pr.len (p : Pr) : p.enc.length = 3 := rfl
theorem flat_len {α : Type} {enc : α → List Value} {k : Nat} (he : ∀ a, (enc a).length = k) : ∀ l : List α, (l.flatMap enc).length = l.length * k
 | [] => by simp
 | a :: l => by rw [List.flatMap_cons, List.length_append, he, flat_len he l, List.length_cons, Nat.succ_mul]; omega
def RdP (w : World) (A : Option Addr) (n : Nat) (l : List Pr) : Prop := RdS w 3 A n (l.flatMap Pr.enc)
theorem RdP.below {w w' : World} {A : Option Addr} {n : Nat} {l : List Pr} (h : RdP w A n l) (hb : Below w.heap.size w w') : RdP w' A n l := RdS.below h hb
theorem RdP.len {w : World} {A : Option Addr} {n : Nat} {l : List Pr} (h : RdP w A n l) : l.length = n := by
 have := h.1
 rw [flat_len Pr.len] at this
 omega
theorem RdP.at {w : World} {A : Option Addr} {n : Nat} {l : List Pr} (h : RdP w A n l) {k : Nat} (hk : k < n) :
  ∃ b off x, A = some ⟨b, off, none⟩ ∧ l[k]? = some x ∧ b < w.heap.size ∧ w.cell? ⟨b, off + k * 3, none⟩ = some (.int .i64 x.s) ∧ w.cell? ⟨b, off + k * 3 + 1, none⟩ = some (.int .i64 x.r) ∧ w.cell? ⟨b, off + k * 3 + 2, none⟩ = some (.bool x.h) := by
 have hn := h.len
 have h' : RdL w 3 Pr.enc A l := by unfold RdL; rw [hn]; exact h
 obtain ⟨b, off, x, hA, hx, hb, hc⟩ := h'.at Pr.len (by rw [hn]; exact hk)
 exact ⟨b, off, x, hA, hx, hb, hc 0 (by omega), hc 1 (by omega), hc 2 (by omega)⟩
theorem info32 : (Tryz.prog.info? 32).map (fun i => (i.zero, i.size, i.bytes)) = some (some (.int .i64 0), 1, 8) := by kernel_rfl
theorem c149 (A : Option Addr) (n cap : Nat) (l : List Int) (p0 p1 : Addr) (f : Int → Int) (w : World) (hl : n ≤ 1000000) (H : RdI w A n l)
  (hcl : ∀ (W : World) (x : Int), x ∈ l → Below w.heap.size w W →
   Calls Tryz.prog 150 #[.int .i64 x, .pointer (some p0), .pointer (some p1)] W fun e w' => e = .returned (Value.int .i64 (f x)) ∧ Below W.heap.size W w') :
  Calls Tryz.prog 149 #[.slice A n cap, .func (.func 150) #[] #[.pointer (some p0), .pointer (some p1)]] w fun en w' => ∃ A' cap', en = .returned (.slice A' n cap') ∧ RdI w' A' n (l.map f) ∧ Below w.heap.size w w' := by
 have Hn := Lib.hid H.len
 have Hcl := Lib.hid hcl
 have hmm : encI (l.map f) = l.map fun x => Value.int .i64 (f x) := by simp [encI]
 have Hm := Lib.hid hmm
 clear hcl hmm
 obtain ⟨i0, hi, hz0, hz1, hz2⟩ := info_parts info32
 go_enter Tryz.func149, Tryz.ntmps149
 go_wp2
 go_loopw [5, 10] (fun x i wr => ∃ k : Nat, k ≤ n ∧ i = .int .i64 k ∧ wr.ownsRow w.heap.size 32 1 x k ((l.map fun x => Value.int .i64 (f x)).take k) ∧ Below w.heap.size w wr) (fun _ i _ => n - (intOf i).toNat)
 case atStart => exact ⟨0, Nat.zero_le _, rfl, World.ownsRow_nil _ _ _ _, Below.refl _ _⟩
 case round =>
  obtain ⟨k, hk, rfl, hown, hB⟩ := hrel
  by_cases hlt : k < n
  ·obtain ⟨b, off, x, rfl, hx, hb, h0⟩ := (H.below hB).at hlt
   have Hx := Lib.hid hx
   have htk : (l.map fun x => Value.int .i64 (f x)).take (k + 1) = (l.map fun x => Value.int .i64 (f x)).take k ++ [Value.int .i64 (f x)] := by rw [List.take_succ, List.getElem?_map, hx]; simp
   have HTK := Lib.hid htk
   clear hx htk
   go_wp2_with fail
   refine (Hcl.out _ x (List.mem_of_getElem? Hx.out) hB).mono ?_
   rintro e w2 ⟨rfl, hb2⟩
   have hown2 := own_below hown hb2
   have hB2 := fin0 hB hb2
   have hsz := hB2.size
   go_wp2_with (at_builtin; refine wpList_append_own _ rfl _ _ 152 rfl w.heap.size 32 i0 (.int .i64 0) 1 8 Tryz.underlying152 hi hz0 hz1 hz2 rfl (by decide) _ _ _ rfl (hown2.alloc _) ⟨w2.heap.size, 0, none⟩ 1 1 [Value.int .i64 (f x)] rfl rfl ?c1 ?c2 ?c3 ?c4 ?c5 ?_)
   case c1 => exact news_one _ _ rfl
   case c2 => intro x hx; simp at hx; subst hx; rfl
   case c3 => unfold maxLen; omega
   case c4 => omega
   case c5 => simp; omega
   intro x' w3 hown3 hg3 _
   have hB3 : Below w.heap.size w w3 := (hB2.alloc hsz _).grown hg3 (by simp; omega) (fun g hg => (hown2.lt g hg).1)
   rw [← HTK.out] at hown3
   have HO := Lib.hid hown3
   clear hown3 hg3 hown2 hown
   go_wp2
   go_roundw
   case rel => exact ⟨k + 1, by omega, by go_num, HO.out, hB3⟩
   case measure => simp [intOf]; omega
  ·obtain rfl : k = n := by omega
   rw [List.take_of_length_le (by rw [List.length_map, Hn.out]; exact Nat.le_refl _)] at hown
   have HO := Lib.hid hown
   clear hown
   go_wp2
   go_ret
   obtain ⟨A', cap', rfl, hr⟩ := Sl.of_own HO.out
   exact ⟨A', cap', rfl, by unfold RdI; rw [Hm.out]; exact hr, hB⟩
theorem c95 (A : Option Addr) (n cap : Nat) (l : List Pr) (p0 : Addr) (f : Pr → Int) (w : World) (hl : n ≤ 1000000) (H : RdP w A n l)
  (hcl : ∀ (W : World) (x : Pr), x ∈ l → Below w.heap.size w W →
   Calls Tryz.prog 96 #[.agg #[.int .i64 x.s, .int .i64 x.r, .bool x.h], .pointer (some p0)] W fun e w' => e = .returned (Value.int .i64 (f x)) ∧ Below W.heap.size W w') :
  Calls Tryz.prog 95 #[.slice A n cap, .func (.func 96) #[] #[.pointer (some p0)]] w fun en w' => ∃ A' cap', en = .returned (.slice A' n cap') ∧ RdI w' A' n (l.map f) ∧ Below w.heap.size w w' := by
 have Hn := Lib.hid H.len
 have Hcl := Lib.hid hcl
 have hmm : encI (l.map f) = l.map fun x => Value.int .i64 (f x) := by simp [encI]
 have Hm := Lib.hid hmm
 clear hcl hmm
 obtain ⟨i0, hi, hz0, hz1, hz2⟩ := info_parts info32
 go_enter Tryz.func95, Tryz.ntmps95
 go_wp2
 go_loopw [5, 10] (fun x i wr => ∃ k : Nat, k ≤ n ∧ i = .int .i64 k ∧ wr.ownsRow w.heap.size 32 1 x k ((l.map fun x => Value.int .i64 (f x)).take k) ∧ Below w.heap.size w wr) (fun _ i _ => n - (intOf i).toNat)
 case atStart => exact ⟨0, Nat.zero_le _, rfl, World.ownsRow_nil _ _ _ _, Below.refl _ _⟩
 case round =>
  obtain ⟨k, hk, rfl, hown, hB⟩ := hrel
  by_cases hlt : k < n
  ·obtain ⟨b, off, x, rfl, hx, hb, h0, h1, h2⟩ := (H.below hB).at hlt
   have Hx := Lib.hid hx
   have htk : (l.map fun x => Value.int .i64 (f x)).take (k + 1) = (l.map fun x => Value.int .i64 (f x)).take k ++ [Value.int .i64 (f x)] := by rw [List.take_succ, List.getElem?_map, hx]; simp
   have HTK := Lib.hid htk
   clear hx htk
   go_wp2_with fail
   refine (Hcl.out _ x (List.mem_of_getElem? Hx.out) (hB.alloc hB.size _)).mono ?_
   rintro e w2 ⟨rfl, hb2⟩
   have hown2 := own_below (hown.alloc (Obj.cells #[.int .i64 x.s, .int .i64 x.r, .bool x.h] 148)) hb2
   have hB2 := (hB.alloc hB.size (Obj.cells #[.int .i64 x.s, .int .i64 x.r, .bool x.h] 148)).call hb2 rfl
   have hsz := hB2.size
   go_wp2_with (at_builtin; refine wpList_append_own _ rfl _ _ 152 rfl w.heap.size 32 i0 (.int .i64 0) 1 8 Tryz.underlying152 hi hz0 hz1 hz2 rfl (by decide) _ _ _ rfl (hown2.alloc _) ⟨w2.heap.size, 0, none⟩ 1 1 [Value.int .i64 (f x)] rfl rfl ?c1 ?c2 ?c3 ?c4 ?c5 ?_)
   case c1 => exact news_one _ _ rfl
   case c2 => intro x hx; simp at hx; subst hx; rfl
   case c3 => unfold maxLen; omega
   case c4 => omega
   case c5 => simp; omega
   intro x' w3 hown3 hg3 _
   have hB3 : Below w.heap.size w w3 := (hB2.alloc hsz _).grown hg3 (by simp; omega) (fun g hg => (hown2.lt g hg).1)
   rw [← HTK.out] at hown3
   have HO := Lib.hid hown3
   clear hown3 hg3 hown2 hown
   go_wp2
   go_roundw
   case rel => exact ⟨k + 1, by omega, by go_num, HO.out, hB3⟩
   case measure => simp [intOf]; omega
  ·obtain rfl : k = n := by omega
   rw [List.take_of_length_le (by rw [List.length_map, Hn.out]; exact Nat.le_refl _)] at hown
   have HO := Lib.hid hown
   clear hown
   go_wp2
   go_ret
   obtain ⟨A', cap', rfl, hr⟩ := Sl.of_own HO.out
   exact ⟨A', cap', rfl, by unfold RdI; rw [Hm.out]; exact hr, hB⟩
theorem c150 (n lo hi : Int) (p0 p1 : Addr) (w : World) (h0 : w.cell? p0 = some (.int .i64 lo)) (h1 : w.cell? p1 = some (.int .i64 hi)) :
  Calls Tryz.prog 150 #[.int .i64 n, .pointer (some p0), .pointer (some p1)] w fun en w' => en = .returned (.int .i64 (Mo.range n lo hi)) ∧ w = w' := by
 go_enter Tryz.func150, Tryz.ntmps150
 go_wp2_with (go_at_call 93; refine (c93 _ _ _ _).mono ?_; rintro e w' ⟨rfl, rfl⟩)
 go_ret
 exact ⟨rfl, rfl⟩
end Go.Proofs.YtdimmlljjmmdbaaGreatDoor
/- A region that draws its order: a front part of operations that read or call what reads or grows, beside a rest that can come up in one order only; operations of the rest may come up before operations of the front for which they do not wait. -/
namespace Go
open Go.RowKit
section
variable {P : Program} {ops : Array Oper} {md : Region.Mode} {C : World → Prop} {Q : Exit → Act → World → Prop}
/-- quiet, what a call leaves being a growth of what it got -/
def Oper.softUpon (P : Program) (w : World) (v : Value) : Result Next → Prop
 | .ok (.value u) w' => w' = w ∧ u = v
 | .ok .skip w' => w' = w ∧ v = undef
 | .ok (.enter f args) w' => w' = w ∧ Calls P f args w (fun e w'' => e = .returned v ∧ Below w.heap.size w w'')
 | _ => False
def Oper.softAt (P : Program) (o : Oper) (a : Act) (w : World) (v : Value) : Prop := Oper.softUpon P w v ((execOp a.eval o).run P w)
def SoftIn (P : Program) (ops : Array Oper) (C : World → Prop) (o : Oper) (v : Value) (a : Act) : Prop :=
 (Region.wanted o (yielded ops a.tmps) = true ∧ ∀ w, C w → o.softAt P a w v) ∨
 (Region.wanted o (yielded ops a.tmps) = false ∧ v = undef)
theorem SoftIn.of_same {o : Oper} {v : Value} {a a' : Act} (hy : SoftIn P ops C o v a) (he : execOp a'.eval o = execOp a.eval o)
  (hw : Region.wanted o (yielded ops a'.tmps) = Region.wanted o (yielded ops a.tmps)) : SoftIn P ops C o v a' := by
 unfold SoftIn Oper.softAt at *
 rw [he, hw]
 exact hy
theorem SoftIn.wpOp {i : Nat} {o : Oper} {v : Value} {a : Act} (hi : ops[i]? = some o) (hy : SoftIn P ops C o v a)
  {K : Act → World → Prop} {w : World} (hC : C w) (h : ∀ w', Below w.heap.size w w' → K (a.put o.dst v) w') : wpOp P ops Q i K a w := by
 unfold Go.wpOp
 simp only [hi]
 rcases hy with ⟨hw, hv⟩ | ⟨hw, rfl⟩
 ·simp only [hw, if_true]
  refine .inl ?_
  have h3 := hv w hC
  unfold Oper.softAt at h3
  unfold Oper.wp
  generalize (execOp a.eval o).run P w = r at *
  cases r with
  | ok n w' =>
   cases n <;> simp only [Oper.softUpon] at h3 <;> simp only [Oper.upon]
   case value u => obtain ⟨e1, e2⟩ := h3; rw [e1, e2]; exact h _ (Below.refl _ _)
   case skip => obtain ⟨e1, e2⟩ := h3; rw [e1, ← e2]; exact h _ (Below.refl _ _)
   case enter f args =>
    obtain ⟨e1, hc⟩ := h3
    rw [e1]
    exact hc.mono fun e w'' ⟨he, hw''⟩ => by subst he; exact h _ hw''
  | halt x w' => simp only [Oper.softUpon] at h3
 ·simp only [hw, Bool.false_eq_true, if_false]; exact h _ (Below.refl _ _)
theorem wpOp_putSoft {j : Nat} {oi oj : Oper} {v : Value} (hj : ops[j]? = some oj) (hap : oi.apart ops oj = true)
  (hsi : ∀ cs b, oi.op ≠ .select cs b) (hsj : ∀ cs b, oj.op ≠ .select cs b)
  (hQ : ∀ c a d v w, Q (.panic c) (a.put d v) w → Q (.panic c) a w) {K : Act → World → Prop} {a : Act} {w : World}
  (hy : SoftIn P ops C oi v a) (h : wpOp P ops Q j K (a.put oi.dst v) w) :
  wpOp P ops Q j (fun a' w' => SoftIn P ops C oi v a' ∧ K (a'.put oi.dst v) w') a w := by
 obtain ⟨h1, h2, h3⟩ := Oper.apart_spec hap
 have keep : ∀ (a : Act), SoftIn P ops C oi v a → ∀ u, SoftIn P ops C oi v (a.put oj.dst u) := fun a hy u =>
  hy.of_same (execOp_put oi hsi a oj.dst u h3) (wanted_put oi a oj.dst u h3)
 have keepD : ∀ d, SoftIn P ops C oi v { a with defers := d :: a.defers } := fun d => hy.of_same rfl rfl
 unfold wpOp at *
 simp only [hj] at *
 rw [wanted_put oj a oi.dst v h1] at h
 split
 ·rename_i hw
  simp only [hw, if_true] at h
  rcases h with h | ⟨hasks, hlets⟩
  case inr => exact .inr ⟨by unfold Oper.asks at *; rw [execOp_put oj hsj a oi.dst v h1] at hasks; exact hasks, hlets⟩
  refine .inl ?_
  unfold Oper.wp at *
  rw [execOp_put oj hsj a oi.dst v h1] at h
  generalize (execOp a.eval oj).run P w = r at *
  cases r with
  | ok n w' =>
   cases n <;> simp only [Oper.upon] at h ⊢
   case value u => exact ⟨keep a hy u, by rw [← Act.put_comm a v u h2]; exact h⟩
   case skip => exact ⟨keep a hy _, by rw [← Act.put_comm a v undef h2]; exact h⟩
   case defer d =>
    refine ⟨keep _ (keepD d) _, ?_⟩
    rw [← Act.put_comm _ v undef h2, ← Act.put_defers]
    exact h
   case enter f args =>
    refine Calls.mono h fun e w'' he => ?_
    cases e with
    | returned u => exact ⟨keep a hy u, by rw [← Act.put_comm a v u h2]; exact he⟩
    | panicked c => exact hQ _ _ _ _ _ he
    | outgrown => exact he
   case row row args => exact Rows.mono h fun u w'' he => ⟨keep a hy u, by rw [← Act.put_comm a v u h2]; exact he⟩
  | halt x w' =>
   cases x <;> simp only [Oper.upon] at h ⊢
   case panic u => exact hQ _ _ _ _ _ h
 ·rename_i hw
  simp only [hw] at h
  exact ⟨keep a hy _, by rw [← Act.put_comm a v undef h2]; exact h⟩
/-- whatever comes up; the class is kept, and what is asked behind an operation is asked in every growth of the world that it left -/
def wpAnyT (P : Program) (md : Region.Mode) (ops : Array Oper) (C : World → Prop) (Q : Exit → Act → World → Prop) : Nat → Array Bool → Act → World → Prop
 | 0, listed, a, w => Region.ready md ops listed = [] ∧ Q .normal a w
 | fuel + 1, listed, a, w =>
  (Region.ready md ops listed = [] → Q .normal a w) ∧
  ∀ i ∈ Region.ready md ops listed, wpOp P ops Q i (fun a' w' => C w' ∧ ∀ w'', Below w'.heap.size w' w'' → wpAnyT P md ops C Q fuel (listed.setIfInBounds i true) a' w'') a w
theorem wpAny_of_T : ∀ (fuel : Nat) (listed : Array Bool) (a : Act) (w : World), wpAnyT P md ops C Q fuel listed a w → wpAny P md ops Q fuel listed a w
 | 0, _, _, _, h => h
 | fuel + 1, _, _, _, h => ⟨h.1, fun i hi => wpOp_mono (fun a' w' h' => wpAny_of_T fuel _ a' w' (h'.2 w' (Below.refl _ _))) (h.2 i hi)⟩
theorem wpAnyT_first (hCg : ∀ w w', C w → Below w.heap.size w w' → C w') {i : Nat} {oi : Oper} {v : Value} (hi : ops[i]? = some oi) (hsel : ∀ (j : Nat) (o : Oper) cs b, ops[j]? = some o → o.op ≠ .select cs b)
  (hQ : ∀ c a d v w, Q (.panic c) (a.put d v) w → Q (.panic c) a w) :
  ∀ (fuel : Nat) (listed : Array Bool) (a : Act) (w : World),
   (∀ j oj, ops[j]? = some oj → j ≠ i → listed.getD j true = false → (∀ e ∈ oj.after, Region.binds md e = true → e.on ≠ i) → oi.apart ops oj = true) →
   i ∈ Region.ready md ops listed → SoftIn P ops C oi v a → C w →
   (∀ w', Below w.heap.size w w' → wpAnyT P md ops C Q fuel (listed.setIfInBounds i true) (a.put oi.dst v) w') → wpAnyT P md ops C Q (fuel + 1) listed a w := by
 intro fuel
 induction fuel with
 | zero =>
  intro listed a w _ hr hy hC H
  refine ⟨fun h => (by rw [h] at hr; cases hr), fun j hj => ?_⟩
  by_cases hji : j = i
  ·subst hji
   exact hy.wpOp hi hC fun w' hw' => ⟨hCg _ _ hC hw', fun w'' hw'' => H w'' (hw'.trans (hw''.mono hw'.size))⟩
  ·have := ready_mono hj hji
   rw [(H w (Below.refl _ _)).1] at this
   cases this
 | succ fuel ih =>
  intro listed a w hfree hr hy hC H
  refine ⟨fun h => (by rw [h] at hr; cases hr), fun j hj => ?_⟩
  by_cases hji : j = i
  ·subst hji
   exact hy.wpOp hi hC fun w' hw' => ⟨hCg _ _ hC hw', fun w'' hw'' => H w'' (hw'.trans (hw''.mono hw'.size))⟩
  ·have h1 := (H w (Below.refl _ _)).2 j (ready_mono hj hji)
   obtain ⟨hjun, oj, hoj, hall⟩ := mem_ready.1 hj
   have hnot : ∀ e ∈ oj.after, Region.binds md e = true → e.on ≠ i := fun e he hb heq => by
    have h1 := hall e he hb
    have h0 := (mem_ready.1 hr).1
    rw [heq] at h1
    rcases Nat.lt_or_ge i listed.size with h' | h'
    ·simp [h'] at h0 h1; rw [h0] at h1; cases h1
    ·simp [Array.getElem?_eq_none h'] at h1
   have h2 := wpOp_putSoft hoj (hfree j oj hoj hji hjun hnot) (fun cs b => hsel i oi cs b hi) (fun cs b => hsel j oj cs b hoj) hQ hy h1
   have hfree' : ∀ k ok, ops[k]? = some ok → k ≠ i → (listed.setIfInBounds j true).getD k true = false →
     (∀ e ∈ ok.after, Region.binds md e = true → e.on ≠ i) → oi.apart ops ok = true := fun k ok hk hki hun hno => by
    refine hfree k ok hk hki ?_ hno
    by_cases hjk : j = k
    ·subst hjk; exact hjun
    ·rw [getD_set_ne true hjk] at hun; exact hun
   refine wpOp_mono (fun a' w' h3 => ⟨h3.2.1, fun w'' hw'' => ih (listed.setIfInBounds j true) a' w'' hfree' (ready_mono hr (Ne.symm hji)) h3.1 (hCg _ _ h3.2.1 hw'') ?_⟩) h2
   intro w3 hw3
   rw [Array.setIfInBounds_comm _ _ hji]
   exact h3.2.2 w3 (hw''.trans (hw3.mono hw''.size))
end
attribute [go_sem] Oper.softAt Oper.softUpon
end Go
/- A region that draws its order: operations whose value hangs on nothing that another one may do come up whenever they like; the others come up in one order only. -/
namespace Go
open Go.RowKit
section
variable {P : Program} {ops : Array Oper} {md : Region.Mode} {C : World → Prop} {Q : Exit → Act → World → Prop}
def Region.planB (md : Region.Mode) (ops : Array Oper) : List (Nat × Bool) → Array Bool → Bool
 | [], listed => (Region.ready md ops listed).isEmpty
 | (i, true) :: p, listed => (Region.ready md ops listed).contains i && Region.free md ops listed i && Region.planB md ops p (listed.setIfInBounds i true)
 | (i, false) :: p, listed => (Region.ready md ops listed) == [i] && Region.planB md ops p (listed.setIfInBounds i true)
def wpPlan (P : Program) (ops : Array Oper) (C : World → Prop) (Q : Exit → Act → World → Prop) : List (Nat × Bool) → Act → World → Prop
 | [], a, w => Q .normal a w
 | (i, true) :: p, a, w => ∃ o v, ops[i]? = some o ∧ SoftIn P ops C o v a ∧ ∀ w'', Below w.heap.size w w'' → wpPlan P ops C Q p (a.put o.dst v) w''
 | (i, false) :: p, a, w => ∃ o, ops[i]? = some o ∧ if Region.wanted o (yielded ops a.tmps) then o.wp P a w (fun a' w' => C w' ∧ ∀ w'', Below w'.heap.size w' w'' → wpPlan P ops C Q p a' w'') Q
  else ∀ w'', Below w.heap.size w w'' → wpPlan P ops C Q p (a.put o.dst undef) w''
theorem wpAnyT_plan (hCg : ∀ w w', C w → Below w.heap.size w w' → C w') (hs : Region.noSelect ops = true) (hQ : ∀ c a d v w, Q (.panic c) (a.put d v) w → Q (.panic c) a w) :
  ∀ (p : List (Nat × Bool)) (listed : Array Bool) (a : Act) (w : World), C w → Region.planB md ops p listed = true → wpPlan P ops C Q p a w → wpAnyT P md ops C Q p.length listed a w
 | [], _, _, _, _, hB, h => ⟨by simpa [Region.planB] using hB, h⟩
 | (i, true) :: p, listed, a, w, hC, hB, h => by
  obtain ⟨o, v, ho, hy, hK⟩ := h
  simp only [Region.planB, Bool.and_eq_true] at hB
  obtain ⟨⟨hr, hf⟩, hB'⟩ := hB
  have hr' : i ∈ Region.ready md ops listed := by simpa using hr
  exact wpAnyT_first hCg ho (Region.noSelect_spec hs) hQ p.length listed a w (Region.free_spec ho hf) hr' hy hC fun w' hw' => wpAnyT_plan hCg hs hQ p _ _ w' (hCg _ _ hC hw') hB' (hK w' hw')
 | (i, false) :: p, listed, a, w, hC, hB, h => by
  obtain ⟨o, ho, h⟩ := h
  simp only [Region.planB, Bool.and_eq_true, beq_iff_eq] at hB
  obtain ⟨hr, hB'⟩ := hB
  refine ⟨fun h => (by rw [hr] at h; cases h), fun j hj => ?_⟩
  rw [hr] at hj
  obtain rfl := List.mem_singleton.1 hj
  unfold wpOp
  rw [ho]
  show if Region.wanted o (yielded ops a.tmps) = true then _ else _
  split
  ·rename_i hw
   rw [if_pos hw] at h
   exact .inl (Oper.wp_mono (fun a' w' h' => ⟨h'.1, fun w'' hw'' => wpAnyT_plan hCg hs hQ p _ a' w'' (hCg _ _ h'.1 hw'') hB' (h'.2 w'' hw'')⟩) h)
  ·rename_i hw
   rw [if_neg hw] at h
   exact ⟨hC, fun w'' hw'' => wpAnyT_plan hCg hs hQ p _ _ w'' (hCg _ _ hC hw'') hB' (h w'' hw'')⟩
/-- the plan in whatever has grown out of a world -/
def wpPlanA (P : Program) (ops : Array Oper) (C : World → Prop) (Q : Exit → Act → World → Prop) (p : List (Nat × Bool)) (a : Act) (W0 : World) : Prop :=
 ∀ w'', Below W0.heap.size W0 w'' → wpPlan P ops C Q p a w''
theorem wp_region_plan {id : Nat} {a : Act} {W : World} (p : List (Nat × Bool)) (B : Nat) (hm : P.follows .mixedOrders = true) (hB : (p.length == ops.size && Region.noSelect ops && Region.planB .any ops p (Array.replicate ops.size false)) = true) (hBW : B ≤ W.heap.size)
  (hQ : ∀ c a d v w, Q (.panic c) (a.put d v) w → Q (.panic c) a w)
  (h : wpPlanA P ops (Below B W) Q p a W) : (Code.region id ops true).wp P Q a W := by
 simp only [Bool.and_eq_true, beq_iff_eq] at hB
 obtain ⟨⟨hlen, hs⟩, hP⟩ := hB
 have hCg : ∀ w w', Below B W w → Below w.heap.size w w' → Below B W w' := fun w w' h1 h2 => h1.trans (h2.mono (Nat.le_trans hBW h1.size))
 refine wp_region_any hm (wpAny_of_T (C := Below B W) _ _ _ _ ?_)
 have := wpAnyT_plan (P := P) (Q := Q) (C := Below B W) (md := .any) (ops := ops) hCg hs hQ p (Array.replicate ops.size false) a { W with drawn := W.drawn + 1 } ((Below.refl B W).drew) hP (h _ ((Below.refl _ W).drew))
 rw [hlen] at this
 exact this
theorem wpPlan_skip {i : Nat} {p : List (Nat × Bool)} {a : Act} {w : World} (o : Oper) (ho : ops[i]? = some o) (hw : Region.wanted o (yielded ops a.tmps) = false)
  (h : ∀ w'', Below w.heap.size w w'' → wpPlan P ops C Q p (a.put o.dst undef) w'') : wpPlan P ops C Q ((i, true) :: p) a w := ⟨o, undef, ho, .inr ⟨hw, rfl⟩, h⟩
theorem wpPlan_soft {B i : Nat} {W : World} {p : List (Nat × Bool)} {a : Act} {w : World} (o : Oper) (v : Value) (ho : ops[i]? = some o) (hw : Region.wanted o (yielded ops a.tmps) = true)
  (hv : ∀ w, Below B W w → (∀ b o, b < B → w.cell? ⟨b, o, none⟩ = W.cell? ⟨b, o, none⟩) → o.softAt P a w v)
  (h : ∀ w'', Below w.heap.size w w'' → wpPlan P ops (Below B W) Q p (a.put o.dst v) w'') : wpPlan P ops (Below B W) Q ((i, true) :: p) a w :=
 ⟨o, v, ho, .inl ⟨hw, fun w hb => hv w hb (fun b o h => hb.cell (p := ⟨b, o, none⟩) h)⟩, h⟩
theorem wpPlan_hard {i : Nat} {p : List (Nat × Bool)} {a : Act} {w : World} (o : Oper) (ho : ops[i]? = some o) (hw : Region.wanted o (yielded ops a.tmps) = true)
  (h : ∀ K : Act → World → Prop, (∀ a w, C w → (∀ w'', Below w.heap.size w w'' → wpPlan P ops C Q p a w'') → K a w) → o.wp P a w K Q) : wpPlan P ops C Q ((i, false) :: p) a w := by
 refine ⟨o, ho, ?_⟩
 rw [if_pos hw]
 exact h _ fun _ _ h1 h2 => ⟨h1, h2⟩
theorem wpPlan_hskip {i : Nat} {p : List (Nat × Bool)} {a : Act} {w : World} (o : Oper) (ho : ops[i]? = some o) (hw : Region.wanted o (yielded ops a.tmps) = false)
  (h : ∀ w'', Below w.heap.size w w'' → wpPlan P ops C Q p (a.put o.dst undef) w'') : wpPlan P ops C Q ((i, false) :: p) a w := by
 refine ⟨o, ho, ?_⟩
 rw [if_neg (by rw [hw]; simp)]
 exact h
theorem wpPlanA_skip {l : List Oper} {i : Nat} {p : List (Nat × Bool)} {a : Act} {W0 : World} (o : Oper) (ho : l[i]? = some o) (hw : Region.wanted o (yielded l.toArray a.tmps) = false)
  (h : wpPlanA P l.toArray C Q p (a.put o.dst undef) W0) : wpPlanA P l.toArray C Q ((i, true) :: p) a W0 :=
 fun w hg => wpPlan_skip o (by rw [List.getElem?_toArray]; exact ho) hw fun w2 hg2 => h w2 (hg.trans (hg2.mono hg.size))
theorem wpPlanA_soft {l : List Oper} {B i : Nat} {W W0 : World} {p : List (Nat × Bool)} {a : Act} (o : Oper) (v : Value) (ho : l[i]? = some o) (hw : Region.wanted o (yielded l.toArray a.tmps) = true)
  (hv : ∀ w, Below B W w → (∀ b o, b < B → w.cell? ⟨b, o, none⟩ = W.cell? ⟨b, o, none⟩) → o.softAt P a w v)
  (h : wpPlanA P l.toArray (Below B W) Q p (a.put o.dst v) W0) : wpPlanA P l.toArray (Below B W) Q ((i, true) :: p) a W0 :=
 fun w hg => wpPlan_soft o v (by rw [List.getElem?_toArray]; exact ho) hw hv fun w2 hg2 => h w2 (hg.trans (hg2.mono hg.size))
theorem wpPlanA_hard {l : List Oper} {i : Nat} {p : List (Nat × Bool)} {a : Act} {W0 : World} (o : Oper) (ho : l[i]? = some o) (hw : Region.wanted o (yielded l.toArray a.tmps) = true)
  (h : ∀ w, Below W0.heap.size W0 w → ∀ K : Act → World → Prop, (∀ a w, C w → wpPlanA P l.toArray C Q p a w → K a w) → o.wp P a w K Q) : wpPlanA P l.toArray C Q ((i, false) :: p) a W0 :=
 fun w hg => wpPlan_hard o (by rw [List.getElem?_toArray]; exact ho) hw fun K hK => h w hg K hK
theorem wpPlanA_hskip {l : List Oper} {i : Nat} {p : List (Nat × Bool)} {a : Act} {W0 : World} (o : Oper) (ho : l[i]? = some o) (hw : Region.wanted o (yielded l.toArray a.tmps) = false)
  (h : wpPlanA P l.toArray C Q p (a.put o.dst undef) W0) : wpPlanA P l.toArray C Q ((i, false) :: p) a W0 :=
 fun w hg => wpPlan_hskip o (by rw [List.getElem?_toArray]; exact ho) hw fun w2 hg2 => h w2 (hg.trans (hg2.mono hg.size))
theorem wpPlanA_nil {a : Act} {W0 : World} (h : ∀ w, Below W0.heap.size W0 w → Q .normal a w) : wpPlanA P ops C Q [] a W0 := h
end
end Go
/- A region that draws its order, with one new block that is laid whenever it likes ahead of its use. -/
namespace Go
open Go.RowKit
section
variable {P : Program} {ops : Array Oper} {md : Region.Mode} {C : World → Prop} {Q : Exit → Act → World → Prop} {Φ : Value → World → Prop}
def Region.apartB (ops : Array Oper) (i f : Nat) : Bool := match ops[i]?, ops[f]? with
 | some oi, some o => oi.apart ops o
 | _, _ => false
def Region.ok0 (md : Region.Mode) (ops : Array Oper) : List (Nat × Nat) → Array Bool → Bool
 | [], listed => (Region.ready md ops listed).isEmpty
 | (i, k) :: p, listed =>
  if k = 1 then (Region.ready md ops listed).contains i && Region.free md ops listed i && Region.ok0 md ops p (listed.setIfInBounds i true)
  else if k = 0 then (Region.ready md ops listed) == [i] && Region.ok0 md ops p (listed.setIfInBounds i true)
  else if k = 3 then (Region.ready md ops listed) == [i] && Region.ok0 md ops p (listed.setIfInBounds i true)
  else false
def Region.okA (md : Region.Mode) (ops : Array Oper) (f : Nat) : List (Nat × Nat) → Array Bool → Bool
 | [], _ => false
 | (i, k) :: p, listed =>
  if k = 1 then Region.apartB ops i f && (Region.ready md ops listed).contains i && Region.free md ops listed i && Region.okA md ops f p (listed.setIfInBounds i true)
  else if k = 0 then Region.apartB ops i f && (Region.ready md ops listed) == [i] && Region.okA md ops f p (listed.setIfInBounds i true)
  else if k = 3 then false
  else i == f && Region.ok0 md ops p listed
def Region.okB (md : Region.Mode) (ops : Array Oper) (f : Nat) : List (Nat × Nat) → Array Bool → Bool
 | [], _ => false
 | (i, k) :: p, listed =>
  if k = 1 then (Region.ready md ops listed).contains i && Region.free md ops listed i && Region.okB md ops f p (listed.setIfInBounds i true)
  else if k = 0 then (Region.ready md ops listed).contains i && ((Region.ready md ops listed).all fun j => j == i || j == f) && Region.okA md ops f ((i, 0) :: p) (listed.setIfInBounds f true) && Region.okB md ops f p (listed.setIfInBounds i true)
  else if k = 3 then false
  else i == f && (Region.ready md ops listed) == [f] && Region.ok0 md ops p (listed.setIfInBounds f true)
def wpPlanF (P : Program) (ops : Array Oper) (C : World → Prop) (Q : Exit → Act → World → Prop) (Φ : Value → World → Prop) : List (Nat × Nat) → Act → World → Prop
 | [], a, w => Q .normal a w
 | (i, k) :: p, a, w => ∃ o, ops[i]? = some o ∧
  (if k = 1 then ∃ v, SoftIn P ops C o v a ∧ ∀ w'', Below w.heap.size w w'' → wpPlanF P ops C Q Φ p (a.put o.dst v) w''
   else if k = 0 then (if Region.wanted o (yielded ops a.tmps) then o.wp P a w (fun a' w' => (C w' ∧ Below w.heap.size w w') ∧ ∀ w'', Below w'.heap.size w' w'' → wpPlanF P ops C Q Φ p a' w'') Q
    else ∀ w'', Below w.heap.size w w'' → wpPlanF P ops C Q Φ p (a.put o.dst undef) w'')
   else if k = 3 then (if Region.wanted o (yielded ops a.tmps) then o.wp P a w (fun a' w' => C w' ∧ ∀ w'', Below w'.heap.size w' w'' → wpPlanF P ops C Q Φ p a' w'') Q
    else ∀ w'', Below w.heap.size w w'' → wpPlanF P ops C Q Φ p (a.put o.dst undef) w'')
   else ∀ v w'', Below w.heap.size w w'' → Φ v w'' → wpPlanF P ops C Q Φ p (a.put o.dst v) w'')
theorem wp_putInto {oj : Oper} {d : Option Tmp} {v : Value} {a : Act} {w : World} {K : Act → World → Prop} (h3 : ∀ d', d = some d' → d' ∉ oj.looksAt ops) (h2 : ∀ d', d = some d' → oj.dst ≠ some d')
  (hsj : ∀ cs b, oj.op ≠ .select cs b) (hQ2 : ∀ c a d v w, Q (.panic c) a w → Q (.panic c) (a.put d v) w) (h : oj.wp P a w K Q) :
  oj.wp P (a.put d v) w (fun a' w' => ∃ a1 : Act, a' = a1.put d v ∧ K a1 w') Q := by
 unfold Oper.wp at *
 rw [execOp_put oj hsj a d v h3]
 generalize (execOp a.eval oj).run P w = r at *
 cases r with
 | ok n w' =>
  cases n <;> simp only [Oper.upon] at h ⊢
  case value u => exact ⟨_, Act.put_comm a v u h2, h⟩
  case skip => exact ⟨_, Act.put_comm a v undef h2, h⟩
  case defer x => exact ⟨_, by rw [Act.put_defers]; exact Act.put_comm _ v undef h2, h⟩
  case enter f args =>
   refine Calls.mono h fun e w'' he => ?_
   cases e with
   | returned u => exact ⟨_, Act.put_comm a v u h2, he⟩
   | panicked c => exact hQ2 _ _ _ _ _ he
   | outgrown => exact he
  case row row args => exact Rows.mono h fun u w'' he => ⟨_, Act.put_comm a v u h2, he⟩
 | halt x w' =>
  cases x <;> simp only [Oper.upon] at h ⊢
  case panic u => exact hQ2 _ _ _ _ _ h
theorem wpAnyT_ok0 (hCg : ∀ w w', C w → Below w.heap.size w w' → C w') (hs : Region.noSelect ops = true) (hQ : ∀ c a d v w, Q (.panic c) (a.put d v) w → Q (.panic c) a w) :
  ∀ (p : List (Nat × Nat)) (listed : Array Bool) (a : Act) (w : World), C w → Region.ok0 md ops p listed = true → wpPlanF P ops C Q Φ p a w → wpAnyT P md ops C Q p.length listed a w
 | [], _, _, _, _, hB, h => ⟨by simpa [Region.ok0] using hB, h⟩
 | (i, k) :: p, listed, a, w, hC, hB, h => by
  obtain ⟨o, ho, h⟩ := h
  unfold Region.ok0 at hB
  by_cases h1 : k = 1
  ·rw [if_pos h1] at hB h
   obtain ⟨v, hy, hK⟩ := h
   simp only [Bool.and_eq_true] at hB
   obtain ⟨⟨hr, hf⟩, hB'⟩ := hB
   exact wpAnyT_first hCg ho (Region.noSelect_spec hs) hQ p.length listed a w (Region.free_spec ho hf) (by simpa using hr) hy hC fun w' hw' => wpAnyT_ok0 hCg hs hQ p _ _ w' (hCg _ _ hC hw') hB' (hK w' hw')
  ·rw [if_neg h1] at hB h
   by_cases h0 : k = 0
   ·rw [if_pos h0] at hB h
    simp only [Bool.and_eq_true, beq_iff_eq] at hB
    obtain ⟨hr, hB'⟩ := hB
    refine ⟨fun h => (by rw [hr] at h; cases h), fun j hj => ?_⟩
    rw [hr] at hj
    obtain rfl := List.mem_singleton.1 hj
    unfold wpOp
    rw [ho]
    show if Region.wanted o (yielded ops a.tmps) = true then _ else _
    split
    ·rename_i hw
     rw [if_pos hw] at h
     exact .inl (Oper.wp_mono (fun a' w' h' => ⟨h'.1.1, fun w'' hw'' => wpAnyT_ok0 hCg hs hQ p _ a' w'' (hCg _ _ h'.1.1 hw'') hB' (h'.2 w'' hw'')⟩) h)
    ·rename_i hw
     rw [if_neg hw] at h
     exact ⟨hC, fun w'' hw'' => wpAnyT_ok0 hCg hs hQ p _ _ w'' (hCg _ _ hC hw'') hB' (h w'' hw'')⟩
   ·rw [if_neg h0] at hB h
    by_cases h3 : k = 3
    ·rw [if_pos h3] at hB h
     simp only [Bool.and_eq_true, beq_iff_eq] at hB
     obtain ⟨hr, hB'⟩ := hB
     refine ⟨fun h => (by rw [hr] at h; cases h), fun j hj => ?_⟩
     rw [hr] at hj
     obtain rfl := List.mem_singleton.1 hj
     unfold wpOp
     rw [ho]
     show if Region.wanted o (yielded ops a.tmps) = true then _ else _
     split
     ·rename_i hw
      rw [if_pos hw] at h
      exact .inl (Oper.wp_mono (fun a' w' h' => ⟨h'.1, fun w'' hw'' => wpAnyT_ok0 hCg hs hQ p _ a' w'' (hCg _ _ h'.1 hw'') hB' (h'.2 w'' hw'')⟩) h)
     ·rename_i hw
      rw [if_neg hw] at h
      exact ⟨hC, fun w'' hw'' => wpAnyT_ok0 hCg hs hQ p _ _ w'' (hCg _ _ hC hw'') hB' (h w'' hw'')⟩
    ·rw [if_neg h3] at hB
     cases hB
theorem okA_pos {f : Nat} {p : List (Nat × Nat)} {listed : Array Bool} (h : Region.okA md ops f p listed = true) : 0 < p.length := by
 cases p with
 | nil => cases h
 | cons x p => simp
theorem wpAnyT_okA (hCg : ∀ w w', C w → Below w.heap.size w w' → C w') (hs : Region.noSelect ops = true) (hQ : ∀ c a d v w, Q (.panic c) (a.put d v) w → Q (.panic c) a w)
  (hQ2 : ∀ c a d v w, Q (.panic c) a w → Q (.panic c) (a.put d v) w) (hΦ : ∀ v w w', Φ v w → Below w.heap.size w w' → Φ v w') {f : Nat} {of : Oper} (hof : ops[f]? = some of) (v : Value) :
  ∀ (p : List (Nat × Nat)) (listed : Array Bool) (a : Act) (w : World), C w → Region.okA md ops f p listed = true → Φ v w → wpPlanF P ops C Q Φ p a w → wpAnyT P md ops C Q (p.length - 1) listed (a.put of.dst v) w
 | [], _, _, _, _, hB, _, _ => by cases hB
 | (i, k) :: p, listed, a, w, hC, hB, hv, h => by
  obtain ⟨o, ho, h⟩ := h
  unfold Region.okA at hB
  have ap : Region.apartB ops i f = true → o.apart ops of = true := fun h => by
   unfold Region.apartB at h; rw [ho, hof] at h; exact h
  by_cases h1 : k = 1
  ·rw [if_pos h1] at hB h
   obtain ⟨u, hy, hK⟩ := h
   simp only [Bool.and_eq_true] at hB
   obtain ⟨⟨⟨ha, hr⟩, hf⟩, hB'⟩ := hB
   obtain ⟨a1, a2, a3⟩ := Oper.apart_spec (ap ha)
   have hp := okA_pos hB'
   rw [show ((i, k) :: p).length - 1 = (p.length - 1) + 1 by simp; omega]
   refine wpAnyT_first hCg ho (Region.noSelect_spec hs) hQ (p.length - 1) listed _ w (Region.free_spec ho hf) (by simpa using hr)
    (hy.of_same (execOp_put o (fun cs b => Region.noSelect_spec hs i o cs b ho) a of.dst v a3) (wanted_put o a of.dst v a3)) hC fun w' hw' => ?_
   rw [Act.put_comm a v u (fun d hd hi => a2 d hi hd)]
   exact wpAnyT_okA hCg hs hQ hQ2 hΦ hof v p _ _ w' (hCg _ _ hC hw') hB' (hΦ _ _ _ hv hw') (hK w' hw')
  ·rw [if_neg h1] at hB h
   by_cases h0 : k = 0
   ·rw [if_pos h0] at hB h
    simp only [Bool.and_eq_true, beq_iff_eq] at hB
    obtain ⟨⟨ha, hr⟩, hB'⟩ := hB
    obtain ⟨a1, a2, a3⟩ := Oper.apart_spec (ap ha)
    have hp := okA_pos hB'
    rw [show ((i, k) :: p).length - 1 = (p.length - 1) + 1 by simp; omega]
    refine ⟨fun h => (by rw [hr] at h; cases h), fun j hj => ?_⟩
    rw [hr] at hj
    obtain rfl := List.mem_singleton.1 hj
    unfold wpOp
    rw [ho]
    show if Region.wanted o (yielded ops (a.put of.dst v).tmps) = true then _ else _
    rw [wanted_put o a of.dst v a3]
    have h2' : ∀ d, of.dst = some d → o.dst ≠ some d := fun d hd hi => a2 d hi hd
    split
    ·rename_i hw
     rw [if_pos hw] at h
     refine .inl (Oper.wp_mono ?_ (wp_putInto a3 h2' (fun cs b => Region.noSelect_spec hs j o cs b ho) hQ2 h))
     rintro a' w' ⟨a1', rfl, ⟨hC', hb⟩, hK⟩
     exact ⟨hC', fun w'' hw'' => wpAnyT_okA hCg hs hQ hQ2 hΦ hof v p _ a1' w'' (hCg _ _ hC' hw'') hB' (hΦ _ _ _ hv (hb.trans (hw''.mono hb.size))) (hK w'' hw'')⟩
    ·rename_i hw
     rw [if_neg hw] at h
     rw [Act.put_comm a v undef h2']
     exact ⟨hC, fun w'' hw'' => wpAnyT_okA hCg hs hQ hQ2 hΦ hof v p _ _ w'' (hCg _ _ hC hw'') hB' (hΦ _ _ _ hv hw'') (h w'' hw'')⟩
   ·rw [if_neg h0] at hB h
    by_cases h3 : k = 3
    ·rw [if_pos h3] at hB; cases hB
    rw [if_neg h3] at hB h
    simp only [Bool.and_eq_true, beq_iff_eq] at hB
    obtain ⟨rfl, hB'⟩ := hB
    obtain rfl := Option.some.inj (hof.symm.trans ho)
    exact wpAnyT_ok0 hCg hs hQ p _ _ w hC hB' (h v w (Below.refl _ _) hv)
def wpPlanFA (P : Program) (ops : Array Oper) (C : World → Prop) (Q : Exit → Act → World → Prop) (Φ : Value → World → Prop) (p : List (Nat × Nat)) (a : Act) (W0 : World) : Prop :=
 ∀ w'', Below W0.heap.size W0 w'' → wpPlanF P ops C Q Φ p a w''
theorem wpAnyT_okB (hCg : ∀ w w', C w → Below w.heap.size w w' → C w') (hs : Region.noSelect ops = true) (hQ : ∀ c a d v w, Q (.panic c) (a.put d v) w → Q (.panic c) a w)
  (hQ2 : ∀ c a d v w, Q (.panic c) a w → Q (.panic c) (a.put d v) w) (hΦ : ∀ v w w', Φ v w → Below w.heap.size w w' → Φ v w') {f : Nat} {of : Oper} (hof : ops[f]? = some of)
  (hF : ∀ a w, C w → Region.wanted of (yielded ops a.tmps) = true ∧ of.wp P a w (fun a' w' => ∃ v, a' = a.put of.dst v ∧ Φ v w' ∧ Below w.heap.size w w') Q) :
  ∀ (p : List (Nat × Nat)) (listed : Array Bool) (a : Act) (w : World), C w → Region.okB md ops f p listed = true → wpPlanFA P ops C Q Φ p a w → wpAnyT P md ops C Q p.length listed a w
 | [], _, _, _, _, hB, _ => by cases hB
 | (i, k) :: p, listed, a, w, hC, hB, hA => by
  obtain ⟨o, ho, h⟩ := hA w (Below.refl _ _)
  have hA0 := hA
  unfold Region.okB at hB
  by_cases h1 : k = 1
  ·rw [if_pos h1] at hB h
   obtain ⟨u, hy, hK⟩ := h
   simp only [Bool.and_eq_true] at hB
   obtain ⟨⟨hr, hf⟩, hB'⟩ := hB
   refine wpAnyT_first hCg ho (Region.noSelect_spec hs) hQ p.length listed _ w (Region.free_spec ho hf) (by simpa using hr) hy hC fun w' hw' => ?_
   exact wpAnyT_okB hCg hs hQ hQ2 hΦ hof hF p _ _ w' (hCg _ _ hC hw') hB' (fun w2 hw2 => hK w2 (hw'.trans (hw2.mono hw'.size)))
  ·rw [if_neg h1] at hB h
   by_cases h0 : k = 0
   ·subst h0
    rw [if_pos rfl] at hB h
    simp only [Bool.and_eq_true] at hB
    obtain ⟨⟨⟨hr, hall⟩, hBA⟩, hB'⟩ := hB
    refine ⟨fun h => (by rw [h] at hr; simp at hr), fun j hj => ?_⟩
    have hj2 := List.all_eq_true.1 hall j hj
    simp only [Bool.or_eq_true, beq_iff_eq] at hj2
    rcases hj2 with rfl | rfl
    ·unfold wpOp
     rw [ho]
     show if Region.wanted o (yielded ops a.tmps) = true then _ else _
     split
     ·rename_i hw
      rw [if_pos hw] at h
      exact .inl (Oper.wp_mono (fun a' w' h' => ⟨h'.1.1, fun w'' hw'' => wpAnyT_okB hCg hs hQ hQ2 hΦ hof hF p _ a' w'' (hCg _ _ h'.1.1 hw'') hB' (fun w2 hw2 => h'.2 w2 (hw''.trans (hw2.mono hw''.size)))⟩) h)
     ·rename_i hw
      rw [if_neg hw] at h
      exact ⟨hC, fun w'' hw'' => wpAnyT_okB hCg hs hQ hQ2 hΦ hof hF p _ _ w'' (hCg _ _ hC hw'') hB' (fun w2 hw2 => h w2 (hw''.trans (hw2.mono hw''.size)))⟩
    ·obtain ⟨hwt, hwp⟩ := hF a w hC
     unfold wpOp
     rw [hof]
     show if Region.wanted of (yielded ops a.tmps) = true then _ else _
     rw [if_pos hwt]
     refine .inl (Oper.wp_mono ?_ hwp)
     rintro a' w' ⟨v, rfl, hv, hb⟩
     refine ⟨hCg _ _ hC hb, fun w'' hw'' => ?_⟩
     have hbb := hb.trans (hw''.mono hb.size)
     exact wpAnyT_okA hCg hs hQ hQ2 hΦ hof v ((i, 0) :: p) _ a w'' (hCg _ _ hC hbb) hBA (hΦ _ _ _ hv hw'') (hA0 w'' hbb)
   ·rw [if_neg h0] at hB h
    by_cases h3 : k = 3
    ·rw [if_pos h3] at hB; cases hB
    rw [if_neg h3] at hB h
    simp only [Bool.and_eq_true, beq_iff_eq] at hB
    obtain ⟨⟨rfl, hr⟩, hB'⟩ := hB
    obtain rfl := Option.some.inj (hof.symm.trans ho)
    refine ⟨fun h => (by rw [hr] at h; cases h), fun j hj => ?_⟩
    rw [hr] at hj
    obtain rfl := List.mem_singleton.1 hj
    obtain ⟨hwt, hwp⟩ := hF a w hC
    unfold wpOp
    rw [hof]
    show if Region.wanted of (yielded ops a.tmps) = true then _ else _
    rw [if_pos hwt]
    refine .inl (Oper.wp_mono ?_ hwp)
    rintro a' w' ⟨v, rfl, hv, hb⟩
    refine ⟨hCg _ _ hC hb, fun w'' hw'' => ?_⟩
    have hbb := hb.trans (hw''.mono hb.size)
    exact wpAnyT_ok0 hCg hs hQ p _ _ w'' (hCg _ _ hC hbb) hB' (h v w'' hbb (hΦ _ _ _ hv hw''))
theorem wp_region_planF {id : Nat} {a : Act} {W : World} (p : List (Nat × Nat)) (f B : Nat) (of : Oper) (hof : ops[f]? = some of) (hm : P.follows .mixedOrders = true)
  (hB : (p.length == ops.size && Region.noSelect ops && Region.okB .any ops f p (Array.replicate ops.size false)) = true) (hBW : B ≤ W.heap.size)
  (hQ : ∀ c a d v w, Q (.panic c) (a.put d v) w → Q (.panic c) a w) (hQ2 : ∀ c a d v w, Q (.panic c) a w → Q (.panic c) (a.put d v) w)
  (hΦ : ∀ v w w', Φ v w → Below w.heap.size w w' → Φ v w')
  (hF : ∀ a w, Below B W w → Region.wanted of (yielded ops a.tmps) = true ∧ of.wp P a w (fun a' w' => ∃ v, a' = a.put of.dst v ∧ Φ v w' ∧ Below w.heap.size w w') Q)
  (h : wpPlanFA P ops (Below B W) Q Φ p a W) : (Code.region id ops true).wp P Q a W := by
 simp only [Bool.and_eq_true, beq_iff_eq] at hB
 obtain ⟨⟨hlen, hs⟩, hP⟩ := hB
 have hCg : ∀ w w', Below B W w → Below w.heap.size w w' → Below B W w' := fun w w' h1 h2 => h1.trans (h2.mono (Nat.le_trans hBW h1.size))
 refine wp_region_any hm (wpAny_of_T (C := Below B W) _ _ _ _ ?_)
 have := wpAnyT_okB (P := P) (Q := Q) (C := Below B W) (md := .any) (ops := ops) (Φ := Φ) hCg hs hQ hQ2 hΦ hof hF p (Array.replicate ops.size false) a { W with drawn := W.drawn + 1 } ((Below.refl B W).drew) hP
  (fun w2 hw2 => h w2 (((Below.refl _ W).drew).trans (hw2.mono (Nat.le_refl _))))
 rw [hlen] at this
 exact this
theorem wpPlanFA_soft {l : List Oper} {B i : Nat} {W W0 : World} {p : List (Nat × Nat)} {a : Act} (o : Oper) (v : Value) (ho : l[i]? = some o) (hw : Region.wanted o (yielded l.toArray a.tmps) = true)
  (hv : ∀ w, Below B W w → (∀ b o, b < B → w.cell? ⟨b, o, none⟩ = W.cell? ⟨b, o, none⟩) → o.softAt P a w v)
  (h : wpPlanFA P l.toArray (Below B W) Q Φ p (a.put o.dst v) W0) : wpPlanFA P l.toArray (Below B W) Q Φ ((i, 1) :: p) a W0 :=
 fun w hg => ⟨o, by rw [List.getElem?_toArray]; exact ho, by
  rw [if_pos rfl]
  exact ⟨v, .inl ⟨hw, fun w hb => hv w hb (fun b o h => hb.cell (p := ⟨b, o, none⟩) h)⟩, fun w2 hg2 => h w2 (hg.trans (hg2.mono hg.size))⟩⟩
theorem wpPlanFA_hard {l : List Oper} {i : Nat} {p : List (Nat × Nat)} {a : Act} {W0 : World} (o : Oper) (ho : l[i]? = some o) (hw : Region.wanted o (yielded l.toArray a.tmps) = true)
  (h : ∀ w, Below W0.heap.size W0 w → ∀ K : Act → World → Prop, (∀ a w1, C w1 → Below w.heap.size w w1 → wpPlanFA P l.toArray C Q Φ p a w1 → K a w1) → o.wp P a w K Q) : wpPlanFA P l.toArray C Q Φ ((i, 0) :: p) a W0 :=
 fun w hg => ⟨o, by rw [List.getElem?_toArray]; exact ho, by
  rw [if_neg (by decide), if_pos rfl, if_pos hw]
  exact h w hg _ fun _ _ h1 h2 h3 => ⟨⟨h1, h2⟩, h3⟩⟩
theorem wpPlanFA_float {l : List Oper} {i : Nat} {p : List (Nat × Nat)} {a : Act} {W0 : World} (o : Oper) (ho : l[i]? = some o)
  (h : ∀ v w, Below W0.heap.size W0 w → Φ v w → wpPlanFA P l.toArray C Q Φ p (a.put o.dst v) w) : wpPlanFA P l.toArray C Q Φ ((i, 2) :: p) a W0 :=
 fun w hg => ⟨o, by rw [List.getElem?_toArray]; exact ho, by
  rw [if_neg (by decide), if_neg (by decide), if_neg (by decide)]
  exact fun v w2 hg2 hv => h v w2 (hg.trans (hg2.mono hg.size)) hv w2 (Below.refl _ _)⟩
theorem wpPlanFA_nil {a : Act} {W0 : World} (h : ∀ w, Below W0.heap.size W0 w → Q .normal a w) : wpPlanFA P ops C Q Φ [] a W0 := h
end
end Go
