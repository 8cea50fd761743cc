/- A part of the proofs about chapter 9: contracts of functions and plain laws (Open, Close, PMoney, PDiary, PMore, PQuiet). -/
import Derived.ProofKit
import Derived.Deep.Slices
import Derived.Carry
import Derived.OpenShut
import Derived.Test.YtndhjkammoeikaaGreatDoorRows
import Derived.LaidLaws
import Derived.LaidMore
import Derived.LaidHandle
import Derived.Stop.Joined
import Derived.SevenTiedAt
import Derived.Test.YtndhjkammoeikaaGreatDoorA01
import Derived.Test.YtndhjkammoeikaaGreatDoorA12
import Derived.Test.YtndhjkammoeikaaGreatDoorA05
set_option linter.all false
/- What an argument of plain data is: the leaves of a struct or an array, one behind the other; a slice of such. -/
namespace Go.Proofs.YtndhjkammoeikaaGreatDoor
open Go.RowKit Go.ChangeShapes Go.WideShapes
/-- the leaves of fields that lie one behind the other -/
def leavesF (P : Program) (L : TypeId → Option (List TypeId)) : List Field → Nat → Option (List TypeId)
  | [], _ => some []
  | f :: fs, off =>
    match L f.type with
    | some l => if f.offset = off ∧ P.cellsOf f.type = l.length then (leavesF P L fs (off + l.length)).map (l ++ ·) else none
    | none => none
/-- the leaves of a type of structs and arrays -/
def leaves (P : Program) : Nat → TypeId → Option (List TypeId)
  | 0, _ => none
  | n+1, t =>
    match P.underlying t with
    | some (.struct fs) => (leavesF P (leaves P n) fs.toList 0).bind fun ts => if P.cellsOf t = ts.length then some ts else none
    | some (.array k e) => (leaves P n e).bind fun l => if P.cellsOf e = l.length ∧ P.cellsOf t = k * l.length then some (List.replicate k l).flatten else none
    | some (.int _) => some [t]
    | some .string => some [t]
    | some .bool => some [t]
    | some (.slice _) => some [t]
    | _ => none
section
variable {H : Type} {enc : TypeId × Value → H} {P : Program} {w : World} {base : Nat} {spare : Nat → Bool} {held : Bool}
/-- each cell reads by its leaf's type -/
def LeafAll (enc : TypeId × Value → H) (P : Program) (w : World) (base : Nat) (spare : Nat → Bool) (held : Bool) : List TypeId → List Value → Prop
  | [], [] => True
  | t :: ts, c :: cs => (∃ n y, DataW.trod enc P w base spare held n t [c] = some y) ∧ LeafAll enc P w base spare held ts cs
  | _, _ => False
theorem LeafAll.length : ∀ {ts : List TypeId} {cs : List Value}, LeafAll enc P w base spare held ts cs → cs.length = ts.length
  | [], [], _ => rfl
  | _ :: _, _ :: _, h => by simp [LeafAll.length h.2]
  | [], _ :: _, h => h.elim
  | _ :: _, [], h => h.elim
theorem LeafAll.append : ∀ {ts us : List TypeId} {cs ds : List Value}, LeafAll enc P w base spare held ts cs → LeafAll enc P w base spare held us ds → LeafAll enc P w base spare held (ts ++ us) (cs ++ ds)
  | [], _, [], _, _, h2 => h2
  | _ :: _, _, _ :: _, _, h, h2 => ⟨h.1, LeafAll.append h.2 h2⟩
  | [], _, _ :: _, _, h, _ => h.elim
  | _ :: _, _, [], _, h, _ => h.elim
theorem leavesF_all {L : TypeId → Option (List TypeId)} {cs : List Value} : ∀ (fs : List Field) (off : Nat) (ts : List TypeId), leavesF P L fs off = some ts →
    (∀ f ∈ fs, ∀ l, L f.type = some l → LeafAll enc P w base spare held l ((cs.drop f.offset).take (P.cellsOf f.type))) → LeafAll enc P w base spare held ts ((cs.drop off).take ts.length)
  | [], off, ts, h, _ => by
    simp only [leavesF, Option.some.injEq] at h
    subst h
    simp [LeafAll]
  | f :: fs, off, ts, h, hf => by
    unfold leavesF at h
    cases hL : L f.type with
    | none => rw [hL] at h; cases h
    | some l =>
      rw [hL] at h
      simp only [] at h
      split at h
      · rename_i hc
        cases hr : leavesF P L fs (off + l.length) with
        | none => rw [hr] at h; cases h
        | some r =>
          rw [hr] at h
          simp only [Option.map_some, Option.some.injEq] at h
          subst h
          have h1 := hf f (by simp) l hL
          rw [hc.1, hc.2] at h1
          have h2 := leavesF_all fs (off + l.length) r hr (fun g hg => hf g (by simp [hg]))
          have := h1.append h2
          rw [List.length_append, List.take_add, List.drop_drop]
          exact this
      · cases h
theorem leavesA_all {cs : List Value} {l : List TypeId} : ∀ (k : Nat) (off : Nat), (∀ i, i < k → LeafAll enc P w base spare held l ((cs.drop (off + i * l.length)).take l.length)) →
    LeafAll enc P w base spare held (List.replicate k l).flatten ((cs.drop off).take (k * l.length))
  | 0, _, _ => by simp [LeafAll]
  | k+1, off, h => by
    have h1 := h 0 (by omega)
    rw [Nat.zero_mul, Nat.add_zero] at h1
    have h2 := leavesA_all k (off + l.length) (fun i hi => by
      have := h (i + 1) (by omega)
      rw [show off + l.length + i * l.length = off + (i + 1) * l.length by rw [Nat.add_mul]; omega]
      exact this)
    rw [List.replicate_succ, List.flatten_cons, show (k + 1) * l.length = l.length + k * l.length by rw [Nat.add_mul]; omega, List.take_add, List.drop_drop]
    exact h1.append h2
theorem leaves_trod (n : Nat) : ∀ (t : TypeId) (ts : List TypeId) (fuel : Nat) (cs : List Value) x, leaves P n t = some ts → DataW.trod enc P w base spare held fuel t cs = some x → LeafAll enc P w base spare held ts cs := by
  induction n with
  | zero => intro t ts fuel cs x h; cases h
  | succ n ih =>
    intro t ts fuel cs x h hx
    unfold leaves at h
    split at h
    · rename_i fs hu
      obtain ⟨xs, m, rfl, rfl, hl, hlen, hf⟩ := DataW.trod_struct hu hx
      cases hF : leavesF P (leaves P n) fs.toList 0 with
      | none => rw [hF] at h; cases h
      | some r =>
        rw [hF] at h
        simp only [Option.bind_some] at h
        split at h
        · rename_i hc
          cases h
          have := leavesF_all (enc := enc) (w := w) (base := base) (spare := spare) (held := held) (cs := cs) fs.toList 0 _ hF (fun f hf' l hL => by
            obtain ⟨i, hi, he⟩ := List.mem_iff_getElem.1 hf'
            have hfi : fs[i]? = some f := by
              rw [← he]; simp at hi; simp [hi]
            have h2 := hf i f hfi
            have hxi : i < xs.length := by rw [hlen]; simpa using hi
            rw [List.getElem?_eq_getElem hxi] at h2
            exact ih _ _ _ _ _ hL h2)
          rw [List.drop_zero, List.take_of_length_le (by rw [hl, hc]; exact Nat.le_refl _)] at this
          exact this
        · cases h
    · rename_i k e hu
      obtain ⟨xs, m, rfl, rfl, hl, hlen, hf⟩ := DataW.trod_array hu hx
      cases hL : leaves P n e with
      | none => rw [hL] at h; cases h
      | some l =>
        rw [hL] at h
        simp only [Option.bind_some] at h
        split at h
        · rename_i hc
          cases h
          have hk : cs.length = k * l.length := hl.trans hc.2
          have := leavesA_all (enc := enc) (P := P) (w := w) (base := base) (spare := spare) (held := held) (cs := cs) (l := l) k 0 (fun i hi => by
            have h2 := hf i hi
            rw [List.getElem?_eq_getElem (by omega), hc.1] at h2
            rw [Nat.zero_add]
            exact ih _ _ _ _ _ hL h2)
          rw [List.drop_zero, List.take_of_length_le (by omega)] at this
          exact this
        · cases h
    · rename_i k hu
      cases h
      obtain ⟨v, rfl, _, _⟩ := DataW.trod_int hu hx
      exact ⟨⟨_, _, hx⟩, trivial⟩
    · rename_i hu
      cases h
      obtain ⟨v, rfl, _, _⟩ := DataW.trod_string hu hx
      exact ⟨⟨_, _, hx⟩, trivial⟩
    · rename_i hu
      cases h
      obtain ⟨v, rfl, _⟩ := DataW.trod_bool hu hx
      exact ⟨⟨_, _, hx⟩, trivial⟩
    · rename_i e hu
      cases h
      rcases DataW.trod_slice hu hx with ⟨rfl, _⟩ | ⟨a, len, cap, elems, rest, m, _, rfl, _⟩
      · exact ⟨⟨_, _, hx⟩, trivial⟩
      · exact ⟨⟨_, _, hx⟩, trivial⟩
    · cases h
theorem LeafAll.head {t : TypeId} {ts : List TypeId} {cs : List Value} (h : LeafAll enc P w base spare held (t :: ts) cs) : ∃ c r, cs = c :: r ∧ (∃ n y, DataW.trod enc P w base spare held n t [c] = some y) ∧ LeafAll enc P w base spare held ts r := by
  cases cs with
  | nil => exact h.elim
  | cons c r => exact ⟨c, r, rfl, h.1, h.2⟩
theorem LeafAll.nil {cs : List Value} (h : LeafAll enc P w base spare held [] cs) : cs = [] := by
  cases cs with
  | nil => rfl
  | cons c r => exact h.elim
/-- a first cell that is an integer -/
theorem LeafAll.int {t : TypeId} {ts : List TypeId} {cs : List Value} {k : IntKind} (ht : P.underlying t = some (.int k)) (h : LeafAll enc P w base spare held (t :: ts) cs) : ∃ n r, cs = .int k n :: r ∧ (Lit.int k n).wf = true ∧ LeafAll enc P w base spare held ts r := by
  obtain ⟨c, r, rfl, ⟨n, y, hy⟩, h2⟩ := h.head
  obtain ⟨z, hz, _, hw⟩ := DataW.trod_int ht hy
  cases hz
  exact ⟨z, r, rfl, hw, h2⟩
theorem LeafAll.str {t : TypeId} {ts : List TypeId} {cs : List Value} (ht : P.underlying t = some .string) (h : LeafAll enc P w base spare held (t :: ts) cs) : ∃ s r, cs = .string s :: r ∧ s.size ≤ maxLen ∧ LeafAll enc P w base spare held ts r := by
  obtain ⟨c, r, rfl, ⟨n, y, hy⟩, h2⟩ := h.head
  obtain ⟨z, hz, _, hw⟩ := DataW.trod_string ht hy
  cases hz
  exact ⟨z, r, rfl, hw, h2⟩
/-- a slice whose elements are of leaves alone -/
theorem rdl_open {α : Type} {enc' : α → List Value} {Q : α → Prop} {t e : TypeId} {ts : List TypeId} {size fuel n : Nat} {v : Value} {x : DataW H × List MemPlace} (ht : P.underlying t = some (.slice e)) (hl : leaves P n e = some ts)
    (hs : P.cellsOf e = size) (hlen : ts.length = size) (hpos : 0 < size) (hα : ∀ cs, LeafAll enc P w base spare held ts cs → ∃ x : α, cs = enc' x ∧ Q x) (h : DataW.trod enc P w base spare held fuel t [v] = some x) :
    ∃ A cap l, v = .slice A (List.length l) cap ∧ RdL w size enc' A l ∧ (A = none → cap = 0) ∧ l.length ≤ cap ∧ cap ≤ maxLen ∧ ∀ y ∈ l, Q y := by
  rcases Deep.open_slice ht h with ⟨h1, _⟩ | ⟨a, len, cap, m, k, D, Pl, h1, _, hlc, hcm, hm, _, hel⟩
  · cases h1
    exact ⟨none, 0, [], rfl, ⟨by simp, fun h => absurd h (by simp)⟩, fun _ => rfl, Nat.zero_le _, Nat.zero_le _, by simp⟩
  · cases h1
    have hlm : len ≤ m := by rw [hm]; split <;> omega
    have each : ∀ i, i < len → ∃ y : α, Q y ∧ ∀ j, j < size → w.cell? (a.add (i * size + j)) = (enc' y)[j]? ∧ (enc' y).length = size := by
      intro i hi
      obtain ⟨cs', c1, c2⟩ := hel i (by omega)
      have c3 := leaves_trod n _ _ _ _ _ hl c2
      obtain ⟨y, rfl, hy⟩ := hα _ c3
      obtain ⟨_, hln, hcell⟩ := World.cells?_some c1
      rw [hs] at hln hcell
      refine ⟨y, hy, fun j hj => ⟨?_, hln⟩⟩
      have := hcell j hj
      rw [Deep.add_add] at this
      exact this
    obtain ⟨l, hll, hlq⟩ : ∃ l : List α, l.length = len ∧ ∀ i y, l[i]? = some y → Q y ∧ ∀ j, j < size → w.cell? (a.add (i * size + j)) = (enc' y)[j]? ∧ (enc' y).length = size := by
      clear hel hm hlm h hlc ‹x = _›
      induction len with
      | zero => exact ⟨[], rfl, by simp⟩
      | succ len ih =>
        obtain ⟨l, h1, h2⟩ := ih (fun i hi => each i (by omega))
        obtain ⟨y, h3⟩ := each len (by omega)
        refine ⟨l ++ [y], by simp [h1], fun i z hz => ?_⟩
        by_cases hi : i < l.length
        · rw [List.getElem?_append_left hi] at hz
          exact h2 i z hz
        · have hlt := (List.getElem?_eq_some_iff.1 hz).1
          simp only [List.length_append, List.length_cons, List.length_nil] at hlt
          obtain rfl : i = len := by omega
          rw [List.getElem?_append_right (by omega), h1, Nat.sub_self] at hz
          simp at hz
          subst hz
          exact h3
    have he : ∀ y ∈ l, (enc' y).length = size := by
      intro y hy
      obtain ⟨i, hi, rfl⟩ := List.mem_iff_getElem.1 hy
      exact ((hlq i _ (List.getElem?_eq_getElem hi)).2 0 hpos).2
    have hfl : ∀ (r : List α), (∀ y ∈ r, (enc' y).length = size) → (r.flatMap enc').length = r.length * size := by
      intro r
      induction r with
      | nil => intro _; simp
      | cons y r ih =>
        intro h
        rw [List.flatMap_cons, List.length_append, ih (fun z hz => h z (by simp [hz])), h y (by simp), List.length_cons, Nat.add_mul]; omega
    have hget : ∀ (r : List α), (∀ y ∈ r, (enc' y).length = size) → ∀ (i j : Nat) (y : α), r[i]? = some y → j < size → (r.flatMap enc')[i * size + j]? = (enc' y)[j]? := by
      intro r
      induction r with
      | nil => intro _ i j y hy; simp at hy
      | cons z r ih =>
        intro h i j y hy hj
        cases i with
        | zero =>
          simp at hy; subst hy
          rw [List.flatMap_cons, Nat.zero_mul, Nat.zero_add, List.getElem?_append_left (by rw [h _ (by simp)]; exact hj)]
        | succ i =>
          rw [List.flatMap_cons, List.getElem?_append_right (by rw [h _ (by simp), Nat.add_mul]; omega), h _ (by simp)]
          rw [← ih (fun q hq => h q (by simp [hq])) i j y (by simpa using hy) hj]
          congr 1
          rw [Nat.add_mul]; omega
    refine ⟨some a, cap, l, by rw [hll], ⟨hfl l he, fun h0 => ?_⟩, (fun h => by cases h), by omega, hcm, fun y hy => ?_⟩
    · obtain ⟨b, off, spot⟩ := a
      obtain ⟨y0, hy0⟩ : ∃ y, l[0]? = some y := ⟨_, List.getElem?_eq_getElem h0⟩
      have hc0 := ((hlq 0 y0 hy0).2 0 hpos)
      rw [Nat.zero_mul, Nat.zero_add] at hc0
      obtain ⟨c, hc⟩ : ∃ c, (enc' y0)[0]? = some c := ⟨_, List.getElem?_eq_getElem (by rw [hc0.2]; exact hpos)⟩
      have hcc := hc0.1.trans hc
      have hspot : spot = none := by simpa [Addr.add] using World.cell?_spot hcc
      subst hspot
      refine ⟨b, off, rfl, ?_, fun j hj => ?_⟩
      · have := hcc
        rw [Go.WideShapes.add_plain] at this
        unfold World.cell? at this
        by_cases hb : b < w.heap.size
        · exact hb
        · rw [Array.getElem?_eq_none (Nat.le_of_not_lt hb)] at this
          simp at this
      · rw [hfl l he] at hj
        have hi : j / size < l.length := Nat.div_lt_of_lt_mul (by rw [Nat.mul_comm]; exact hj)
        have hr : j % size < size := Nat.mod_lt _ hpos
        have hq := (hlq _ _ (List.getElem?_eq_getElem hi)).2 _ hr
        have hg := hget l he _ _ _ (List.getElem?_eq_getElem hi) hr
        have hj' : j / size * size + j % size = j := by rw [Nat.mul_comm]; exact Nat.div_add_mod j size
        rw [hj'] at hq hg
        rw [hg, ← hq.1, Go.WideShapes.add_plain]
    · obtain ⟨i, hi, rfl⟩ := List.mem_iff_getElem.1 hy
      exact (hlq i _ (List.getElem?_eq_getElem hi)).1
end
end Go.Proofs.YtndhjkammoeikaaGreatDoor
/- From a law's contract to its row. -/
namespace Go.Proofs.YtndhjkammoeikaaGreatDoor
open Go.ChangeShapes Go.WideShapes Go.ChangeAt Go.RowKit
theorem Tryz.own : ownKnob Tryz.prog.godebug = none := by kernel_rfl
theorem Tryz.laidOut : laidOutB Tryz.prog = true := by kernel_rfl
section
variable {H : Type} {enc : TypeId × Value → H}
theorem trodAll_below {W W' : World} (hb : Below W.heap.size W W') : ∀ (ts : List TypeId) (vs : List Value) (ds : List (DataW H)) (p : List MemPlace), (∀ t ∈ ts, (Tryz.prog.readableRec t && decide (t < Tryz.prog.types.size)) = true) →
    DataW.TrodAll enc Tryz.prog W 0 (fun _ => true) true ts vs ds p → (∀ x ∈ p, x.block < W.heap.size) → DataW.TrodAll enc Tryz.prog W' 0 (fun b => decide (b < W.heap.size)) true ts vs ds p
  | [], [], [], _, _, h, _ => h
  | t :: ts, v :: vs, d :: ds, p, ht, h, hlt => by
    obtain ⟨p1, q1, h1, h2, rfl⟩ := h
    have hh := ht t (by simp)
    rw [Bool.and_eq_true, decide_eq_true_eq] at hh
    exact ⟨p1, q1, Below.trod Tryz.laidOut hh.1 hh.2 h1 hb (fun x hx => hlt x (by simp [hx])), trodAll_below hb ts vs ds q1 (fun t ht' => ht t (by simp [ht'])) h2 (fun x hx => hlt x (by simp [hx])), rfl⟩
  | [], [], _ :: _, _, _, h, _ => h.elim
  | [], _ :: _, _, _, _, h, _ => h.elim
  | _ :: _, [], _, _, _, h, _ => h.elim
  | _ :: _, _ :: _, [], _, _, h, _ => h.elim
theorem post_law {f : Func} {s : ChangeSpec} {W W' : World} {args : Array Value} {ds gs : List (DataW H)} {before : List MemPlace} (hvars : s.vars = []) (hres : f.resultTypes = #[4]) (hro : (f.params.toList.all fun t => Tryz.prog.readableRec t && decide (t < Tryz.prog.types.size)) = true)
    (hfn : gs = [] → s.fn H (ds ++ gs) = { results := [.lit (.bool true)], args := ds }) (hW : DataW.Whole enc Tryz.prog f.params.toList s.vars false W args.toList ds gs before) (hB : Below W.heap.size W W') : s.post enc Tryz.prog f false true false false W args (.bool true) W' := by
  have hlt := hW.lt
  have hW' := hW
  obtain ⟨p, q, hA, hV, rfl, _, _⟩ := hW
  rw [hvars] at hV
  obtain ⟨rfl, rfl⟩ := trodVars_none hV
  have hf := hfn rfl
  refine ⟨ds, [], p ++ [], [], p, [], hW', ?_, ?_, ?_, hB.frame _, fun h => by cases h⟩
  · rw [hf, hres]; exact trodAll_mk1 (shut_bool Tryz.underlying4 true)
  · rw [hf]
    exact trodAll_below hB _ _ _ _ (List.all_eq_true.1 hro) hA (fun x hx => hlt x (by simp [hx]))
  · rw [hf, hvars]; exact rfl
end
def laid3 : List (String × DataW Unit) := Rows.surveyDifferencesRow.laid
set_option maxRecDepth 100000 in
theorem door3 (os : Os) (args : Array Value) : laidMetH Tryz.prog laid3 ((World.doorLaid Tryz.prog 400 os).forCall (fun _ _ => 0) ⟨#[], args, []⟩).memory :=
  laidMetH_of_parts3 (fuel := 8) (laidMet_of_run' 8 (by kernel_rfl) (by kernel_rfl)) (by kernel_rfl) (by kernel_rfl)
theorem door_shaped (os : Os) (args : Array Value) : ((World.doorLaid Tryz.prog 400 os).forCall (fun _ _ => 0) ⟨#[], args, []⟩).Shaped Tryz.prog := World.shaped_of_RefB (by kernel_rfl) (by kernel_rfl)
end Go.Proofs.YtndhjkammoeikaaGreatDoor
/- Plain laws for chapter 9: merging, invoices, diaries. -/
namespace Go.Proofs.YtndhjkammoeikaaGreatDoor
namespace Mo
theorem num_toList {a b : ByteArray} (h : a.toList = b.toList) : num a = num b := by
  unfold num
  have : ∀ (l : List ByteArray) (n : Nat), idxN a l n = idxN b l n := by
    intro l
    induction l with
    | nil => intro n; rfl
    | cons x l ih => intro n; simp only [idxN, h, ih]
  exact this _ _
/-- neighbours -/
def Adj (R : Ent → Ent → Prop) (l : List Ent) : Prop := ∀ (k : Nat) a b, l[k]? = some a → l[k+1]? = some b → R a b
theorem Adj.nil (R : Ent → Ent → Prop) : Adj R [] := by intro k a b h; simp at h
theorem Adj.one (R : Ent → Ent → Prop) (e : Ent) : Adj R [e] := by intro k a b _ h; simp at h
theorem Adj.snoc {R : Ent → Ent → Prop} {r : List Ent} {s e : Ent} (h : Adj R (r ++ [s])) (hR : R s e) : Adj R (r ++ [s] ++ [e]) := by
  intro k a b ha hb
  have hk : k + 1 < (r ++ [s] ++ [e]).length := (List.getElem?_eq_some_iff.1 hb).1
  simp only [List.length_append, List.length_cons, List.length_nil] at hk
  by_cases hlt : k + 1 < r.length + 1
  · rw [List.getElem?_append_left (by simp; omega)] at ha hb
    exact h k a b ha hb
  · obtain rfl : k = r.length := by omega
    rw [List.getElem?_append_left (by simp)] at ha
    rw [List.getElem?_append_right (by simp)] at hb
    simp at ha hb
    subst ha; subst hb
    exact hR
theorem Adj.last {R : Ent → Ent → Prop} {r : List Ent} {s s' : Ent} (h : Adj R (r ++ [s])) (hR : ∀ a, R a s → R a s') : Adj R (r ++ [s']) := by
  intro k a b ha hb
  have hk : k + 1 < (r ++ [s']).length := (List.getElem?_eq_some_iff.1 hb).1
  simp only [List.length_append, List.length_cons, List.length_nil] at hk
  rw [List.getElem?_append_left (by omega)] at ha
  by_cases hlt : k + 1 < r.length
  · rw [List.getElem?_append_left hlt] at hb
    exact h k a b (by rw [List.getElem?_append_left (by omega)]; exact ha) (by rw [List.getElem?_append_left hlt]; exact hb)
  · obtain hk' : k + 1 = r.length := by omega
    rw [hk', List.getElem?_append_right (Nat.le_refl _)] at hb
    simp at hb
    subst hb
    exact hR a (h k a s (by rw [List.getElem?_append_left (by omega)]; exact ha) (by rw [hk', List.getElem?_append_right (Nat.le_refl _)]; simp))
/-- what the neighbours of a merged list are -/
def Rm (Q : Int → Int → Prop) (a b : Ent) : Prop := Q a.t b.f ∧ (a.t = b.f → a.c.toList ≠ b.c.toList)
theorem mtake_inv {Q : Int → Int → Prop} (hQ : ∀ a b, Q a b → a ≤ b) {l : List Ent} (hok : ∀ e ∈ l, EOk e) (hadj : Adj (fun a b => Q a.t b.f) l) (k : Nat) :
    (k + 1 ≤ l.length → ∃ r s e, mtake l (k + 1) = r ++ [s] ∧ l[k]? = some e ∧ s.t = e.t ∧ Adj (Rm Q) (r ++ [s]) ∧ (∀ x ∈ r ++ [s], EOk x) ∧ ((r ++ [s]).head?.map (·.f)) = l.head?.map (·.f)) := by
  induction k with
  | zero =>
    intro hk
    obtain ⟨e, he⟩ : ∃ e, l[0]? = some e := ⟨_, List.getElem?_eq_getElem (by omega)⟩
    refine ⟨[], e, e, ?_, he, rfl, Adj.one _ _, ?_, ?_⟩
    · rw [mtake_succ he, mtake_zero]; rfl
    · intro x hx; simp at hx; subst hx; exact hok _ (List.mem_of_getElem? he)
    · rw [List.head?_eq_getElem?, List.head?_eq_getElem?, he]; rfl
  | succ k ih =>
    intro hk
    obtain ⟨r, s, e, h1, h2, h3, h4, h5, h6⟩ := ih (by omega)
    obtain ⟨e', he'⟩ : ∃ e', l[k+1]? = some e' := ⟨_, List.getElem?_eq_getElem (by omega)⟩
    have hq := hadj k e e' h2 he'
    have ho := hok _ (List.mem_of_getElem? he')
    have hs := h5 s (by simp)
    have hle := hQ _ _ hq
    rw [mtake_succ he', h1]
    cases ht : touch s e'
    · rw [mergeStep_ne _ _ _ ht]
      refine ⟨r ++ [s], e', e', rfl, he', rfl, h4.snoc ⟨by rw [h3]; exact hq, ?_⟩, ?_, ?_⟩
      · intro hf hc
        unfold touch at ht
        rw [hf, hc] at ht
        simp at ht
      · intro x hx
        rw [List.mem_append] at hx
        rcases hx with hx | hx
        · exact h5 x hx
        · simp at hx; subst hx; exact ho
      · rw [← h6]
        cases r <;> rfl
    · rw [mergeStep_eq _ _ _ ht]
      refine ⟨r, ⟨s.f, e'.t, s.c⟩, e', rfl, he', rfl, h4.last (fun a ha => ha), ?_, ?_⟩
      · intro x hx
        rw [List.mem_append] at hx
        rcases hx with hx | hx
        · exact h5 x (by simp [hx])
        · simp at hx; subst hx
          refine ⟨⟨hs.b.1, ?_, ho.b.2.2⟩, hs.n⟩
          have := hs.b.2.1
          have := ho.b.2.1
          show s.f < e'.t
          omega
      · rw [← h6]
        cases r <;> rfl
theorem mergeStep_hrs (r : List Ent) (e : Ent) (i : Int) : hrs (mergeStep r e) i = hrs r i + (if num e.c = i then e.t - e.f else 0) := by
  rcases List.eq_nil_or_concat r with rfl | ⟨r', s, rfl⟩
  · simp [mergeStep_nil, hrs]
  · rw [List.concat_eq_append]
    cases h : touch s e
    · rw [mergeStep_ne _ _ _ h, hrs_append]; simp [hrs]
    · rw [mergeStep_eq _ _ _ h, hrs_append, hrs_append]
      unfold touch at h
      simp at h
      have hn := num_toList h.1
      simp only [hrs, hn, h.2]
      split <;> omega
theorem merged_hrs (l : List Ent) (i : Int) : hrs (merged l) i = hrs l i := by
  have : ∀ k, hrs (mtake l k) i = hrs (l.take k) i := by
    intro k
    induction k with
    | zero => simp [mtake_zero]
    | succ k ih =>
      cases h : l[k]? with
      | some e => rw [mtake_succ h, mergeStep_hrs, ih, hrs_take_succ h]
      | none =>
        have hk := List.getElem?_eq_none_iff.1 h
        have : mtake l (k + 1) = mtake l k := by unfold mtake; rw [List.take_of_length_le (by omega), List.take_of_length_le (by omega)]
        rw [this, ih, List.take_of_length_le (by omega), List.take_of_length_le (by omega)]
  have h := this l.length
  rwa [mtake_all, List.take_length] at h
theorem merged_len (l : List Ent) : (merged l).length ≤ l.length := by
  have := mtake_len l l.length
  rwa [mtake_all] at this
theorem merged_nil : merged [] = [] := rfl
theorem entries_of {l : List Ent} (h1 : l.length ≤ 64) (h2 : ∀ e ∈ l, EOk e) (h3 : Adj (fun a b => a.t ≤ b.f) l) : entries l = 0 := by
  have hz : ∀ k, k < l.length → ent1 l k = 0 := by
    intro k hk
    have he := List.getElem?_eq_getElem hk
    rw [ent1_eq he _ rfl]
    have ho := h2 _ (List.mem_of_getElem? he)
    have hb : badSpan l[k].f l[k].t = false := by
      unfold badSpan
      have := ho.b
      simp; omega
    have hn := ho.n
    rw [hb]
    simp only [Bool.false_eq_true, ↓reduceIte]
    rw [if_neg (by omega)]
    have : decide (0 < k ∧ l[k].f < ((l[k-1]?).getD ⟨0,0,ByteArray.empty⟩).t) = false := by
      apply decide_eq_false
      rintro ⟨hk0, hlt⟩
      have hp := List.getElem?_eq_getElem (l := l) (i := k - 1) (by omega)
      have := h3 (k - 1) _ _ hp (by rw [show k - 1 + 1 = k by omega]; exact he)
      rw [hp] at hlt
      simp at hlt
      omega
    rw [this]; rfl
  unfold entries each
  rw [if_neg (by omega)]
  have : ∀ (m : List Int), (∀ x ∈ m, x = 0) → first m = 0 := by
    intro m
    induction m with
    | nil => intro _; rfl
    | cons x m ih =>
      intro h
      have h0 := h x (by simp)
      subst h0
      simpa [first] using ih (fun y hy => h y (by simp [hy]))
  refine this _ (fun x hx => ?_)
  obtain ⟨k, hk, rfl⟩ := List.mem_map.1 hx
  exact hz k (List.mem_range.1 hk)
theorem adj_of_entries {l : List Ent} (h : entries l = 0) : Adj (fun a b => a.t ≤ b.f) l := by
  obtain ⟨_, _, h3⟩ := entries_ok h
  intro k a b ha hb
  have := h3 (k + 1) b hb (by omega)
  rw [Nat.add_sub_cancel, ha] at this
  exact this
theorem merged_entries {l : List Ent} (h : entries l = 0) : entries (merged l) = 0 := by
  obtain ⟨h1, h2, _⟩ := entries_ok h
  have hl := merged_len l
  rcases Nat.eq_zero_or_pos l.length with h0 | h0
  · obtain rfl := List.eq_nil_of_length_eq_zero h0
    rfl
  · obtain ⟨r, s, e, e1, _, _, e4, e5, _⟩ := mtake_inv (Q := fun a b => a ≤ b) (fun _ _ h => h) h2 (adj_of_entries h) (l.length - 1) (by omega)
    rw [Nat.sub_add_cancel h0, mtake_all] at e1
    rw [e1]
    rw [e1] at hl
    exact entries_of (by omega) e5 (fun k a b ha hb => (e4 k a b ha hb).1)
theorem hh_congr {c : Con} {l m : List Ent} (h : ∀ i, hrs l i = hrs m i) : hh c l = hh c m := by
  funext i
  unfold hh
  simp only [h]
theorem billI_congr {c : Con} {l m : List Ent} (rs : List Res) (h : ∀ i, hrs l i = hrs m i) : billI c l rs = billI c m rs := by
  have hp : prodI c l = prodI c m := by unfold prodI; rw [hh_congr h]
  unfold billI; rw [hp]
theorem diffs_self (a : Inv) : diffs a a = [] := by
  unfold diffs
  simp [dC]
/-- with one more free tick of weather -/
def more (c : Con) : Con := { c with free := c.free + 1 }
theorem lsum_more (c : Con) (rs : List Res) : lsum (more c) rs = lsum c rs := by
  induction rs with
  | nil => rfl
  | cons x rs ih => simp only [lsum, ih]; rfl
theorem hh_more (c : Con) (l : List Ent) (h : c.free < hrs l 2) (i : Nat) : hh (more c) l i = hh c l i - (if i = 2 then 1 else 0) := by
  unfold hh more
  simp only []
  split <;> omega
theorem prodI_more (c : Con) (l : List Ent) (h : c.free < hrs l 2) (i : Nat) : prodI (more c) l i = prodI c l i - (if i = 2 then c.r 2 else 0) := by
  unfold prodI
  rw [hh_more c l h]
  have hr : (more c).r = c.r := rfl
  rw [hr]
  split
  · rename_i h2; subst h2; rw [Int.sub_mul]; omega
  · rw [Int.sub_zero, Int.sub_zero]
theorem billI_more (c : Con) (l : List Ent) (rs : List Res) (h : c.free < hrs l 2) :
    (∀ i, (billI (more c) l rs).c i = (billI c l rs).c i - (if i = 2 then c.r 2 else 0)) ∧ (billI (more c) l rs).lines = (billI c l rs).lines ∧ (billI (more c) l rs).total = (billI c l rs).total - c.r 2 := by
  refine ⟨prodI_more c l h, lsum_more c rs, ?_⟩
  unfold billI
  simp only [lsum_more, psum, prodI_more c l h]
  simp
  omega
theorem con_more {c : Con} (h : con c = 0) (hf : c.free < 100000) : con (more c) = 0 := by
  have hc := con_ok h
  unfold con at h ⊢
  have hrr : rr (more c) = rr c := rfl
  rw [hrr]
  split at h
  · rename_i h1; exact absurd h h1
  · rename_i h1
    rw [if_neg h1]
    have h2 := first_zero h
    have hb := h2 (range c.bonus 0 10000) (by simp)
    have hp := h2 (range c.pen 0 10000) (by simp)
    have hfr : range (more c).free 0 100000 = 0 := by
      unfold range more
      simp only []
      rw [if_neg (by have := hc.free; omega)]
    unfold con3
    rw [hfr]
    show first [0, range c.bonus 0 10000, range c.pen 0 10000] = 0
    rw [hb, hp]; rfl
end Mo
end Go.Proofs.YtndhjkammoeikaaGreatDoor
/- Plain laws for chapter 9: diaries. -/
namespace Go.Proofs.YtndhjkammoeikaaGreatDoor
namespace Mo
theorem ticks_get (C : Nat → ByteArray) (N k : Nat) (h : k < N) : (ticksOf C N)[k]? = some ⟨k, (k : Int) + 1, C k⟩ := by
  unfold ticksOf
  rw [List.getElem?_map, List.getElem?_range h]; rfl
theorem diaC_cases (v : Ves) (u : Wat) (l : List Sgt) (sh we : List Spn) (t : Nat) : diaC v u l sh we t = weather ∨ diaC v u l sh we t = animal ∨ diaC v u l sh we t = shoot ∨ diaC v u l sh we t = share := by
  unfold diaC
  split
  · exact Or.inl rfl
  · split
    · split
      · exact Or.inr (Or.inl rfl)
      · exact Or.inr (Or.inr (Or.inl rfl))
    · exact Or.inr (Or.inr (Or.inr rfl))
theorem diaC_num (v : Ves) (u : Wat) (l : List Sgt) (sh we : List Spn) (t : Nat) : 0 ≤ num (diaC v u l sh we t) ∧ num (diaC v u l sh we t) ≠ 1 ∧ num (diaC v u l sh we t) ≠ 4 := by
  rcases diaC_cases v u l sh we t with h | h | h | h <;> rw [h]
  · rw [num_weather]; decide
  · rw [num_animal]; decide
  · rw [num_shoot]; decide
  · rw [num_share]; decide
theorem ticks_ok (C : Nat → ByteArray) (N : Nat) (hN : N ≤ 4096) (hC : ∀ t, 0 ≤ num (C t)) : ∀ e ∈ ticksOf C N, EOk e := by
  intro e he
  unfold ticksOf at he
  obtain ⟨t, ht, rfl⟩ := List.mem_map.1 he
  have ht := List.mem_range.1 ht
  exact ⟨by show 0 ≤ (t : Int) ∧ (t : Int) < (t : Int) + 1 ∧ (t : Int) + 1 ≤ 100000; omega, hC t, num_lt _⟩
theorem ticks_adj (C : Nat → ByteArray) (N : Nat) : Adj (fun a b => a.t = b.f) (ticksOf C N) := by
  intro k a b ha hb
  have hk := (List.getElem?_eq_some_iff.1 hb).1
  rw [ticksOf_len] at hk
  rw [ticks_get C N k (by omega)] at ha
  rw [ticks_get C N (k+1) hk] at hb
  cases ha; cases hb
  show (k : Int) + 1 = ((k + 1 : Nat) : Int)
  omega
theorem ticks_snoc (C : Nat → ByteArray) (N : Nat) : ticksOf C (N+1) = ticksOf C N ++ [⟨N, (N : Int) + 1, C N⟩] := by
  unfold ticksOf
  rw [List.range_succ, List.map_append]; rfl
theorem ticks_hrs (C : Nat → ByteArray) (N : Nat) (i : Int) (h : ∀ t, num (C t) ≠ i) : hrs (ticksOf C N) i = 0 := by
  induction N with
  | zero => rfl
  | succ N ih =>
    rw [ticks_snoc, hrs_append, ih]
    simp [hrs, h N]
theorem tot_append (a b : List Ent) : tot (a ++ b) = tot a + tot b := by
  unfold tot; simp only [hrs_append]; omega
theorem ticks_tot (C : Nat → ByteArray) (N : Nat) (hN : N ≤ 4096) (hC : ∀ t, 0 ≤ num (C t)) : tot (ticksOf C N) = N := by
  induction N with
  | zero => rfl
  | succ N ih =>
    have ho := ticks_ok C (N+1) hN hC ⟨N, (N : Int) + 1, C N⟩ (by rw [ticks_snoc]; simp)
    rw [ticks_snoc, tot_append, ih (by omega), tot_cons _ _ ho]
    show (N : Int) + ((N : Int) + 1 - N + tot []) = ((N + 1 : Nat) : Int)
    have : tot [] = 0 := rfl
    rw [this]; omega
theorem diaL_law (v : Ves) (u : Wat) (l : List Sgt) (sh we : List Spn) (h0 : 1 ≤ v.n) (h1 : v.n ≤ 4096) :
    (∃ r s, diaL v u l sh we = r ++ [s] ∧ s.t = v.n) ∧ (∀ e ∈ diaL v u l sh we, EOk e) ∧ Adj (Rm (fun a b => a = b)) (diaL v u l sh we) ∧ ((diaL v u l sh we).head?.map (·.f)) = some 0
    ∧ tot (diaL v u l sh we) = v.n ∧ hrs (diaL v u l sh we) 1 = 0 ∧ hrs (diaL v u l sh we) 4 = 0 ∧ (diaL v u l sh we).length ≤ v.n.toNat := by
  obtain ⟨N, hN⟩ : ∃ N : Nat, v.n = N := ⟨v.n.toNat, by omega⟩
  unfold diaL
  rw [hN, Int.toNat_natCast]
  have hC := diaC_num v u l sh we
  obtain ⟨C, hCe⟩ : ∃ C, C = diaC v u l sh we := ⟨_, rfl⟩
  rw [← hCe] at hC ⊢
  have hlen := ticksOf_len C N
  obtain ⟨r, s, e, e1, e2, e3, e4, e5, e6⟩ := mtake_inv (Q := fun a b => a = b) (fun _ _ h => by omega) (ticks_ok C N (by omega) (fun t => (hC t).1)) (ticks_adj C N) (N - 1) (by omega)
  have hm := mtake_all (ticksOf C N)
  rw [hlen] at hm
  rw [Nat.sub_add_cancel (by omega), hm] at e1
  rw [ticks_get C N (N - 1) (by omega)] at e2
  cases e2
  refine ⟨⟨r, s, e1, by rw [e3]; show ((N - 1 : Nat) : Int) + 1 = N; omega⟩, by rw [e1]; exact e5, by rw [e1]; exact e4, ?_, ?_, ?_, ?_, ?_⟩
  · rw [e1, e6, List.head?_eq_getElem?, ticks_get C N 0 (by omega)]; rfl
  · have := ticks_tot C N (by omega) (fun t => (hC t).1)
    unfold tot at this ⊢
    simp only [merged_hrs]
    exact this
  · rw [merged_hrs, ticks_hrs C N 1 (fun t => (hC t).2.1)]
  · rw [merged_hrs, ticks_hrs C N 4 (fun t => (hC t).2.2)]
  · have := merged_len (ticksOf C N)
    omega
theorem diaL_entries (v : Ves) (u : Wat) (l : List Sgt) (sh we : List Spn) (h0 : 1 ≤ v.n) (h1 : v.n ≤ 4096) (h : (diaL v u l sh we).length ≤ 64) : entries (diaL v u l sh we) = 0 := by
  obtain ⟨_, h2, h3, _⟩ := diaL_law v u l sh we h0 h1
  exact entries_of h h2 (fun k a b ha hb => by have := (h3 k a b ha hb).1; omega)
end Mo
end Go.Proofs.YtndhjkammoeikaaGreatDoor
/- Plain laws for chapter 9: milder watches, moved vessels, windows. -/
namespace Go.Proofs.YtndhjkammoeikaaGreatDoor
namespace Mo
structure Milder (a b : Wat) : Prop where
  ring : 0 ≤ b.ring ∧ b.ring ≤ a.ring
  speed : 0 ≤ b.speed ∧ b.speed ≤ a.speed
  loss : b.loss ≤ a.loss
  clear : b.clear ≤ a.clear
  soft : b.soft = a.soft
theorem near_mono {v : Ves} {a b : Wat} (h : Milder a b) (s : Sgt) (k : Int) (hn : near v b s k = true) : near v a s k = true := by
  unfold near at hn ⊢
  split at hn
  · cases hn
  · rename_i hc
    have hl := h.loss
    rw [if_neg (by omega)]
    have hd := of_decide_eq_true hn
    apply decide_eq_true
    have hage : 0 ≤ k - s.t := by omega
    have h1 : b.speed * (k - s.t) ≤ a.speed * (k - s.t) := Int.mul_le_mul_of_nonneg_right h.speed.2 hage
    have h0 : 0 ≤ b.speed * (k - s.t) := Int.mul_nonneg h.speed.1 hage
    have hr := h.ring
    have h2 : 0 ≤ b.ring + b.speed * (k - s.t) := by omega
    have h3 : b.ring + b.speed * (k - s.t) ≤ a.ring + a.speed * (k - s.t) := by omega
    exact Int.le_trans hd (Int.mul_le_mul h3 h3 h2 (Int.le_trans h2 h3))
theorem inside_mono {v : Ves} {a b : Wat} {l m : List Sgt} (h : Milder a b) (hm : ∀ s ∈ m, s ∈ l) (k : Int) (hi : inside v b m k = true) : inside v a l k = true := by
  unfold inside at hi ⊢
  rw [List.any_eq_true] at hi ⊢
  obtain ⟨s, hs, hn⟩ := hi
  exact ⟨s, hm s hs, near_mono h s k hn⟩
theorem quiet_mono {v : Ves} {a b : Wat} {l m : List Sgt} (h : ∀ k : Nat, inside v b m k = true → inside v a l k = true) (t : Nat) : quiet v a l t ≤ quiet v b m t := by
  induction t with
  | zero => simp [quiet]
  | succ t ih =>
    have hb := (quiet_bd v b m t).1
    unfold quiet
    cases h1 : inside v b m t
    · split <;> simp <;> omega
    · rw [h t h1]; simp
theorem level_mono {v : Ves} {a b : Wat} {l m : List Sgt} (h : Milder a b) (hm : ∀ s ∈ m, s ∈ l) (t : Nat) : level v a l t ≤ level v b m t := by
  have hq := quiet_mono (fun k : Nat => inside_mono (v := v) h hm (k : Int)) (t + 1)
  have h1 := h.clear
  have h2 := h.soft
  unfold level
  rw [h2]
  omega
theorem Milder.refl {a : Wat} (h : WOk a) : Milder a a := ⟨⟨h.ring.1, by omega⟩, ⟨h.speed.1, by omega⟩, by omega, by omega, rfl⟩
/-- moved alike -/
def moveV (v : Ves) : Ves := ⟨v.sx + 7, v.sy - 9, v.dx, v.dy, v.n⟩
def moveS (s : Sgt) : Sgt := ⟨s.t, s.x + 7, s.y - 9⟩
theorem near_moved (v : Ves) (u : Wat) (s : Sgt) (k : Int) : near (moveV v) u (moveS s) k = near v u s k := by
  unfold near moveV moveS
  simp only []
  have e1 : v.sx + 7 + k * v.dx - (s.x + 7) = v.sx + k * v.dx - s.x := by omega
  have e2 : v.sy - 9 + k * v.dy - (s.y - 9) = v.sy + k * v.dy - s.y := by omega
  rw [e1, e2]
theorem inside_moved (v : Ves) (u : Wat) (l : List Sgt) (k : Int) : inside (moveV v) u (l.map moveS) k = inside v u l k := by
  unfold inside
  rw [List.any_map]
  congr 1
  funext s
  exact near_moved v u s k
theorem quiet_moved (v : Ves) (u : Wat) (l : List Sgt) (t : Nat) : quiet (moveV v) u (l.map moveS) t = quiet v u l t := by
  induction t with
  | zero => rfl
  | succ t ih => unfold quiet; rw [inside_moved, ih]
theorem levels_moved (v : Ves) (u : Wat) (l : List Sgt) : levels (moveV v) u (l.map moveS) = levels v u l := by
  unfold levels
  apply List.map_congr_left
  intro t _
  unfold level
  rw [quiet_moved]
/-- windows -/
theorem allp_iff (p : Nat → Bool) (a d : Nat) : allp p a d = true ↔ ∀ i, i < d → p (a + i) = true := by
  induction d with
  | zero => simp [allp]
  | succ d ih =>
    unfold allp
    rw [Bool.and_eq_true, ih]
    constructor
    · rintro ⟨h1, h2⟩ i hi
      by_cases h : i < d
      · exact h1 i h
      · obtain rfl : i = d := by omega
        exact h2
    · intro h
      exact ⟨fun i hi => h i (by omega), h d (by omega)⟩
theorem search_some (p : Nat → Bool) (K N : Nat) (t : Int) (h : search p K N = (t, 0)) : ∃ n : Nat, t = n ∧ n + K ≤ N + 0 ∧ allp p n K = true ∧ ∀ m, m < n → allp p m K = false := by
  unfold search at h
  split at h
  · rename_i n hn
    have hp := List.find?_some hn
    have hmem := List.mem_of_find?_eq_some hn
    rw [List.mem_range] at hmem
    refine ⟨n, by simpa using (congrArg Prod.fst h).symm, by omega, hp, fun m hm => ?_⟩
    rw [List.find?_range_eq_some] at hn
    have := hn.2.2 m hm
    simpa using this
  · simp at h
theorem search_less (p : Nat → Bool) (K N : Nat) (t : Int) (hK : 2 ≤ K) (h : search p K N = (t, 0)) : ∃ n : Int, search p (K - 1) N = (n, 0) ∧ n ≤ t := by
  obtain ⟨n, rfl, hn, hp, _⟩ := search_some p K N t h
  have hp' : allp p n (K - 1) = true := by
    rw [allp_iff] at hp ⊢
    intro i hi; exact hp i (by omega)
  unfold search
  cases hf : (List.range (N + 1 - (K - 1))).find? (fun t => allp p t (K - 1)) with
  | none =>
    rw [List.find?_eq_none] at hf
    exact absurd hp' (by simpa using hf n (List.mem_range.2 (by omega)))
  | some m =>
    refine ⟨m, rfl, ?_⟩
    rw [List.find?_range_eq_some] at hf
    rcases Nat.lt_or_ge n m with hlt | hge
    · have := hf.2.2 n hlt
      rw [hp'] at this
      cases this
    · omega
end Mo
end Go.Proofs.YtndhjkammoeikaaGreatDoor
/- Plain laws for chapter 9: quiet ticks, silent spans. -/
namespace Go.Proofs.YtndhjkammoeikaaGreatDoor
namespace Mo
def lastI (p : Nat → Bool) : Nat → Int
  | 0 => -1
  | t + 1 => if p t then t else lastI p t
theorem lastI_bd (p : Nat → Bool) (t : Nat) : -1 ≤ lastI p t ∧ lastI p t < t := by
  induction t with
  | zero => simp [lastI]
  | succ t ih => unfold lastI; split <;> omega
theorem quiet_last (v : Ves) (u : Wat) (l : List Sgt) (t : Nat) : quiet v u l t = (t : Int) - 1 - lastI (fun k => inside v u l k) t := by
  induction t with
  | zero => simp [quiet, lastI]
  | succ t ih =>
    unfold quiet lastI
    cases h : inside v u l t
    · simp; rw [ih]; omega
    · simp
theorem level_last (v : Ves) (u : Wat) (l : List Sgt) (t : Nat) : level v u l t = min (u.soft + 1) (max 0 ((t : Int) - lastI (fun k => inside v u l k) (t + 1) - u.clear)) := by
  unfold level; rw [quiet_last]; congr 2; omega
def cov (rs : List Spn) (t : Int) : Nat := rs.countP (fun s => decide (s.f ≤ t) && decide (t < s.t))
theorem cov_append (a b : List Spn) (t : Int) : cov (a ++ b) t = cov a t + cov b t := by unfold cov; exact List.countP_append ..
theorem cov_one (s : Spn) (t : Int) : cov [s] t = if s.f ≤ t ∧ t < s.t then 1 else 0 := by
  unfold cov
  by_cases h1 : s.f ≤ t <;> by_cases h2 : t < s.t <;> simp [h1, h2]
theorem cov_step (r : List Spn) (N : Nat) (t : Nat) (h : ∀ s ∈ r, 0 ≤ s.f ∧ s.f < s.t ∧ s.t ≤ N) : cov (runsStep r N) t = cov r t + if t = N then 1 else 0 := by
  rcases List.eq_nil_or_concat r with rfl | ⟨r', s, rfl⟩
  · rw [runsStep_nil, cov_one]
    have : cov [] t = 0 := rfl
    rw [this]
    by_cases h : t = N
    · subst h; simp; omega
    · rw [if_neg h, if_neg (by simp; omega)]
  · rw [List.concat_eq_append] at h ⊢
    have hs := h s (by simp)
    by_cases he : s.t = N
    · rw [runsStep_eq _ _ _ he, cov_append, cov_append, cov_one, cov_one]
      by_cases ht : t = N
      · subst ht
        rw [if_pos (by simp; omega), if_neg (by simp; omega), if_pos rfl]
      · rw [if_neg ht]
        by_cases h1 : s.f ≤ (t : Int) ∧ (t : Int) < s.t
        · rw [if_pos h1, if_pos (by simp; omega)]
        · rw [if_neg h1, if_neg (by simp; omega)]
    · rw [runsStep_ne _ _ _ he, cov_append, cov_one]
      congr 1
      by_cases ht : t = N
      · subst ht; rw [if_pos (by simp; omega), if_pos rfl]
      · rw [if_neg (by simp; omega), if_neg ht]
theorem cov_runs (p : Nat → Bool) (N : Nat) (t : Nat) : cov (runs p N) t = if t < N ∧ p t = true then 1 else 0 := by
  induction N with
  | zero => simp [runs, cov]
  | succ N ih =>
    unfold runs
    cases hp : p N
    · simp only [Bool.false_eq_true, if_false]
      rw [ih]
      by_cases h : t < N ∧ p t = true
      · rw [if_pos h, if_pos ⟨by omega, h.2⟩]
      · rw [if_neg h, if_neg]
        rintro ⟨h1, h2⟩
        by_cases h3 : t = N
        · subst h3; rw [hp] at h2; cases h2
        · exact h ⟨by omega, h2⟩
    · simp only [if_true]
      rw [cov_step _ _ _ (runs_bd p N), ih]
      by_cases h3 : t = N
      · subst h3; rw [if_neg (by omega), if_pos rfl, if_pos ⟨by omega, hp⟩]
      · rw [if_neg h3]
        by_cases h : t < N ∧ p t = true
        · rw [if_pos h, if_pos ⟨by omega, h.2⟩]
        · rw [if_neg h, if_neg]
          rintro ⟨h1, h2⟩
          exact h ⟨by omega, h2⟩
end Mo
end Go.Proofs.YtndhjkammoeikaaGreatDoor
