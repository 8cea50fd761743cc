/- A part of the proofs about chapter 7 (image): contracts of functions and plain laws (Open, O1). -/
import Derived.ProofKit
import Derived.Deep.Slices
import Derived.Carry
import Derived.OpenShut
import Derived.Test.YtdimmlljjmmdbaaGreatDoorRows
import Derived.LaidLaws
import Derived.LaidMore
import Derived.LaidHandle
import Derived.Stop.Joined
import Derived.SevenTiedAt
import Derived.MakeChecks
import Derived.Stop.LaidErr
import Derived.Lib.LaidTab
import Derived.Lay
import Derived.Test.YtdimmlljjmmdbaaGreatDoorA01
import Derived.Test.YtdimmlljjmmdbaaGreatDoorA02
set_option linter.all false
/- What an argument of plain data is: the leaves of a struct or an array, one behind the other; a slice of such. -/
namespace Go.Proofs.YtdimmlljjmmdbaaGreatDoor
open Go.RowKit Go.ChangeShapes Go.WideShapes
/-- the leaves of fields that lie one behind the other -/
def leavesF (P : Program) (L : TypeId → Option (List TypeId)) : List Field → Nat → Option (List TypeId)
 | [], _ => some []
 | f :: fs, off =>
  match L f.type with
  | some l => if f.offset = off ∧ P.cellsOf f.type = l.length then (leavesF P L fs (off + l.length)).map (l ++ ·) else none
  | none => none
/-- the leaves of a type of structs and arrays -/
def leaves (P : Program) : Nat → TypeId → Option (List TypeId)
 | 0, _ => none
 | n+1, t =>
  match P.underlying t with
  | some (.struct fs) => (leavesF P (leaves P n) fs.toList 0).bind fun ts => if P.cellsOf t = ts.length then some ts else none
  | some (.array k e) => (leaves P n e).bind fun l => if P.cellsOf e = l.length ∧ P.cellsOf t = k * l.length then some (List.replicate k l).flatten else none
  | some (.int _) => some [t]
  | some .string => some [t]
  | some .bool => some [t]
  | some (.slice _) => some [t]
  | _ => none
section
variable {H : Type} {enc : TypeId × Value → H} {P : Program} {w : World} {base : Nat} {spare : Nat → Bool} {held : Bool}
/-- each cell reads by its leaf's type -/
def LeafAll (enc : TypeId × Value → H) (P : Program) (w : World) (base : Nat) (spare : Nat → Bool) (held : Bool) : List TypeId → List Value → Prop
 | [], [] => True
 | t :: ts, c :: cs => (∃ n y, DataW.trod enc P w base spare held n t [c] = some y) ∧ LeafAll enc P w base spare held ts cs
 | _, _ => False
theorem LeafAll.length : ∀ {ts : List TypeId} {cs : List Value}, LeafAll enc P w base spare held ts cs → cs.length = ts.length
 | [], [], _ => rfl
 | _ :: _, _ :: _, h => by simp [LeafAll.length h.2]
 | [], _ :: _, h => h.elim
 | _ :: _, [], h => h.elim
theorem LeafAll.append : ∀ {ts us : List TypeId} {cs ds : List Value}, LeafAll enc P w base spare held ts cs → LeafAll enc P w base spare held us ds → LeafAll enc P w base spare held (ts ++ us) (cs ++ ds)
 | [], _, [], _, _, h2 => h2
 | _ :: _, _, _ :: _, _, h, h2 => ⟨h.1, LeafAll.append h.2 h2⟩
 | [], _, _ :: _, _, h, _ => h.elim
 | _ :: _, _, [], _, h, _ => h.elim
theorem leavesF_all {L : TypeId → Option (List TypeId)} {cs : List Value} : ∀ (fs : List Field) (off : Nat) (ts : List TypeId), leavesF P L fs off = some ts →
  (∀ f ∈ fs, ∀ l, L f.type = some l → LeafAll enc P w base spare held l ((cs.drop f.offset).take (P.cellsOf f.type))) → LeafAll enc P w base spare held ts ((cs.drop off).take ts.length)
 | [], off, ts, h, _ => by
  simp only [leavesF, Option.some.injEq] at h
  subst h
  simp [LeafAll]
 | f :: fs, off, ts, h, hf => by
  unfold leavesF at h
  cases hL : L f.type with
  | none => rw [hL] at h; cases h
  | some l =>
   rw [hL] at h
   simp only [] at h
   split at h
   ·rename_i hc
    cases hr : leavesF P L fs (off + l.length) with
    | none => rw [hr] at h; cases h
    | some r =>
     rw [hr] at h
     simp only [Option.map_some, Option.some.injEq] at h
     subst h
     have h1 := hf f (by simp) l hL
     rw [hc.1, hc.2] at h1
     have h2 := leavesF_all fs (off + l.length) r hr (fun g hg => hf g (by simp [hg]))
     have := h1.append h2
     rw [List.length_append, List.take_add, List.drop_drop]
     exact this
   ·cases h
theorem leavesA_all {cs : List Value} {l : List TypeId} : ∀ (k : Nat) (off : Nat), (∀ i, i < k → LeafAll enc P w base spare held l ((cs.drop (off + i * l.length)).take l.length)) →
  LeafAll enc P w base spare held (List.replicate k l).flatten ((cs.drop off).take (k * l.length))
 | 0, _, _ => by simp [LeafAll]
 | k+1, off, h => by
  have h1 := h 0 (by omega)
  rw [Nat.zero_mul, Nat.add_zero] at h1
  have h2 := leavesA_all k (off + l.length) (fun i hi => by
   have := h (i + 1) (by omega)
   rw [show off + l.length + i * l.length = off + (i + 1) * l.length by rw [Nat.add_mul]; omega]
   exact this)
  rw [List.replicate_succ, List.flatten_cons, show (k + 1) * l.length = l.length + k * l.length by rw [Nat.add_mul]; omega, List.take_add, List.drop_drop]
  exact h1.append h2
theorem leaves_trod (n : Nat) : ∀ (t : TypeId) (ts : List TypeId) (fuel : Nat) (cs : List Value) x, leaves P n t = some ts → DataW.trod enc P w base spare held fuel t cs = some x → LeafAll enc P w base spare held ts cs := by
 induction n with
 | zero => intro t ts fuel cs x h; cases h
 | succ n ih =>
  intro t ts fuel cs x h hx
  unfold leaves at h
  split at h
  ·rename_i fs hu
   obtain ⟨xs, m, rfl, rfl, hl, hlen, hf⟩ := DataW.trod_struct hu hx
   cases hF : leavesF P (leaves P n) fs.toList 0 with
   | none => rw [hF] at h; cases h
   | some r =>
    rw [hF] at h
    simp only [Option.bind_some] at h
    split at h
    ·rename_i hc
     cases h
     have := leavesF_all (enc := enc) (w := w) (base := base) (spare := spare) (held := held) (cs := cs) fs.toList 0 _ hF (fun f hf' l hL => by
      obtain ⟨i, hi, he⟩ := List.mem_iff_getElem.1 hf'
      have hfi : fs[i]? = some f := by
       rw [← he]; simp at hi; simp [hi]
      have h2 := hf i f hfi
      have hxi : i < xs.length := by rw [hlen]; simpa using hi
      rw [List.getElem?_eq_getElem hxi] at h2
      exact ih _ _ _ _ _ hL h2)
     rw [List.drop_zero, List.take_of_length_le (by rw [hl, hc]; exact Nat.le_refl _)] at this
     exact this
    ·cases h
  ·rename_i k e hu
   obtain ⟨xs, m, rfl, rfl, hl, hlen, hf⟩ := DataW.trod_array hu hx
   cases hL : leaves P n e with
   | none => rw [hL] at h; cases h
   | some l =>
    rw [hL] at h
    simp only [Option.bind_some] at h
    split at h
    ·rename_i hc
     cases h
     have hk : cs.length = k * l.length := hl.trans hc.2
     have := leavesA_all (enc := enc) (P := P) (w := w) (base := base) (spare := spare) (held := held) (cs := cs) (l := l) k 0 (fun i hi => by
      have h2 := hf i hi
      rw [List.getElem?_eq_getElem (by omega), hc.1] at h2
      rw [Nat.zero_add]
      exact ih _ _ _ _ _ hL h2)
     rw [List.drop_zero, List.take_of_length_le (by omega)] at this
     exact this
    ·cases h
  ·rename_i k hu
   cases h
   obtain ⟨v, rfl, _, _⟩ := DataW.trod_int hu hx
   exact ⟨⟨_, _, hx⟩, trivial⟩
  ·rename_i hu
   cases h
   obtain ⟨v, rfl, _, _⟩ := DataW.trod_string hu hx
   exact ⟨⟨_, _, hx⟩, trivial⟩
  ·rename_i hu
   cases h
   obtain ⟨v, rfl, _⟩ := DataW.trod_bool hu hx
   exact ⟨⟨_, _, hx⟩, trivial⟩
  ·rename_i e hu
   cases h
   rcases DataW.trod_slice hu hx with ⟨rfl, _⟩ | ⟨a, len, cap, elems, rest, m, _, rfl, _⟩
   ·exact ⟨⟨_, _, hx⟩, trivial⟩
   ·exact ⟨⟨_, _, hx⟩, trivial⟩
  ·cases h
theorem LeafAll.head {t : TypeId} {ts : List TypeId} {cs : List Value} (h : LeafAll enc P w base spare held (t :: ts) cs) : ∃ c r, cs = c :: r ∧ (∃ n y, DataW.trod enc P w base spare held n t [c] = some y) ∧ LeafAll enc P w base spare held ts r := by
 cases cs with
 | nil => exact h.elim
 | cons c r => exact ⟨c, r, rfl, h.1, h.2⟩
theorem LeafAll.nil {cs : List Value} (h : LeafAll enc P w base spare held [] cs) : cs = [] := by
 cases cs with
 | nil => rfl
 | cons c r => exact h.elim
/-- a first cell that is an integer -/
theorem LeafAll.int {t : TypeId} {ts : List TypeId} {cs : List Value} {k : IntKind} (ht : P.underlying t = some (.int k)) (h : LeafAll enc P w base spare held (t :: ts) cs) : ∃ n r, cs = .int k n :: r ∧ (Lit.int k n).wf = true ∧ LeafAll enc P w base spare held ts r := by
 obtain ⟨c, r, rfl, ⟨n, y, hy⟩, h2⟩ := h.head
 obtain ⟨z, hz, _, hw⟩ := DataW.trod_int ht hy
 cases hz
 exact ⟨z, r, rfl, hw, h2⟩
theorem LeafAll.str {t : TypeId} {ts : List TypeId} {cs : List Value} (ht : P.underlying t = some .string) (h : LeafAll enc P w base spare held (t :: ts) cs) : ∃ s r, cs = .string s :: r ∧ s.size ≤ maxLen ∧ LeafAll enc P w base spare held ts r := by
 obtain ⟨c, r, rfl, ⟨n, y, hy⟩, h2⟩ := h.head
 obtain ⟨z, hz, _, hw⟩ := DataW.trod_string ht hy
 cases hz
 exact ⟨z, r, rfl, hw, h2⟩
/-- a slice whose elements are of leaves alone -/
theorem rdl_open {α : Type} {enc' : α → List Value} {Q : α → Prop} {t e : TypeId} {ts : List TypeId} {size fuel n : Nat} {v : Value} {x : DataW H × List MemPlace} (ht : P.underlying t = some (.slice e)) (hl : leaves P n e = some ts)
  (hs : P.cellsOf e = size) (hlen : ts.length = size) (hpos : 0 < size) (hα : ∀ cs, LeafAll enc P w base spare held ts cs → ∃ x : α, cs = enc' x ∧ Q x) (h : DataW.trod enc P w base spare held fuel t [v] = some x) :
  ∃ A cap l, v = .slice A (List.length l) cap ∧ RdL w size enc' A l ∧ (A = none → cap = 0) ∧ l.length ≤ cap ∧ cap ≤ maxLen ∧ ∀ y ∈ l, Q y := by
 rcases Deep.open_slice ht h with ⟨h1, _⟩ | ⟨a, len, cap, m, k, D, Pl, h1, _, hlc, hcm, hm, _, hel⟩
 ·cases h1
  exact ⟨none, 0, [], rfl, ⟨by simp, fun h => absurd h (by simp)⟩, fun _ => rfl, Nat.zero_le _, Nat.zero_le _, by simp⟩
 ·cases h1
  have hlm : len ≤ m := by rw [hm]; split <;> omega
  have each : ∀ i, i < len → ∃ y : α, Q y ∧ ∀ j, j < size → w.cell? (a.add (i * size + j)) = (enc' y)[j]? ∧ (enc' y).length = size := by
   intro i hi
   obtain ⟨cs', c1, c2⟩ := hel i (by omega)
   have c3 := leaves_trod n _ _ _ _ _ hl c2
   obtain ⟨y, rfl, hy⟩ := hα _ c3
   obtain ⟨_, hln, hcell⟩ := World.cells?_some c1
   rw [hs] at hln hcell
   refine ⟨y, hy, fun j hj => ⟨?_, hln⟩⟩
   have := hcell j hj
   rw [Deep.add_add] at this
   exact this
  obtain ⟨l, hll, hlq⟩ : ∃ l : List α, l.length = len ∧ ∀ i y, l[i]? = some y → Q y ∧ ∀ j, j < size → w.cell? (a.add (i * size + j)) = (enc' y)[j]? ∧ (enc' y).length = size := by
   clear hel hm hlm h hlc ‹x = _›
   induction len with
   | zero => exact ⟨[], rfl, by simp⟩
   | succ len ih =>
    obtain ⟨l, h1, h2⟩ := ih (fun i hi => each i (by omega))
    obtain ⟨y, h3⟩ := each len (by omega)
    refine ⟨l ++ [y], by simp [h1], fun i z hz => ?_⟩
    by_cases hi : i < l.length
    ·rw [List.getElem?_append_left hi] at hz
     exact h2 i z hz
    ·have hlt := (List.getElem?_eq_some_iff.1 hz).1
     simp only [List.length_append, List.length_cons, List.length_nil] at hlt
     obtain rfl : i = len := by omega
     rw [List.getElem?_append_right (by omega), h1, Nat.sub_self] at hz
     simp at hz
     subst hz
     exact h3
  have he : ∀ y ∈ l, (enc' y).length = size := by
   intro y hy
   obtain ⟨i, hi, rfl⟩ := List.mem_iff_getElem.1 hy
   exact ((hlq i _ (List.getElem?_eq_getElem hi)).2 0 hpos).2
  have hfl : ∀ (r : List α), (∀ y ∈ r, (enc' y).length = size) → (r.flatMap enc').length = r.length * size := by
   intro r
   induction r with
   | nil => intro _; simp
   | cons y r ih =>
    intro h
    rw [List.flatMap_cons, List.length_append, ih (fun z hz => h z (by simp [hz])), h y (by simp), List.length_cons, Nat.add_mul]; omega
  have hget : ∀ (r : List α), (∀ y ∈ r, (enc' y).length = size) → ∀ (i j : Nat) (y : α), r[i]? = some y → j < size → (r.flatMap enc')[i * size + j]? = (enc' y)[j]? := by
   intro r
   induction r with
   | nil => intro _ i j y hy; simp at hy
   | cons z r ih =>
    intro h i j y hy hj
    cases i with
    | zero =>
     simp at hy; subst hy
     rw [List.flatMap_cons, Nat.zero_mul, Nat.zero_add, List.getElem?_append_left (by rw [h _ (by simp)]; exact hj)]
    | succ i =>
     rw [List.flatMap_cons, List.getElem?_append_right (by rw [h _ (by simp), Nat.add_mul]; omega), h _ (by simp)]
     rw [← ih (fun q hq => h q (by simp [hq])) i j y (by simpa using hy) hj]
     congr 1
     rw [Nat.add_mul]; omega
  refine ⟨some a, cap, l, by rw [hll], ⟨hfl l he, fun h0 => ?_⟩, (fun h => by cases h), by omega, hcm, fun y hy => ?_⟩
  ·obtain ⟨b, off, spot⟩ := a
   obtain ⟨y0, hy0⟩ : ∃ y, l[0]? = some y := ⟨_, List.getElem?_eq_getElem h0⟩
   have hc0 := ((hlq 0 y0 hy0).2 0 hpos)
   rw [Nat.zero_mul, Nat.zero_add] at hc0
   obtain ⟨c, hc⟩ : ∃ c, (enc' y0)[0]? = some c := ⟨_, List.getElem?_eq_getElem (by rw [hc0.2]; exact hpos)⟩
   have hcc := hc0.1.trans hc
   have hspot : spot = none := by simpa [Addr.add] using World.cell?_spot hcc
   subst hspot
   refine ⟨b, off, rfl, ?_, fun j hj => ?_⟩
   ·have := hcc
    rw [Go.WideShapes.add_plain] at this
    unfold World.cell? at this
    by_cases hb : b < w.heap.size
    ·exact hb
    ·rw [Array.getElem?_eq_none (Nat.le_of_not_lt hb)] at this
     simp at this
   ·rw [hfl l he] at hj
    have hi : j / size < l.length := Nat.div_lt_of_lt_mul (by rw [Nat.mul_comm]; exact hj)
    have hr : j % size < size := Nat.mod_lt _ hpos
    have hq := (hlq _ _ (List.getElem?_eq_getElem hi)).2 _ hr
    have hg := hget l he _ _ _ (List.getElem?_eq_getElem hi) hr
    have hj' : j / size * size + j % size = j := by rw [Nat.mul_comm]; exact Nat.div_add_mod j size
    rw [hj'] at hq hg
    rw [hg, ← hq.1, Go.WideShapes.add_plain]
  ·obtain ⟨i, hi, rfl⟩ := List.mem_iff_getElem.1 hy
   exact (hlq i _ (List.getElem?_eq_getElem hi)).1
end
end Go.Proofs.YtdimmlljjmmdbaaGreatDoor
/- From a law's contract to its row. -/
namespace Go.Proofs.YtdimmlljjmmdbaaGreatDoor
open Go.ChangeShapes Go.WideShapes Go.ChangeAt Go.RowKit Go.MakeChecks
set_option maxHeartbeats 1000000
set_option maxRecDepth 100000
theorem Tryz.own : ownKnob Tryz.prog.godebug = none := by kernel_rfl
theorem Tryz.laidOut : laidOutB Tryz.prog = true := by kernel_rfl
section
variable {H : Type} {enc : TypeId × Value → H}
theorem trodAll_below {W W' : World} (hb : Below W.heap.size W W') : ∀ (ts : List TypeId) (vs : List Value) (ds : List (DataW H)) (p : List MemPlace), (∀ t ∈ ts, (Tryz.prog.readableRec t && decide (t < Tryz.prog.types.size)) = true) →
  DataW.TrodAll enc Tryz.prog W 0 (fun _ => true) true ts vs ds p → (∀ x ∈ p, x.block < W.heap.size) → DataW.TrodAll enc Tryz.prog W' 0 (fun b => decide (b < W.heap.size)) true ts vs ds p
 | [], [], [], _, _, h, _ => h
 | t :: ts, v :: vs, d :: ds, p, ht, h, hlt => by
  obtain ⟨p1, q1, h1, h2, rfl⟩ := h
  have hh := ht t (by simp)
  rw [Bool.and_eq_true, decide_eq_true_eq] at hh
  exact ⟨p1, q1, Below.trod Tryz.laidOut hh.1 hh.2 h1 hb (fun x hx => hlt x (by simp [hx])), trodAll_below hb ts vs ds q1 (fun t ht' => ht t (by simp [ht'])) h2 (fun x hx => hlt x (by simp [hx])), rfl⟩
 | [], [], _ :: _, _, _, h, _ => h.elim
 | [], _ :: _, _, _, _, h, _ => h.elim
 | _ :: _, [], _, _, _, h, _ => h.elim
 | _ :: _, _ :: _, [], _, _, h, _ => h.elim
theorem post_law {f : Func} {s : ChangeSpec} {W W' : World} {args : Array Value} {ds gs : List (DataW H)} {before : List MemPlace} (hvars : s.vars = []) (hres : f.resultTypes = #[4]) (hro : (f.params.toList.all fun t => Tryz.prog.readableRec t && decide (t < Tryz.prog.types.size)) = true)
  (hfn : gs = [] → s.fn H (ds ++ gs) = { results := [.lit (.bool true)], args := ds }) (hW : DataW.Whole enc Tryz.prog f.params.toList s.vars false W args.toList ds gs before) (hB : Below W.heap.size W W') : s.post enc Tryz.prog f false true false false W args (.bool true) W' := by
 have hlt := hW.lt
 have hW' := hW
 obtain ⟨p, q, hA, hV, rfl, _, _⟩ := hW
 rw [hvars] at hV
 obtain ⟨rfl, rfl⟩ := trodVars_none hV
 have hf := hfn rfl
 refine ⟨ds, [], p ++ [], [], p, [], hW', ?_, ?_, ?_, hB.frame _, fun h => by cases h⟩
 ·rw [hf, hres]; exact trodAll_mk1 (shut_bool Tryz.underlying4 true)
 ·rw [hf]
  exact trodAll_below hB _ _ _ _ (List.all_eq_true.1 hro) hA (fun x hx => hlt x (by simp [hx]))
 ·rw [hf, hvars]; exact rfl
end
/-- the way from a contract at each shaped world to the row's runs -/
theorem handed_shaped {H : Type} {enc : TypeId × Value → H} {C : Checked} {os : Os} {f : FuncId} {fn : Func} {s : ChangeSpec} {X : World → Array Value → Prop}
  (hX : ∀ (w w' : World) (args : Array Value), w.heap = w'.heap → X w args → X w' args) (own : ownKnob C.prog.godebug = none) (started : os.Started) (noInit : C.prog.inits.idxOf? f = none) (hfn : C.prog.funcs[f]? = some fn)
  (witness : ∃ (w : World) (tape : Tape) (i : Input), w.os = os ∧ (w.forCall tape i).Shaped C.prog ∧ i.vars = [] ∧ Input.okWide C.prog (w.forCall tape i) .any w.heap.size f i ∧
   ((s.pre enc C.prog fn [] false (w.forCall tape i).memory i.args ∧ X (w.forCall tape i).memory i.args) ∧ sizedMet enc C.prog fn (OpenSpec.ofChange s) false (w.forCall tape i).memory i.args) ∧ ({} : Assume).holds C.prog (lone (Frame.enter C.prog f i.args .normal) [] (w.forCall tape i)))
  (contract : ∀ (W : World) (base : Nat) (args : Array Value) (ds gs : List (DataW H)) (before : List MemPlace), W.ShapedOpen C.prog →
   (∀ (j : Nat) t v, fn.params[j]? = some t → args[j]? = some v → Value.okWide C.prog W .any base t v) →
   DataW.Whole enc C.prog fn.params.toList s.vars false W args.toList ds gs before → X W args →
   Calls C.prog f args W fun e W' => ∃ v, e = .returned v ∧ s.post enc C.prog fn false true false false W args v W') :
  ReturnsInHanded {} C os f .any (fun w args => (s.pre enc C.prog fn [] false w args ∧ X w args) ∧ sizedMet enc C.prog fn (OpenSpec.ofChange s) false w args) (s.post enc C.prog fn false true false false) := by
 refine returnsInHanded_of_calls own started noInit witness fun w tape i _ hsh _ hok hpre _ => ?_
 obtain ⟨⟨⟨ds, gs, before, hw, _⟩, hx⟩, _⟩ := hpre
 obtain ⟨_, _, _, fn', hfn', _, _, _, _, hval⟩ := hok
 obtain rfl : fn' = fn := Option.some.inj (hfn'.symm.trans hfn)
 refine (contract (w.forCall tape i) w.heap.size i.args ds gs before hsh hval (DataW.Whole.of_heap (w := (w.forCall tape i).memory) (w' := w.forCall tape i) (by rfl) hw) (hX (w.forCall tape i).memory (w.forCall tape i) _ (by rfl) hx)).mono fun e W' ⟨v, he, hp⟩ => ?_
 subst he
 exact ChangeSpec.post_blind hp
def laidT : List (String × DataW Unit) := Rows.imageInnersRow.laid
theorem laid_plain (w : World) (h : laidMetH Tryz.prog laidT w) : laidMet Tryz.prog laidT w := by
 rw [laidMetH_plain Tryz.prog laidT w (by kernel_rfl)] at h
 exact h
section
variable {H : Type} {enc : TypeId × Value → H} {w : World} {base : Nat} {spare : Nat → Bool} {held : Bool}
/-- a pair of integers, read -/
theorem pair_cells {e : TypeId} {n : Nat} {cs : List Value} {x : DataW H × List MemPlace} (ht : Tryz.prog.underlying e = some (.array 2 3)) (h3 : Tryz.prog.cellsOf 3 = 1) (hc : Tryz.prog.cellsOf e = 2)
  (h : DataW.trod enc Tryz.prog w base spare held n e cs = some x) : ∃ a b, cs = [.int .i64 a, .int .i64 b] ∧ x.1 = .agg [.lit (.int .i64 a), .lit (.int .i64 b)] := by
 obtain ⟨xs, m, rfl, rfl, hl, hx, hf⟩ := DataW.trod_array ht h
 rw [hc] at hl
 match cs, hl with
 | [c0, c1], _ =>
  match xs, hx with
  | [x0, x1], _ =>
   have f0 := hf 0 (by omega)
   have f1 := hf 1 (by omega)
   rw [h3] at f0 f1
   obtain ⟨a, ea, ha, _⟩ := DataW.trod_int Tryz.underlying3 (show DataW.trod enc Tryz.prog w base spare held m 3 [c0] = some x0 by simpa using f0)
   obtain ⟨b, eb, hb, _⟩ := DataW.trod_int Tryz.underlying3 (show DataW.trod enc Tryz.prog w base spare held m 3 [c1] = some x1 by simpa using f1)
   simp at ea eb
   subst ea; subst eb; subst ha; subst hb
   exact ⟨a, b, rfl, rfl⟩
end
theorem steps_of (w : World) (h : laidMetH Tryz.prog laidT w) : Steps w := by
 have hl1 := laid_plain w h
 have hl2 : laidMet Tryz.prog (laidT.drop 3) w := hl1.tail.tail.tail
 obtain ⟨ps, ⟨g', t', cs, fuel, p, q, hg', ht', hvar, hd, _, _⟩, _⟩ := hl2
 have hg0 : some g' = some 0 := Eq.trans hg'.symm (by kernel_rfl)
 have hty : (Tryz.prog.globals[0]?).map (·.type) = some 222 := by kernel_rfl
 obtain rfl := Option.some.inj hg0
 obtain rfl := Option.some.inj (hty.symm.trans ht')
 obtain ⟨xs, m, rfl, hx, hl, hn, hf⟩ := DataW.trod_array Tryz.underlying222 hd
 have hc1 : Tryz.prog.cellsOf 222 = 16 := by kernel_rfl
 have hc2 : Tryz.prog.cellsOf 221 = 2 := by kernel_rfl
 have hc3 : Tryz.prog.cellsOf 3 = 1 := by kernel_rfl
 rw [hc1] at hl
 rw [hc2] at hf
 have hxs : Rows.laid_moveout_image_steps = DataW.agg (xs.map (·.1)) := congrArg Prod.fst hx
 have key : ∀ i, i < 8 → ∃ a b, (cs.toList.drop (i * 2)).take 2 = [.int .i64 a, .int .i64 b] ∧ (xs.map (·.1))[i]? = some (.agg [.lit (.int .i64 a), .lit (.int .i64 b)]) := by
  intro i hi
  have h1 := hf i hi
  have hix : i < xs.length := by omega
  rw [List.getElem?_eq_getElem hix] at h1
  obtain ⟨a, b, e1, e2⟩ := pair_cells Tryz.underlying221 hc3 hc2 h1
  exact ⟨a, b, e1, by rw [List.getElem?_map, List.getElem?_eq_getElem hix]; simp [e2]⟩
 have hlist : xs.map (·.1) = [.agg [.lit (.int .i64 (-1)), .lit (.int .i64 (-1))], .agg [.lit (.int .i64 0), .lit (.int .i64 (-1))], .agg [.lit (.int .i64 1), .lit (.int .i64 (-1))], .agg [.lit (.int .i64 (-1)), .lit (.int .i64 0)], .agg [.lit (.int .i64 1), .lit (.int .i64 0)], .agg [.lit (.int .i64 (-1)), .lit (.int .i64 1)], .agg [.lit (.int .i64 0), .lit (.int .i64 1)], .agg [.lit (.int .i64 1), .lit (.int .i64 1)]] := by
  have := hxs.symm
  unfold Rows.laid_moveout_image_steps at this
  simpa using this
 rw [hlist] at key
 have cell : ∀ i, i < 8 → ∀ j, j < 2 → cs.toList[i * 2 + j]? = (encI stepL)[i * 2 + j]? := by
  intro i hi j hj
  obtain ⟨a, b, e1, e2⟩ := key i hi
  have h1 : cs.toList[i * 2 + j]? = ((cs.toList.drop (i * 2)).take 2)[j]? := by
   rw [List.getElem?_take, if_pos hj, List.getElem?_drop]
  rw [h1, e1]
  have h8 : i = 0 ∨ i = 1 ∨ i = 2 ∨ i = 3 ∨ i = 4 ∨ i = 5 ∨ i = 6 ∨ i = 7 := by omega
  have h2 : j = 0 ∨ j = 1 := by omega
  rcases h8 with rfl | rfl | rfl | rfl | rfl | rfl | rfl | rfl <;> simp at e2 <;> obtain ⟨rfl, rfl⟩ := e2 <;> rcases h2 with rfl | rfl <;> rfl
 have hcell : ∀ k, k < 16 → w.cell? ⟨0, k, none⟩ = (encI stepL)[k]? := by
  intro k hk
  have h1 := World.var?_cell hg' hvar k
  rw [h1]
  have h2 := cell (k / 2) (by omega) (k % 2) (by omega)
  rw [show k / 2 * 2 + k % 2 = k by omega] at h2
  rw [← h2, Array.getElem?_toList]
 refine ⟨rfl, fun _ => ⟨0, 0, rfl, ?_, fun j hj => ?_⟩⟩
 ·have h0 := hcell 0 (by omega)
  have h1 : (encI stepL)[0]? = some (.int .i64 (-1)) := rfl
  rw [h1] at h0
  unfold World.cell? at h0
  by_cases hb : 0 < w.heap.size
  ·exact hb
  ·rw [Array.getElem?_eq_none (Nat.le_of_not_lt hb)] at h0
   simp at h0
 ·rw [Nat.zero_add]
  exact hcell j (by simpa [encI, stepL] using hj)
section
variable {H : Type} {enc : TypeId × Value → H} {W : World} {base : Nat} {v : Value} {d : DataW H} {p : List MemPlace}
theorem leaf_arg {t : TypeId} {fs : Array Field} {ts : List TypeId} (hs : Tryz.prog.underlying t = some (.struct fs)) (hv : Value.okWide Tryz.prog W .any base t v) (h : DataW.Trod enc Tryz.prog W 0 (fun _ => true) true t v d p) (hl : leaves Tryz.prog 8 t = some ts) :
  ∃ cs : List Value, v = .agg cs.toArray ∧ LeafAll enc Tryz.prog W 0 (fun _ => true) true ts cs := by
 obtain ⟨cs, rfl, _⟩ := okWide_struct hs hv
 obtain ⟨fuel, hf⟩ := h
 exact ⟨cs.toList, by simp, leaves_trod 8 t ts _ _ _ hl hf⟩
theorem leaf_array {t : TypeId} {k : Nat} {e : TypeId} {ts : List TypeId} (hs : Tryz.prog.underlying t = some (.array k e)) (hv : Value.okWide Tryz.prog W .any base t v) (h : DataW.Trod enc Tryz.prog W 0 (fun _ => true) true t v d p) (hl : leaves Tryz.prog 8 t = some ts) :
  ∃ cs : List Value, v = .agg cs.toArray ∧ LeafAll enc Tryz.prog W 0 (fun _ => true) true ts cs := by
 simp only [Value.okWide, hs] at hv
 obtain ⟨cs, rfl, _⟩ := hv
 obtain ⟨fuel, hf⟩ := h
 exact ⟨cs.toList, by simp, leaves_trod 8 t ts _ _ _ hl hf⟩
theorem cell_arg {t e : TypeId} (ht : Tryz.prog.underlying t = some (.slice e)) (hv : Value.okWide Tryz.prog W .any base t v) (h : DataW.Trod enc Tryz.prog W 0 (fun _ => true) true t v d p) : ∃ n y, DataW.trod enc Tryz.prog W 0 (fun _ => true) true n t [v] = some y := by
 obtain ⟨a, len, cap, rfl⟩ := okWide_slice ht hv
 obtain ⟨fuel, hf⟩ := h
 exact ⟨fuel, _, by simpa [Value.cells] using hf⟩
theorem sl22 {n : Nat} {y : DataW H × List MemPlace} (h : DataW.trod enc Tryz.prog W 0 (fun _ => true) true n 22 [v] = some y) : ∃ A cap l, v = .slice A (List.length l) cap ∧ RdI W A l.length l := by
 have hα : ∀ cs, LeafAll enc Tryz.prog W 0 (fun _ => true) true [3] cs → ∃ x : Int, cs = [Value.int .i64 x] ∧ True := by
  intro cs hc0
  obtain ⟨x0, r0, rfl, _, hc1⟩ := hc0.int Tryz.underlying3
  obtain rfl := hc1.nil
  exact ⟨x0, rfl, trivial⟩
 obtain ⟨A, cap, l, h1, h2, _⟩ := rdl_open (enc' := fun x : Int => [Value.int .i64 x]) (Q := fun _ => True) (ts := [3]) (size := 1) (n := 8) Tryz.underlying22 (by kernel_rfl) (by kernel_rfl) rfl (by decide) hα h
 refine ⟨A, cap, l, h1, ?_⟩
 have e : ∀ l : List Int, l.flatMap (fun x => [Value.int .i64 x]) = encI l := by
  intro l
  induction l with
  | nil => rfl
  | cons a l ih => simp [encI, ih]
 unfold RdL at h2
 rw [e] at h2
 exact h2
theorem open_ints (hv : Value.okWide Tryz.prog W .any base 22 v) (h : DataW.Trod enc Tryz.prog W 0 (fun _ => true) true 22 v d p) : ∃ A cap l, v = .slice A (List.length l) cap ∧ RdI W A l.length l := by
 obtain ⟨n, y, h1⟩ := cell_arg Tryz.underlying22 hv h
 exact sl22 h1
theorem open_ground (hv : Value.okWide Tryz.prog W .any base 24 v) (h : DataW.Trod enc Tryz.prog W 0 (fun _ => true) true 24 v d p) : ∃ c r A cap l, v = .agg #[.int .i64 c, .int .i64 r, .slice A (List.length l) cap] ∧ RdI W A l.length l := by
 obtain ⟨cs, rfl, hc0⟩ := leaf_arg (ts := [3, 3, 22]) Tryz.underlying24 hv h (by kernel_rfl)
 obtain ⟨x0, r0, rfl, _, hc1⟩ := hc0.int Tryz.underlying3
 obtain ⟨x1, r1, rfl, _, hc2⟩ := hc1.int Tryz.underlying3
 obtain ⟨x2, r2, rfl, ⟨n, y, h2⟩, hc3⟩ := hc2.head
 obtain rfl := hc3.nil
 obtain ⟨A, cap, l, rfl, hr⟩ := sl22 h2
 exact ⟨x0, x1, A, cap, l, rfl, hr⟩
end
end Go.Proofs.YtdimmlljjmmdbaaGreatDoor
