/- A part of the proofs about chapter 9: contracts of functions and plain laws (Plan, Args, W64). -/
import Derived.Test.YtndhjkammoeikaaGreatDoorA02
import Derived.Test.YtndhjkammoeikaaGreatDoorA16
import Derived.Test.YtndhjkammoeikaaGreatDoorA10
import Derived.Test.YtndhjkammoeikaaGreatDoorA15
set_option linter.all false
/- A region that draws its order: operations whose value hangs on nothing that another one may do come up whenever they like; the others come up in one order only. -/
namespace Go
open Go.RowKit
section
variable {P : Program} {ops : Array Oper} {md : Region.Mode} {C : World → Prop} {Q : Exit → Act → World → Prop}

def Region.planB (md : Region.Mode) (ops : Array Oper) : List (Nat × Bool) → Array Bool → Bool
  | [], listed => (Region.ready md ops listed).isEmpty
  | (i, true) :: p, listed => (Region.ready md ops listed).contains i && Region.free md ops listed i && Region.planB md ops p (listed.setIfInBounds i true)
  | (i, false) :: p, listed => (Region.ready md ops listed) == [i] && Region.planB md ops p (listed.setIfInBounds i true)

def wpPlan (P : Program) (ops : Array Oper) (C : World → Prop) (Q : Exit → Act → World → Prop) : List (Nat × Bool) → Act → World → Prop
  | [], a, w => Q .normal a w
  | (i, true) :: p, a, w => ∃ o v, ops[i]? = some o ∧ SoftIn P ops C o v a ∧ ∀ w'', Below w.heap.size w w'' → wpPlan P ops C Q p (a.put o.dst v) w''
  | (i, false) :: p, a, w => ∃ o, ops[i]? = some o ∧ if Region.wanted o (yielded ops a.tmps) then o.wp P a w (fun a' w' => C w' ∧ ∀ w'', Below w'.heap.size w' w'' → wpPlan P ops C Q p a' w'') Q
    else ∀ w'', Below w.heap.size w w'' → wpPlan P ops C Q p (a.put o.dst undef) w''

theorem wpAnyT_plan (hCg : ∀ w w', C w → Below w.heap.size w w' → C w') (hs : Region.noSelect ops = true) (hQ : ∀ c a d v w, Q (.panic c) (a.put d v) w → Q (.panic c) a w) :
    ∀ (p : List (Nat × Bool)) (listed : Array Bool) (a : Act) (w : World), C w → Region.planB md ops p listed = true → wpPlan P ops C Q p a w → wpAnyT P md ops C Q p.length listed a w
  | [], _, _, _, _, hB, h => ⟨by simpa [Region.planB] using hB, h⟩
  | (i, true) :: p, listed, a, w, hC, hB, h => by
    obtain ⟨o, v, ho, hy, hK⟩ := h
    simp only [Region.planB, Bool.and_eq_true] at hB
    obtain ⟨⟨hr, hf⟩, hB'⟩ := hB
    have hr' : i ∈ Region.ready md ops listed := by simpa using hr
    exact wpAnyT_first hCg ho (Region.noSelect_spec hs) hQ p.length listed a w (Region.free_spec ho hf) hr' hy hC fun w' hw' => wpAnyT_plan hCg hs hQ p _ _ w' (hCg _ _ hC hw') hB' (hK w' hw')
  | (i, false) :: p, listed, a, w, hC, hB, h => by
    obtain ⟨o, ho, h⟩ := h
    simp only [Region.planB, Bool.and_eq_true, beq_iff_eq] at hB
    obtain ⟨hr, hB'⟩ := hB
    refine ⟨fun h => (by rw [hr] at h; cases h), fun j hj => ?_⟩
    rw [hr] at hj
    obtain rfl := List.mem_singleton.1 hj
    unfold wpOp
    rw [ho]
    show if Region.wanted o (yielded ops a.tmps) = true then _ else _
    split
    · rename_i hw
      rw [if_pos hw] at h
      exact .inl (Oper.wp_mono (fun a' w' h' => ⟨h'.1, fun w'' hw'' => wpAnyT_plan hCg hs hQ p _ a' w'' (hCg _ _ h'.1 hw'') hB' (h'.2 w'' hw'')⟩) h)
    · rename_i hw
      rw [if_neg hw] at h
      exact ⟨hC, fun w'' hw'' => wpAnyT_plan hCg hs hQ p _ _ w'' (hCg _ _ hC hw'') hB' (h w'' hw'')⟩

/-- the plan in whatever has grown out of a world -/
def wpPlanA (P : Program) (ops : Array Oper) (C : World → Prop) (Q : Exit → Act → World → Prop) (p : List (Nat × Bool)) (a : Act) (W0 : World) : Prop :=
  ∀ w'', Below W0.heap.size W0 w'' → wpPlan P ops C Q p a w''
theorem wp_region_plan {id : Nat} {a : Act} {W : World} (p : List (Nat × Bool)) (B : Nat) (hm : P.follows .mixedOrders = true) (hB : (p.length == ops.size && Region.noSelect ops && Region.planB .any ops p (Array.replicate ops.size false)) = true) (hBW : B ≤ W.heap.size)
    (hQ : ∀ c a d v w, Q (.panic c) (a.put d v) w → Q (.panic c) a w)
    (h : wpPlanA P ops (Below B W) Q p a W) : (Code.region id ops true).wp P Q a W := by
  simp only [Bool.and_eq_true, beq_iff_eq] at hB
  obtain ⟨⟨hlen, hs⟩, hP⟩ := hB
  have hCg : ∀ w w', Below B W w → Below w.heap.size w w' → Below B W w' := fun w w' h1 h2 => h1.trans (h2.mono (Nat.le_trans hBW h1.size))
  refine wp_region_any hm (wpAny_of_T (C := Below B W) _ _ _ _ ?_)
  have := wpAnyT_plan (P := P) (Q := Q) (C := Below B W) (md := .any) (ops := ops) hCg hs hQ p (Array.replicate ops.size false) a { W with drawn := W.drawn + 1 } ((Below.refl B W).drew) hP (h _ ((Below.refl _ W).drew))
  rw [hlen] at this
  exact this
theorem wpPlan_skip {i : Nat} {p : List (Nat × Bool)} {a : Act} {w : World} (o : Oper) (ho : ops[i]? = some o) (hw : Region.wanted o (yielded ops a.tmps) = false)
    (h : ∀ w'', Below w.heap.size w w'' → wpPlan P ops C Q p (a.put o.dst undef) w'') : wpPlan P ops C Q ((i, true) :: p) a w := ⟨o, undef, ho, .inr ⟨hw, rfl⟩, h⟩
theorem wpPlan_soft {B i : Nat} {W : World} {p : List (Nat × Bool)} {a : Act} {w : World} (o : Oper) (v : Value) (ho : ops[i]? = some o) (hw : Region.wanted o (yielded ops a.tmps) = true)
    (hv : ∀ w, Below B W w → (∀ b o, b < B → w.cell? ⟨b, o, none⟩ = W.cell? ⟨b, o, none⟩) → o.softAt P a w v)
    (h : ∀ w'', Below w.heap.size w w'' → wpPlan P ops (Below B W) Q p (a.put o.dst v) w'') : wpPlan P ops (Below B W) Q ((i, true) :: p) a w :=
  ⟨o, v, ho, .inl ⟨hw, fun w hb => hv w hb (fun b o h => hb.cell (p := ⟨b, o, none⟩) h)⟩, h⟩
theorem wpPlan_hard {i : Nat} {p : List (Nat × Bool)} {a : Act} {w : World} (o : Oper) (ho : ops[i]? = some o) (hw : Region.wanted o (yielded ops a.tmps) = true)
    (h : ∀ K : Act → World → Prop, (∀ a w, C w → (∀ w'', Below w.heap.size w w'' → wpPlan P ops C Q p a w'') → K a w) → o.wp P a w K Q) : wpPlan P ops C Q ((i, false) :: p) a w := by
  refine ⟨o, ho, ?_⟩
  rw [if_pos hw]
  exact h _ fun _ _ h1 h2 => ⟨h1, h2⟩
theorem wpPlan_hskip {i : Nat} {p : List (Nat × Bool)} {a : Act} {w : World} (o : Oper) (ho : ops[i]? = some o) (hw : Region.wanted o (yielded ops a.tmps) = false)
    (h : ∀ w'', Below w.heap.size w w'' → wpPlan P ops C Q p (a.put o.dst undef) w'') : wpPlan P ops C Q ((i, false) :: p) a w := by
  refine ⟨o, ho, ?_⟩
  rw [if_neg (by rw [hw]; simp)]
  exact h
theorem wpPlanA_skip {l : List Oper} {i : Nat} {p : List (Nat × Bool)} {a : Act} {W0 : World} (o : Oper) (ho : l[i]? = some o) (hw : Region.wanted o (yielded l.toArray a.tmps) = false)
    (h : wpPlanA P l.toArray C Q p (a.put o.dst undef) W0) : wpPlanA P l.toArray C Q ((i, true) :: p) a W0 :=
  fun w hg => wpPlan_skip o (by rw [List.getElem?_toArray]; exact ho) hw fun w2 hg2 => h w2 (hg.trans (hg2.mono hg.size))
theorem wpPlanA_soft {l : List Oper} {B i : Nat} {W W0 : World} {p : List (Nat × Bool)} {a : Act} (o : Oper) (v : Value) (ho : l[i]? = some o) (hw : Region.wanted o (yielded l.toArray a.tmps) = true)
    (hv : ∀ w, Below B W w → (∀ b o, b < B → w.cell? ⟨b, o, none⟩ = W.cell? ⟨b, o, none⟩) → o.softAt P a w v)
    (h : wpPlanA P l.toArray (Below B W) Q p (a.put o.dst v) W0) : wpPlanA P l.toArray (Below B W) Q ((i, true) :: p) a W0 :=
  fun w hg => wpPlan_soft o v (by rw [List.getElem?_toArray]; exact ho) hw hv fun w2 hg2 => h w2 (hg.trans (hg2.mono hg.size))
theorem wpPlanA_hard {l : List Oper} {i : Nat} {p : List (Nat × Bool)} {a : Act} {W0 : World} (o : Oper) (ho : l[i]? = some o) (hw : Region.wanted o (yielded l.toArray a.tmps) = true)
    (h : ∀ w, Below W0.heap.size W0 w → ∀ K : Act → World → Prop, (∀ a w, C w → wpPlanA P l.toArray C Q p a w → K a w) → o.wp P a w K Q) : wpPlanA P l.toArray C Q ((i, false) :: p) a W0 :=
  fun w hg => wpPlan_hard o (by rw [List.getElem?_toArray]; exact ho) hw fun K hK => h w hg K hK
theorem wpPlanA_hskip {l : List Oper} {i : Nat} {p : List (Nat × Bool)} {a : Act} {W0 : World} (o : Oper) (ho : l[i]? = some o) (hw : Region.wanted o (yielded l.toArray a.tmps) = false)
    (h : wpPlanA P l.toArray C Q p (a.put o.dst undef) W0) : wpPlanA P l.toArray C Q ((i, false) :: p) a W0 :=
  fun w hg => wpPlan_hskip o (by rw [List.getElem?_toArray]; exact ho) hw fun w2 hg2 => h w2 (hg.trans (hg2.mono hg.size))
theorem wpPlanA_nil {a : Act} {W0 : World} (h : ∀ w, Below W0.heap.size W0 w → Q .normal a w) : wpPlanA P ops C Q [] a W0 := h
end
end Go
/- The arguments of chapter 9's laws, opened. -/
set_option maxHeartbeats 1000000
set_option maxRecDepth 100000
namespace Go.Proofs.YtndhjkammoeikaaGreatDoor
open Go.ChangeShapes Go.WideShapes Go.ChangeAt Go.RowKit
section
variable {H : Type} {enc : TypeId × Value → H} {W : World} {base : Nat} {v : Value} {d : DataW H} {p : List MemPlace}
theorem leaf_arg {t : TypeId} {fs : Array Field} {ts : List TypeId} (hs : Tryz.prog.underlying t = some (.struct fs)) (hv : Value.okWide Tryz.prog W .any base t v) (h : DataW.Trod enc Tryz.prog W 0 (fun _ => true) true t v d p) (hl : leaves Tryz.prog 8 t = some ts) :
    ∃ cs : List Value, v = .agg cs.toArray ∧ LeafAll enc Tryz.prog W 0 (fun _ => true) true ts cs := by
  obtain ⟨cs, rfl, _⟩ := okWide_struct hs hv
  obtain ⟨fuel, hf⟩ := h
  exact ⟨cs.toList, by simp, leaves_trod 8 t ts _ _ _ hl hf⟩
theorem cell_arg {t e : TypeId} (ht : Tryz.prog.underlying t = some (.slice e)) (hv : Value.okWide Tryz.prog W .any base t v) (h : DataW.Trod enc Tryz.prog W 0 (fun _ => true) true t v d p) : ∃ n y, DataW.trod enc Tryz.prog W 0 (fun _ => true) true n t [v] = some y := by
  obtain ⟨a, len, cap, rfl⟩ := okWide_slice ht hv
  obtain ⟨fuel, hf⟩ := h
  exact ⟨fuel, _, by simpa [Value.cells] using hf⟩
theorem sl28 {n : Nat} {y : DataW H × List MemPlace} (h : DataW.trod enc Tryz.prog W 0 (fun _ => true) true n 28 [v] = some y) : ∃ A cap l, v = .slice A (List.length l) cap ∧ RdL W 3 Sgt.enc A l ∧ (A = none → cap = 0) ∧ l.length ≤ cap ∧ cap ≤ maxLen := by
  have hα : ∀ cs, LeafAll enc Tryz.prog W 0 (fun _ => true) true [3,3,3] cs → ∃ x : Sgt, cs = Sgt.enc x ∧ True := by
    intro cs hc0
    obtain ⟨x0, r0, rfl, _, hc1⟩ := hc0.int Tryz.underlying3
    obtain ⟨x1, r1, rfl, _, hc2⟩ := hc1.int Tryz.underlying3
    obtain ⟨x2, r2, rfl, _, hc3⟩ := hc2.int Tryz.underlying3
    obtain rfl := hc3.nil
    exact ⟨⟨x0, x1, x2⟩, rfl, trivial⟩
  obtain ⟨A, cap, l, h1, h2, h3, h4, h5, _⟩ := rdl_open (enc' := Sgt.enc) (Q := fun _ => True) (ts := [3,3,3]) (size := 3) (n := 8) Tryz.underlying28 (by kernel_rfl) (by kernel_rfl) rfl (by decide) hα h
  exact ⟨A, cap, l, h1, h2, h3, h4, h5⟩
theorem sl61 {n : Nat} {y : DataW H × List MemPlace} (h : DataW.trod enc Tryz.prog W 0 (fun _ => true) true n 61 [v] = some y) : ∃ A cap l, v = .slice A (List.length l) cap ∧ RdL W 2 Fir.enc A l ∧ (A = none → cap = 0) ∧ l.length ≤ cap ∧ cap ≤ maxLen := by
  have hα : ∀ cs, LeafAll enc Tryz.prog W 0 (fun _ => true) true [3,3] cs → ∃ x : Fir, cs = Fir.enc x ∧ True := by
    intro cs hc0
    obtain ⟨x0, r0, rfl, _, hc1⟩ := hc0.int Tryz.underlying3
    obtain ⟨x1, r1, rfl, _, hc2⟩ := hc1.int Tryz.underlying3
    obtain rfl := hc2.nil
    exact ⟨⟨x0, x1⟩, rfl, trivial⟩
  obtain ⟨A, cap, l, h1, h2, h3, h4, h5, _⟩ := rdl_open (enc' := Fir.enc) (Q := fun _ => True) (ts := [3,3]) (size := 2) (n := 8) Tryz.underlying61 (by kernel_rfl) (by kernel_rfl) rfl (by decide) hα h
  exact ⟨A, cap, l, h1, h2, h3, h4, h5⟩
theorem sl42 {n : Nat} {y : DataW H × List MemPlace} (h : DataW.trod enc Tryz.prog W 0 (fun _ => true) true n 42 [v] = some y) : ∃ A cap l, v = .slice A (List.length l) cap ∧ RdL W 2 Spn.enc A l ∧ (A = none → cap = 0) ∧ l.length ≤ cap ∧ cap ≤ maxLen := by
  have hα : ∀ cs, LeafAll enc Tryz.prog W 0 (fun _ => true) true [3,3] cs → ∃ x : Spn, cs = Spn.enc x ∧ True := by
    intro cs hc0
    obtain ⟨x0, r0, rfl, _, hc1⟩ := hc0.int Tryz.underlying3
    obtain ⟨x1, r1, rfl, _, hc2⟩ := hc1.int Tryz.underlying3
    obtain rfl := hc2.nil
    exact ⟨⟨x0, x1⟩, rfl, trivial⟩
  obtain ⟨A, cap, l, h1, h2, h3, h4, h5, _⟩ := rdl_open (enc' := Spn.enc) (Q := fun _ => True) (ts := [3,3]) (size := 2) (n := 8) Tryz.underlying42 (by kernel_rfl) (by kernel_rfl) rfl (by decide) hα h
  exact ⟨A, cap, l, h1, h2, h3, h4, h5⟩
theorem sl79 {n : Nat} {y : DataW H × List MemPlace} (h : DataW.trod enc Tryz.prog W 0 (fun _ => true) true n 79 [v] = some y) : ∃ A cap l, v = .slice A (List.length l) cap ∧ RdL W 3 Ent.enc A l ∧ (A = none → cap = 0) ∧ l.length ≤ cap ∧ cap ≤ maxLen := by
  have hα : ∀ cs, LeafAll enc Tryz.prog W 0 (fun _ => true) true [3,3,9] cs → ∃ x : Ent, cs = Ent.enc x ∧ True := by
    intro cs hc0
    obtain ⟨x0, r0, rfl, _, hc1⟩ := hc0.int Tryz.underlying3
    obtain ⟨x1, r1, rfl, _, hc2⟩ := hc1.int Tryz.underlying3
    obtain ⟨x2, r2, rfl, _, hc3⟩ := hc2.str Tryz.underlying9
    obtain rfl := hc3.nil
    exact ⟨⟨x0, x1, x2⟩, rfl, trivial⟩
  obtain ⟨A, cap, l, h1, h2, h3, h4, h5, _⟩ := rdl_open (enc' := Ent.enc) (Q := fun _ => True) (ts := [3,3,9]) (size := 3) (n := 8) Tryz.underlying79 (by kernel_rfl) (by kernel_rfl) rfl (by decide) hα h
  exact ⟨A, cap, l, h1, h2, h3, h4, h5⟩
theorem sl123 {n : Nat} {y : DataW H × List MemPlace} (h : DataW.trod enc Tryz.prog W 0 (fun _ => true) true n 123 [v] = some y) : ∃ A cap l, v = .slice A (List.length l) cap ∧ RdL W 3 Res.enc A l ∧ (A = none → cap = 0) ∧ l.length ≤ cap ∧ cap ≤ maxLen := by
  have hα : ∀ cs, LeafAll enc Tryz.prog W 0 (fun _ => true) true [9,3,3] cs → ∃ x : Res, cs = Res.enc x ∧ True := by
    intro cs hc0
    obtain ⟨x0, r0, rfl, _, hc1⟩ := hc0.str Tryz.underlying9
    obtain ⟨x1, r1, rfl, _, hc2⟩ := hc1.int Tryz.underlying3
    obtain ⟨x2, r2, rfl, _, hc3⟩ := hc2.int Tryz.underlying3
    obtain rfl := hc3.nil
    exact ⟨⟨x0, x1, x2⟩, rfl, trivial⟩
  obtain ⟨A, cap, l, h1, h2, h3, h4, h5, _⟩ := rdl_open (enc' := Res.enc) (Q := fun _ => True) (ts := [9,3,3]) (size := 3) (n := 8) Tryz.underlying123 (by kernel_rfl) (by kernel_rfl) rfl (by decide) hα h
  exact ⟨A, cap, l, h1, h2, h3, h4, h5⟩
theorem open_ves (hv : Value.okWide Tryz.prog W .any base 25 v) (h : DataW.Trod enc Tryz.prog W 0 (fun _ => true) true 25 v d p) : ∃ x : Ves, v = .agg #[.int .i64 x.sx, .int .i64 x.sy, .int .i64 x.dx, .int .i64 x.dy, .int .i64 x.n] := by
  obtain ⟨cs, rfl, hc0⟩ := leaf_arg (ts := [3,3,3,3,3]) Tryz.underlying25 hv h (by kernel_rfl)
  obtain ⟨x0, r0, rfl, _, hc1⟩ := hc0.int Tryz.underlying3
  obtain ⟨x1, r1, rfl, _, hc2⟩ := hc1.int Tryz.underlying3
  obtain ⟨x2, r2, rfl, _, hc3⟩ := hc2.int Tryz.underlying3
  obtain ⟨x3, r3, rfl, _, hc4⟩ := hc3.int Tryz.underlying3
  obtain ⟨x4, r4, rfl, _, hc5⟩ := hc4.int Tryz.underlying3
  obtain rfl := hc5.nil
  exact ⟨⟨x0, x1, x2, x3, x4⟩, rfl⟩
theorem open_wat (hv : Value.okWide Tryz.prog W .any base 27 v) (h : DataW.Trod enc Tryz.prog W 0 (fun _ => true) true 27 v d p) : ∃ x : Wat, v = .agg #[.int .i64 x.ring, .int .i64 x.speed, .int .i64 x.loss, .int .i64 x.clear, .int .i64 x.soft] := by
  obtain ⟨cs, rfl, hc0⟩ := leaf_arg (ts := [3,3,3,3,3]) Tryz.underlying27 hv h (by kernel_rfl)
  obtain ⟨x0, r0, rfl, _, hc1⟩ := hc0.int Tryz.underlying3
  obtain ⟨x1, r1, rfl, _, hc2⟩ := hc1.int Tryz.underlying3
  obtain ⟨x2, r2, rfl, _, hc3⟩ := hc2.int Tryz.underlying3
  obtain ⟨x3, r3, rfl, _, hc4⟩ := hc3.int Tryz.underlying3
  obtain ⟨x4, r4, rfl, _, hc5⟩ := hc4.int Tryz.underlying3
  obtain rfl := hc5.nil
  exact ⟨⟨x0, x1, x2, x3, x4⟩, rfl⟩
theorem open_seen (hv : Value.okWide Tryz.prog W .any base 60 v) (h : DataW.Trod enc Tryz.prog W 0 (fun _ => true) true 60 v d p) : ∃ (x : Wat) (A : Option Addr) (cap : Nat) (l : List Sgt), v = .agg #[.int .i64 x.ring, .int .i64 x.speed, .int .i64 x.loss, .int .i64 x.clear, .int .i64 x.soft, .slice A l.length cap] ∧ (RdL W 3 Sgt.enc A l ∧ (A = none → cap = 0) ∧ l.length ≤ cap ∧ cap ≤ maxLen) := by
  obtain ⟨cs, rfl, hc0⟩ := leaf_arg (ts := [3,3,3,3,3,28]) Tryz.underlying60 hv h (by kernel_rfl)
  obtain ⟨x0, r0, rfl, _, hc1⟩ := hc0.int Tryz.underlying3
  obtain ⟨x1, r1, rfl, _, hc2⟩ := hc1.int Tryz.underlying3
  obtain ⟨x2, r2, rfl, _, hc3⟩ := hc2.int Tryz.underlying3
  obtain ⟨x3, r3, rfl, _, hc4⟩ := hc3.int Tryz.underlying3
  obtain ⟨x4, r4, rfl, _, hc5⟩ := hc4.int Tryz.underlying3
  obtain ⟨c5, r5, rfl, ⟨_, _, hy5⟩, hc6⟩ := hc5.head
  obtain ⟨A5, cap5, l5, rfl, hr5⟩ := sl28 hy5
  obtain rfl := hc6.nil
  exact ⟨⟨x0, x1, x2, x3, x4⟩, A5, cap5, l5, rfl, hr5⟩
theorem open_spans (hv : Value.okWide Tryz.prog W .any base 69 v) (h : DataW.Trod enc Tryz.prog W 0 (fun _ => true) true 69 v d p) : ∃ (A : Option Addr) (cap : Nat) (l : List Spn) (B : Option Addr) (cap2 : Nat) (m : List Spn) (k : Int), v = .agg #[.slice A l.length cap, .slice B m.length cap2, .int .i64 k] ∧ (RdL W 2 Spn.enc A l ∧ (A = none → cap = 0) ∧ l.length ≤ cap ∧ cap ≤ maxLen) ∧ (RdL W 2 Spn.enc B m ∧ (B = none → cap2 = 0) ∧ m.length ≤ cap2 ∧ cap2 ≤ maxLen) := by
  obtain ⟨cs, rfl, hc0⟩ := leaf_arg (ts := [42,42,3]) Tryz.underlying69 hv h (by kernel_rfl)
  obtain ⟨c0, r0, rfl, ⟨_, _, hy0⟩, hc1⟩ := hc0.head
  obtain ⟨A0, cap0, l0, rfl, hr0⟩ := sl42 hy0
  obtain ⟨c1, r1, rfl, ⟨_, _, hy1⟩, hc2⟩ := hc1.head
  obtain ⟨A1, cap1, l1, rfl, hr1⟩ := sl42 hy1
  obtain ⟨x2, r2, rfl, _, hc3⟩ := hc2.int Tryz.underlying3
  obtain rfl := hc3.nil
  exact ⟨A0, cap0, l0, A1, cap1, l1, x2, rfl, hr0, hr1⟩
theorem open_inv (hv : Value.okWide Tryz.prog W .any base 87 v) (h : DataW.Trod enc Tryz.prog W 0 (fun _ => true) true 87 v d p) : ∃ a : Inv, v = .agg a.arr := by
  obtain ⟨cs, rfl, hc0⟩ := leaf_arg (ts := [3,3,3,3,3,3,3,3]) Tryz.underlying87 hv h (by kernel_rfl)
  obtain ⟨x0, r0, rfl, _, hc1⟩ := hc0.int Tryz.underlying3
  obtain ⟨x1, r1, rfl, _, hc2⟩ := hc1.int Tryz.underlying3
  obtain ⟨x2, r2, rfl, _, hc3⟩ := hc2.int Tryz.underlying3
  obtain ⟨x3, r3, rfl, _, hc4⟩ := hc3.int Tryz.underlying3
  obtain ⟨x4, r4, rfl, _, hc5⟩ := hc4.int Tryz.underlying3
  obtain ⟨x5, r5, rfl, _, hc6⟩ := hc5.int Tryz.underlying3
  obtain ⟨x6, r6, rfl, _, hc7⟩ := hc6.int Tryz.underlying3
  obtain ⟨x7, r7, rfl, _, hc8⟩ := hc7.int Tryz.underlying3
  obtain rfl := hc8.nil
  exact ⟨⟨fun k => match k with | 0 => x0 | 1 => x1 | 2 => x2 | 3 => x3 | 4 => x4 | _ => x5, x6, x7⟩, rfl⟩
theorem open_sgts (hv : Value.okWide Tryz.prog W .any base 28 v) (h : DataW.Trod enc Tryz.prog W 0 (fun _ => true) true 28 v d p) : ∃ (A : Option Addr) (cap : Nat) (l : List Sgt), v = .slice A l.length cap ∧ RdL W 3 Sgt.enc A l ∧ (A = none → cap = 0) ∧ l.length ≤ cap ∧ cap ≤ maxLen := by
  obtain ⟨_, _, hy⟩ := cell_arg Tryz.underlying28 hv h
  obtain ⟨A, cap, l, rfl, hz⟩ := sl28 hy
  exact ⟨A, cap, l, rfl, hz⟩
theorem open_fires (hv : Value.okWide Tryz.prog W .any base 61 v) (h : DataW.Trod enc Tryz.prog W 0 (fun _ => true) true 61 v d p) : ∃ (A : Option Addr) (cap : Nat) (l : List Fir), v = .slice A l.length cap ∧ RdL W 2 Fir.enc A l ∧ (A = none → cap = 0) ∧ l.length ≤ cap ∧ cap ≤ maxLen := by
  obtain ⟨_, _, hy⟩ := cell_arg Tryz.underlying61 hv h
  obtain ⟨A, cap, l, rfl, hz⟩ := sl61 hy
  exact ⟨A, cap, l, rfl, hz⟩
theorem open_ents (hv : Value.okWide Tryz.prog W .any base 79 v) (h : DataW.Trod enc Tryz.prog W 0 (fun _ => true) true 79 v d p) : ∃ (A : Option Addr) (cap : Nat) (l : List Ent), v = .slice A l.length cap ∧ RdL W 3 Ent.enc A l ∧ (A = none → cap = 0) ∧ l.length ≤ cap ∧ cap ≤ maxLen := by
  obtain ⟨_, _, hy⟩ := cell_arg Tryz.underlying79 hv h
  obtain ⟨A, cap, l, rfl, hz⟩ := sl79 hy
  exact ⟨A, cap, l, rfl, hz⟩
theorem open_res (hv : Value.okWide Tryz.prog W .any base 123 v) (h : DataW.Trod enc Tryz.prog W 0 (fun _ => true) true 123 v d p) : ∃ (A : Option Addr) (cap : Nat) (l : List Res), v = .slice A l.length cap ∧ RdL W 3 Res.enc A l ∧ (A = none → cap = 0) ∧ l.length ≤ cap ∧ cap ≤ maxLen := by
  obtain ⟨_, _, hy⟩ := cell_arg Tryz.underlying123 hv h
  obtain ⟨A, cap, l, rfl, hz⟩ := sl123 hy
  exact ⟨A, cap, l, rfl, hz⟩
end
end Go.Proofs.YtndhjkammoeikaaGreatDoor
namespace Go.Proofs.YtndhjkammoeikaaGreatDoor
open Go.RowKit
set_option maxHeartbeats 1000000
set_option maxRecDepth 20000

theorem c36 (v : Ves) (u : Wat) (A : Option Addr) (cap : Nat) (l : List Sgt) (D : Option Addr) (dcap : Nat) (fs : List Fir) (w : World) (hl : l.length ≤ 1000000) (H : RdL w 3 Sgt.enc A l) (hfl : fs.length ≤ 1000000) (HF : RdL w 2 Fir.enc D fs) :
    Calls Tryz.prog 36 #[.agg #[.int .i64 v.sx, .int .i64 v.sy, .int .i64 v.dx, .int .i64 v.dy, .int .i64 v.n], .agg #[.int .i64 u.ring, .int .i64 u.speed, .int .i64 u.loss, .int .i64 u.clear, .int .i64 u.soft], .slice A l.length cap, .slice D fs.length dcap] w fun en w' => en = .returned (.int .i64 (Mo.fires v u l fs)) ∧ Below w.heap.size w w' := by
  by_cases h : Mo.all v u l = 0
  · exact c36_ok v u A cap l D dcap fs w H hfl HF h
  · have e : Mo.fires v u l fs = Mo.all v u l := by
      have h1 : Mo.first [Mo.all v u l, Mo.each fs.length 256 (Mo.fire1 v.n fs)] = Mo.all v u l := by simp [Mo.first, h]
      unfold Mo.fires
      rw [h1, if_pos h]
    rw [e]
    exact c36_bad v u A cap l D dcap fs w hl H h
theorem l4 (v : Ves) (u : Wat) (A : Option Addr) (cap : Nat) (l : List Sgt) (D : Option Addr) (dcap : Nat) (fs : List Fir) (w : World) (H : RdL w 3 Sgt.enc A l) (HF : RdL w 2 Fir.enc D fs) :
    Calls Tryz.prog 4 #[.agg #[.int .i64 v.sx, .int .i64 v.sy, .int .i64 v.dx, .int .i64 v.dy, .int .i64 v.n], .agg #[.int .i64 u.ring, .int .i64 u.speed, .int .i64 u.loss, .int .i64 u.clear, .int .i64 u.soft, .slice A l.length cap], .slice D fs.length dcap] w fun en w' => en = .returned (.bool true) ∧ Below w.heap.size w w' := by
  obtain ⟨N, hN⟩ : ∃ N, N = l.length := ⟨_, rfl⟩
  obtain ⟨M, hM⟩ : ∃ M, M = fs.length := ⟨_, rfl⟩
  rw [← hN, ← hM]
  have HN := Lib.hid hN
  have HM := Lib.hid hM
  clear hN hM
  go_enter Tryz.func4, Tryz.ntmps4
  obtain ⟨w0, hW⟩ : ∃ W, W = (w.alloc (Obj.cells #[.int .i64 v.sx, .int .i64 v.sy, .int .i64 v.dx, .int .i64 v.dy, .int .i64 v.n] 25)).alloc (Obj.cells #[.int .i64 u.ring, .int .i64 u.speed, .int .i64 u.loss, .int .i64 u.clear, .int .i64 u.soft, .slice A N cap] 60) := ⟨_, rfl⟩
  have hT0 : w0.heap[w.heap.size]? = some (.cells #[.int .i64 v.sx, .int .i64 v.sy, .int .i64 v.dx, .int .i64 v.dy, .int .i64 v.n] 25 (0, 0)) := by rw [hW]; exact heap_old (by simp <;> omega) (heap_new (by simp))
  have hT1 : w0.heap[w.heap.size + 1]? = some (.cells #[.int .i64 u.ring, .int .i64 u.speed, .int .i64 u.loss, .int .i64 u.clear, .int .i64 u.soft, .slice A N cap] 60 (0, 0)) := by rw [hW]; exact heap_new (by simp)
  have hB0 : Below w.heap.size w w0 := by rw [hW]; exact (((Below.refl _ _).alloc (by first | omega | (simp <;> omega)) _).alloc (by first | omega | (simp <;> omega)) _)
  replace H := H.below hB0
  replace HF := HF.below hB0
  go_wp2_with fail
  rw [← hW]
  clear hW
  have qhT0_0 : w0.cell? ⟨w.heap.size, 0, none⟩ = some (.int .i64 v.sx) := cell_at hT0 rfl
  have qhT0_1 : w0.cell? ⟨w.heap.size, 1, none⟩ = some (.int .i64 v.sy) := cell_at hT0 rfl
  have qhT0_2 : w0.cell? ⟨w.heap.size, 2, none⟩ = some (.int .i64 v.dx) := cell_at hT0 rfl
  have qhT0_3 : w0.cell? ⟨w.heap.size, 3, none⟩ = some (.int .i64 v.dy) := cell_at hT0 rfl
  have qhT0_4 : w0.cell? ⟨w.heap.size, 4, none⟩ = some (.int .i64 v.n) := cell_at hT0 rfl
  have qhT1_0 : w0.cell? ⟨w.heap.size + 1, 0, none⟩ = some (.int .i64 u.ring) := cell_at hT1 rfl
  have qhT1_1 : w0.cell? ⟨w.heap.size + 1, 1, none⟩ = some (.int .i64 u.speed) := cell_at hT1 rfl
  have qhT1_2 : w0.cell? ⟨w.heap.size + 1, 2, none⟩ = some (.int .i64 u.loss) := cell_at hT1 rfl
  have qhT1_3 : w0.cell? ⟨w.heap.size + 1, 3, none⟩ = some (.int .i64 u.clear) := cell_at hT1 rfl
  have qhT1_4 : w0.cell? ⟨w.heap.size + 1, 4, none⟩ = some (.int .i64 u.soft) := cell_at hT1 rfl
  have qhT1_5 : w0.cell? ⟨w.heap.size + 1, 5, none⟩ = some (.slice A N cap) := cell_at hT1 rfl
  go_wp2_with fail
  refine (c14 v A N cap _).mono ?_
  rintro e w1 ⟨⟨b, rfl, hb1⟩, hb⟩
  clear qhT0_0 qhT0_1 qhT0_2 qhT0_3 qhT0_4 qhT1_0 qhT1_1 qhT1_2 qhT1_3 qhT1_4 qhT1_5
  have hS := hb
  have hB1 := hB0.call hS rfl
  replace hT0 := blkb hT0 hS
  replace hT1 := blkb hT1 hS
  replace H := H.below hS
  replace HF := HF.below hS
  clear hS hB0
  have qhT0_0 : w1.cell? ⟨w.heap.size, 0, none⟩ = some (.int .i64 v.sx) := cell_at hT0 rfl
  have qhT0_1 : w1.cell? ⟨w.heap.size, 1, none⟩ = some (.int .i64 v.sy) := cell_at hT0 rfl
  have qhT0_2 : w1.cell? ⟨w.heap.size, 2, none⟩ = some (.int .i64 v.dx) := cell_at hT0 rfl
  have qhT0_3 : w1.cell? ⟨w.heap.size, 3, none⟩ = some (.int .i64 v.dy) := cell_at hT0 rfl
  have qhT0_4 : w1.cell? ⟨w.heap.size, 4, none⟩ = some (.int .i64 v.n) := cell_at hT0 rfl
  have qhT1_0 : w1.cell? ⟨w.heap.size + 1, 0, none⟩ = some (.int .i64 u.ring) := cell_at hT1 rfl
  have qhT1_1 : w1.cell? ⟨w.heap.size + 1, 1, none⟩ = some (.int .i64 u.speed) := cell_at hT1 rfl
  have qhT1_2 : w1.cell? ⟨w.heap.size + 1, 2, none⟩ = some (.int .i64 u.loss) := cell_at hT1 rfl
  have qhT1_3 : w1.cell? ⟨w.heap.size + 1, 3, none⟩ = some (.int .i64 u.clear) := cell_at hT1 rfl
  have qhT1_4 : w1.cell? ⟨w.heap.size + 1, 4, none⟩ = some (.int .i64 u.soft) := cell_at hT1 rfl
  have qhT1_5 : w1.cell? ⟨w.heap.size + 1, 5, none⟩ = some (.slice A N cap) := cell_at hT1 rfl
  clear hb
  cases b
  case false =>
    go_wp2_with fail
    refine (c15 _).mono ?_
    rintro e wz ⟨rfl, hz⟩
    go_wp2
    go_ret
    exact ⟨rfl, hB1.call hz rfl⟩
  have hl := hb1 rfl
  clear hb1
  go_wp2_with fail
  refine (c33 D M dcap _).mono ?_
  rintro e w' ⟨⟨b, rfl, hb2⟩, rfl⟩
  cases b
  case false =>
    go_wp2_with fail
    refine (c15 _).mono ?_
    rintro e wz ⟨rfl, hz⟩
    go_wp2
    go_ret
    exact ⟨rfl, hB1.call hz rfl⟩
  have hm := hb2 rfl
  clear hb2
  go_wp2
  refine wp_region_plan [(0, true), (1, true), (2, true), (3, true), (4, true), (6, true), (9, true), (10, true), (11, true), (12, true), (13, true), (14, true), (5, false), (7, false), (8, false), (15, false), (16, true), (17, true), (18, false), (19, true), (20, true)] w1.heap.size (by kernel_rfl) (by kernel_rfl) (Nat.le_refl _) (fun _ _ d _ _ h => by cases d <;> exact h) ?_
  have hC : Below w1.heap.size w1 w1 := Below.refl _ _
  have zhT0 : w.heap.size < w1.heap.size := (Array.getElem?_eq_some_iff.1 hT0).1
  have zhT1 : w.heap.size + 1 < w1.heap.size := (Array.getElem?_eq_some_iff.1 hT1).1
  repeat (first | (refine wpPlanA_skip _ rfl (by rfl) ?_; simp only [Act.put, List.setIfInBounds_toArray, List.set_cons_zero, List.set_cons_succ]) | (refine wpPlanA_soft _ ?_ rfl (by rfl) ?_ ?_; rotate_left; (intro wq hq hcq; go_simp; first | exact rfl | exact ⟨rfl, rfl⟩); simp only [Act.put, List.setIfInBounds_toArray, List.set_cons_zero, List.set_cons_succ]))
  rw [HN.out] at hl ⊢
  rw [HM.out] at hm ⊢
  clear qhT0_0 qhT0_1 qhT0_2 qhT0_3 qhT0_4 qhT1_0 qhT1_1 qhT1_2 qhT1_3 qhT1_4 qhT1_5
  refine wpPlanA_hard _ rfl (by rfl) (fun w2 hS K hK => ?_)
  have hB2 := hB1.call hS rfl
  replace hC := hC.call hS rfl
  replace hT0 := blkb hT0 hS
  replace hT1 := blkb hT1 hS
  replace H := H.below hS
  replace HF := HF.below hS
  clear hS hB1
  go_simp
  refine (c17 A cap l _ (by omega) H).mono ?_
  rintro e w3 ⟨_, rfl, ⟨A1, C1, rfl, h1⟩, hb⟩
  have hB3 := hB2.call hb rfl
  replace hC := hC.call hb rfl
  replace hT0 := blkb hT0 hb
  replace hT1 := blkb hT1 hb
  replace H := H.below hb
  replace HF := HF.below hb
  clear hb hB2
  refine hK _ _ hC ?_
  clear hK K
  try simp only [Act.put, List.setIfInBounds_toArray, List.set_cons_zero, List.set_cons_succ]
  refine wpPlanA_hard _ rfl (by rfl) (fun w4 hS K hK => ?_)
  have hB4 := hB3.call hS rfl
  replace hC := hC.call hS rfl
  replace hT0 := blkb hT0 hS
  replace hT1 := blkb hT1 hS
  replace H := H.below hS
  replace HF := HF.below hS
  replace h1 := h1.below hS
  clear hS hB3
  go_simp
  refine (c35 D dcap fs _ (by omega) HF).mono ?_
  rintro e w5 ⟨_, rfl, ⟨A2, C2, rfl, h2⟩, hb⟩
  have hB5 := hB4.call hb rfl
  replace hC := hC.call hb rfl
  replace hT0 := blkb hT0 hb
  replace hT1 := blkb hT1 hb
  replace H := H.below hb
  replace HF := HF.below hb
  replace h1 := h1.below hb
  clear hb hB4
  refine hK _ _ hC ?_
  clear hK K
  try simp only [Act.put, List.setIfInBounds_toArray, List.set_cons_zero, List.set_cons_succ]
  refine wpPlanA_hard _ rfl (by rfl) (fun w6 hS K hK => ?_)
  have hB6 := hB5.call hS rfl
  replace hC := hC.call hS rfl
  replace hT0 := blkb hT0 hS
  replace hT1 := blkb hT1 hS
  replace H := H.below hS
  replace HF := HF.below hS
  replace h1 := h1.below hS
  replace h2 := h2.below hS
  clear hS hB5
  go_simp
  refine (c34 v u A1 C1 l A2 C2 fs _ (by omega) h1 (by omega) h2).mono ?_
  rintro e w7 ⟨rfl, hb⟩
  have hB7 := hB6.call hb rfl
  replace hC := hC.call hb rfl
  replace hT0 := blkb hT0 hb
  replace hT1 := blkb hT1 hb
  replace H := H.below hb
  replace HF := HF.below hb
  replace h1 := h1.below hb
  replace h2 := h2.below hb
  clear hb hB6
  refine hK _ _ hC ?_
  clear hK K
  try simp only [Act.put, List.setIfInBounds_toArray, List.set_cons_zero, List.set_cons_succ]
  refine wpPlanA_hard _ rfl (by rfl) (fun w8 hS K hK => ?_)
  have hB8 := hB7.call hS rfl
  replace hC := hC.call hS rfl
  replace hT0 := blkb hT0 hS
  replace hT1 := blkb hT1 hS
  replace H := H.below hS
  replace HF := HF.below hS
  replace h1 := h1.below hS
  replace h2 := h2.below hS
  clear hS hB7
  go_simp
  refine (c36 v u A cap l D dcap fs _ (by omega) H (by omega) HF).mono ?_
  rintro e w9 ⟨rfl, hb⟩
  have hB9 := hB8.call hb rfl
  replace hC := hC.call hb rfl
  replace hT0 := blkb hT0 hb
  replace hT1 := blkb hT1 hb
  replace H := H.below hb
  replace HF := HF.below hb
  replace h1 := h1.below hb
  replace h2 := h2.below hb
  clear hb hB8
  refine hK _ _ hC ?_
  clear hK K
  try simp only [Act.put, List.setIfInBounds_toArray, List.set_cons_zero, List.set_cons_succ]
  repeat (first | (refine wpPlanA_skip _ rfl (by rfl) ?_; simp only [Act.put, List.setIfInBounds_toArray, List.set_cons_zero, List.set_cons_succ]) | (refine wpPlanA_soft _ ?_ rfl (by rfl) ?_ ?_; rotate_left; (intro wq hq hcq; go_simp; first | exact rfl | exact ⟨rfl, rfl⟩); simp only [Act.put, List.setIfInBounds_toArray, List.set_cons_zero, List.set_cons_succ]))
  refine wpPlanA_hard _ rfl (by rfl) (fun w10 hS K hK => ?_)
  have hB10 := hB9.call hS rfl
  replace hC := hC.call hS rfl
  replace hT0 := blkb hT0 hS
  replace hT1 := blkb hT1 hS
  replace H := H.below hS
  replace HF := HF.below hS
  replace h1 := h1.below hS
  replace h2 := h2.below hS
  clear hS hB9
  go_simp
  refine (c15 _).mono ?_
  rintro e w11 ⟨rfl, hb⟩
  have hB11 := hB10.call hb rfl
  replace hC := hC.call hb rfl
  replace hT0 := blkb hT0 hb
  replace hT1 := blkb hT1 hb
  replace H := H.below hb
  replace HF := HF.below hb
  replace h1 := h1.below hb
  replace h2 := h2.below hb
  clear hb hB10
  refine hK _ _ hC ?_
  clear hK K
  try simp only [Act.put, List.setIfInBounds_toArray, List.set_cons_zero, List.set_cons_succ]
  repeat (first | (refine wpPlanA_skip _ rfl (by rfl) ?_; simp only [Act.put, List.setIfInBounds_toArray, List.set_cons_zero, List.set_cons_succ]) | (refine wpPlanA_soft _ ?_ rfl (by rfl) ?_ ?_; rotate_left; (intro wq hq hcq; go_simp; first | exact rfl | exact ⟨rfl, rfl⟩); simp only [Act.put, List.setIfInBounds_toArray, List.set_cons_zero, List.set_cons_succ]))
  refine wpPlanA_nil (fun w12 hS => ?_)
  clear hC zhT0 zhT1
  have hB12 := hB11.call hS rfl
  replace hT0 := blkb hT0 hS
  replace hT1 := blkb hT1 hS
  replace H := H.below hS
  replace HF := HF.below hS
  replace h1 := h1.below hS
  replace h2 := h2.below hS
  clear hS hB11
  have qhT0_0 : w12.cell? ⟨w.heap.size, 0, none⟩ = some (.int .i64 v.sx) := cell_at hT0 rfl
  have qhT0_1 : w12.cell? ⟨w.heap.size, 1, none⟩ = some (.int .i64 v.sy) := cell_at hT0 rfl
  have qhT0_2 : w12.cell? ⟨w.heap.size, 2, none⟩ = some (.int .i64 v.dx) := cell_at hT0 rfl
  have qhT0_3 : w12.cell? ⟨w.heap.size, 3, none⟩ = some (.int .i64 v.dy) := cell_at hT0 rfl
  have qhT0_4 : w12.cell? ⟨w.heap.size, 4, none⟩ = some (.int .i64 v.n) := cell_at hT0 rfl
  have qhT1_0 : w12.cell? ⟨w.heap.size + 1, 0, none⟩ = some (.int .i64 u.ring) := cell_at hT1 rfl
  have qhT1_1 : w12.cell? ⟨w.heap.size + 1, 1, none⟩ = some (.int .i64 u.speed) := cell_at hT1 rfl
  have qhT1_2 : w12.cell? ⟨w.heap.size + 1, 2, none⟩ = some (.int .i64 u.loss) := cell_at hT1 rfl
  have qhT1_3 : w12.cell? ⟨w.heap.size + 1, 3, none⟩ = some (.int .i64 u.clear) := cell_at hT1 rfl
  have qhT1_4 : w12.cell? ⟨w.heap.size + 1, 4, none⟩ = some (.int .i64 u.soft) := cell_at hT1 rfl
  have qhT1_5 : w12.cell? ⟨w.heap.size + 1, 5, none⟩ = some (.slice A N cap) := cell_at hT1 rfl
  go_wp2
  go_ret
  exact ⟨rfl, hB12⟩

end Go.Proofs.YtndhjkammoeikaaGreatDoor
