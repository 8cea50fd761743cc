/- A part of the proofs about chapter 7 (image): contracts of functions and plain laws (O2). -/
import Derived.Test.YtdimmlljjmmdbaaGreatDoorO01
import Derived.Test.YtdimmlljjmmdbaaGreatDoorA05
set_option linter.all false
/- From the data of a survey and of traces to plain lists. -/
namespace Go.Proofs.YtdimmlljjmmdbaaGreatDoor
open Go.ChangeShapes Go.WideShapes Go.ChangeAt Go.RowKit
set_option maxHeartbeats 1000000
set_option maxRecDepth 100000
theorem LeafAll.boo {H : Type} {enc : TypeId × Value → H} {w : World} {base : Nat} {spare : Nat → Bool} {held : Bool} {t : TypeId} {ts : List TypeId} {cs : List Value} (ht : Tryz.prog.underlying t = some .bool) (h : LeafAll enc Tryz.prog w base spare held (t :: ts) cs) :
  ∃ b r, cs = .bool b :: r ∧ LeafAll enc Tryz.prog w base spare held ts r := by
 obtain ⟨c, r, rfl, ⟨n, y, hy⟩, h2⟩ := h.head
 obtain ⟨b, hb, _⟩ := DataW.trod_bool ht hy
 cases hb
 exact ⟨b, r, rfl, h2⟩
section
variable {H : Type} {enc : TypeId × Value → H} {W : World} {base : Nat} {v : Value} {d : DataW H} {p : List MemPlace}
theorem slPr {n : Nat} {y : DataW H × List MemPlace} (h : DataW.trod enc Tryz.prog W 0 (fun _ => true) true n 25 [v] = some y) : ∃ A cap l, v = .slice A (List.length l) cap ∧ RdP W A l.length l := by
 have hα : ∀ cs, LeafAll enc Tryz.prog W 0 (fun _ => true) true [3, 3, 4] cs → ∃ x : Pr, cs = Pr.enc x ∧ True := by
  intro cs hc0
  obtain ⟨x0, r0, rfl, _, hc1⟩ := hc0.int Tryz.underlying3
  obtain ⟨x1, r1, rfl, _, hc2⟩ := hc1.int Tryz.underlying3
  obtain ⟨x2, r2, rfl, hc3⟩ := LeafAll.boo Tryz.underlying4 hc2
  obtain rfl := hc3.nil
  exact ⟨⟨x0, x1, x2⟩, rfl, trivial⟩
 obtain ⟨A, cap, l, h1, h2, _⟩ := rdl_open (enc' := Pr.enc) (Q := fun _ => True) (ts := [3, 3, 4]) (size := 3) (n := 8) Tryz.underlying25 (by kernel_rfl) (by kernel_rfl) rfl (by decide) hα h
 exact ⟨A, cap, l, h1, h2⟩
theorem open_surv (hv : Value.okWide Tryz.prog W .any base 27 v) (h : DataW.Trod enc Tryz.prog W 0 (fun _ => true) true 27 v d p) : ∃ un len most P capp ps, v = .agg #[.int .i64 un, .int .i64 len, .int .i64 most, .slice P (List.length ps) capp] ∧ RdP W P ps.length ps := by
 obtain ⟨cs, rfl, hc0⟩ := leaf_arg (ts := [3, 3, 3, 25]) Tryz.underlying27 hv h (by kernel_rfl)
 obtain ⟨x0, r0, rfl, _, hc1⟩ := hc0.int Tryz.underlying3
 obtain ⟨x1, r1, rfl, _, hc2⟩ := hc1.int Tryz.underlying3
 obtain ⟨x2, r2, rfl, _, hc3⟩ := hc2.int Tryz.underlying3
 obtain ⟨x3, r3, rfl, ⟨n, y, h3⟩, hc4⟩ := hc3.head
 obtain rfl := hc4.nil
 obtain ⟨A, cap, l, rfl, hr⟩ := slPr h3
 exact ⟨x0, x1, x2, A, cap, l, rfl, hr⟩
/-- a slice: where it lies, its room, and what it holds -/
def sl3 (x : Option Addr × Nat × List Int) : List Value := [.slice x.1 x.2.2.length x.2.1]
theorem flat_sl3 : ∀ l : List (Option Addr × Nat × List Int), (l.flatMap sl3).length = l.length
 | [] => rfl
 | x :: l => by simp [sl3, flat_sl3 l]
theorem slD {n : Nat} {y : DataW H × List MemPlace} (h1 : DataW.trod enc Tryz.prog W 0 (fun _ => true) true n 31 [v] = some y) : ∃ D capd dl, v = .slice D (List.length dl) capd ∧ RdD W D dl.length dl ∧ dl.length ≤ 9223372036854775807 := by
 have hα : ∀ cs, LeafAll enc Tryz.prog W 0 (fun _ => true) true [22] cs → ∃ x : Option Addr × Nat × List Int, cs = sl3 x ∧ RdI W x.1 x.2.2.length x.2.2 := by
  intro cs hc0
  obtain ⟨x0, r0, rfl, ⟨n, y, h3⟩, hc1⟩ := hc0.head
  obtain rfl := hc1.nil
  obtain ⟨A, cap, l, rfl, hr⟩ := sl22 h3
  exact ⟨⟨A, cap, l⟩, rfl, hr⟩
 obtain ⟨A, cap, l, h1, h2, _, h3, h4, hq⟩ := rdl_open (enc' := sl3) (Q := fun x => RdI W x.1 x.2.2.length x.2.2) (ts := [22]) (size := 1) (n := 8) Tryz.underlying31 (by kernel_rfl) (by kernel_rfl) rfl (by decide) hα h1
 refine ⟨A, cap, l.map (·.2.2), by rw [List.length_map]; exact h1, ⟨l.flatMap sl3, by rw [List.length_map]; exact h2, rfl, fun k x hx => ?_⟩, by rw [List.length_map]; unfold maxLen at h4; omega⟩
 rw [List.getElem?_map] at hx
 cases hz : l[k]? with
 | none => rw [hz] at hx; cases hx
 | some z =>
  rw [hz] at hx
  have hxz : z.2.2 = x := by simpa using hx
  subst hxz
  refine ⟨z.1, z.2.1, ?_, hq z (List.mem_of_getElem? hz)⟩
  have := flat_get (size := 1) (enc := sl3) (fun _ => rfl) l k 0 z hz (by decide)
  simpa [sl3] using this
theorem open_data (hv : Value.okWide Tryz.prog W .any base 31 v) (h : DataW.Trod enc Tryz.prog W 0 (fun _ => true) true 31 v d p) : ∃ D capd dl, v = .slice D (List.length dl) capd ∧ RdD W D dl.length dl ∧ dl.length ≤ 9223372036854775807 := by
 obtain ⟨n, y, h1⟩ := cell_arg Tryz.underlying31 hv h
 exact slD h1
theorem open_rec (hv : Value.okWide Tryz.prog W .any base 55 v) (h : DataW.Trod enc Tryz.prog W 0 (fun _ => true) true 55 v d p) : ∃ D capd dl E cape el M capm ml s f k, v = .agg #[.slice D (List.length dl) capd, .slice E (List.length el) cape, .slice M (List.length ml) capm, .int .i64 s, .int .i64 f, .int .i64 k] ∧ RdD W D dl.length dl ∧ RdD W E el.length el ∧ RdI W M ml.length ml ∧ dl.length ≤ 9223372036854775807 ∧ el.length ≤ 9223372036854775807 := by
 obtain ⟨cs, rfl, hc0⟩ := leaf_arg (ts := [31, 31, 22, 3, 3, 3]) Tryz.underlying55 hv h (by kernel_rfl)
 obtain ⟨x0, r0, rfl, ⟨n0, y0, h0⟩, hc1⟩ := hc0.head
 obtain ⟨x1, r1, rfl, ⟨n1, y1, h1⟩, hc2⟩ := hc1.head
 obtain ⟨x2, r2, rfl, ⟨n2, y2, h2⟩, hc3⟩ := hc2.head
 obtain ⟨x3, r3, rfl, _, hc4⟩ := hc3.int Tryz.underlying3
 obtain ⟨x4, r4, rfl, _, hc5⟩ := hc4.int Tryz.underlying3
 obtain ⟨x5, r5, rfl, _, hc6⟩ := hc5.int Tryz.underlying3
 obtain rfl := hc6.nil
 obtain ⟨D, capd, dl, rfl, hd, hdl⟩ := slD h0
 obtain ⟨E, cape, el, rfl, he, hel⟩ := slD h1
 obtain ⟨M, capm, ml, rfl, hm⟩ := sl22 h2
 exact ⟨D, capd, dl, E, cape, el, M, capm, ml, x3, x4, x5, rfl, hd, he, hm, hdl, hel⟩
theorem open_proof (hv : Value.okWide Tryz.prog W .any base 123 v) (h : DataW.Trod enc Tryz.prog W 0 (fun _ => true) true 123 v d p) : ∃ s t A capa a B capb b C capc e, v = .agg #[.int .i64 s, .int .i64 t, .slice A (List.length a) capa, .slice B (List.length b) capb, .slice C (List.length e) capc] ∧ RdI W A a.length a ∧ RdI W B b.length b ∧ RdI W C e.length e := by
 obtain ⟨cs, rfl, hc0⟩ := leaf_arg (ts := [3, 3, 22, 22, 22]) Tryz.underlying123 hv h (by kernel_rfl)
 obtain ⟨x0, r0, rfl, _, hc1⟩ := hc0.int Tryz.underlying3
 obtain ⟨x1, r1, rfl, _, hc2⟩ := hc1.int Tryz.underlying3
 obtain ⟨x2, r2, rfl, ⟨n2, y2, h2⟩, hc3⟩ := hc2.head
 obtain ⟨x3, r3, rfl, ⟨n3, y3, h3⟩, hc4⟩ := hc3.head
 obtain ⟨x4, r4, rfl, ⟨n4, y4, h4⟩, hc5⟩ := hc4.head
 obtain rfl := hc5.nil
 obtain ⟨A, capa, a, rfl, ha⟩ := sl22 h2
 obtain ⟨B, capb, b, rfl, hb⟩ := sl22 h3
 obtain ⟨C, capc, e, rfl, he⟩ := sl22 h4
 exact ⟨x0, x1, A, capa, a, B, capb, b, C, capc, e, rfl, ha, hb, he⟩
theorem open_bool (hv : Value.okWide Tryz.prog W .any base 4 v) : ∃ b, v = .bool b := by
 exact okWide_bool Tryz.underlying4 hv
theorem open_int (hv : Value.okWide Tryz.prog W .any base 3 v) : ∃ x, v = .int .i64 x := by
 exact okWide_int Tryz.underlying3 hv
end
end Go.Proofs.YtdimmlljjmmdbaaGreatDoor
