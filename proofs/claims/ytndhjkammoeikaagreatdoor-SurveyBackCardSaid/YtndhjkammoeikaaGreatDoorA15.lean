/- A part of the proofs about chapter 9: contracts of functions and plain laws (W61, W62, W63). -/
import Derived.Lib.ItoaLen
import Derived.Test.YtndhjkammoeikaaGreatDoorA14
set_option linter.all false
namespace Go.Proofs.YtndhjkammoeikaaGreatDoor
open Go.RowKit
set_option maxHeartbeats 4000000
set_option maxRecDepth 100000

theorem blkb {w W : World} {g : Nat} {o : Obj} (h : w.heap[g]? = some o) (hb : Below w.heap.size w W) : W.heap[g]? = some o :=
  (hb.block g (Array.getElem?_eq_some_iff.1 h).1).trans h
theorem RdS.of_pre {w : World} {g size n : Nat} {cs xs : List Value} {t : TypeId} {f : Nat × Nat} (h : w.heap[g]? = some (.cells cs.toArray t f)) (hn : xs.length = n * size) (hp : ∀ j, j < xs.length → cs[j]? = xs[j]?) : RdS w size (some ⟨g, 0, none⟩) n xs := by
  refine ⟨hn, fun _ => ⟨g, 0, rfl, (Array.getElem?_eq_some_iff.1 h).1, fun j hj => ?_⟩⟩
  rw [Nat.zero_add, ← hp j hj]
  have hj' : j < cs.length := by
    have := hp j hj
    rw [List.getElem?_eq_getElem hj] at this
    exact (List.getElem?_eq_some_iff.1 this).1
  rw [List.getElem?_eq_getElem hj']
  exact cell_at h (by simp [hj'])
namespace Aw
theorem b3 : (Mo.insides v u l).map Value.bool = [.bool false, .bool false, .bool true, .bool true, .bool true, .bool false, .bool false, .bool false, .bool false, .bool false, .bool false, .bool false] := by
  have : Mo.insides v u l = [false, false, true, true, true, false, false, false, false, false, false, false] := by decide +kernel
  rw [this]; rfl
theorem b4 : (Mo.levels v u l).map (Value.int .i64) = [.int .i64 0, .int .i64 0, .int .i64 0, .int .i64 0, .int .i64 0, .int .i64 0, .int .i64 0, .int .i64 0, .int .i64 1, .int .i64 2, .int .i64 3, .int .i64 3] := by rw [a4]; rfl
theorem b5 : (Mo.levels v u []).map (Value.int .i64) = [.int .i64 0, .int .i64 0, .int .i64 0, .int .i64 1, .int .i64 2, .int .i64 3, .int .i64 3, .int .i64 3, .int .i64 3, .int .i64 3, .int .i64 3, .int .i64 3] := by rw [a5]; rfl
theorem b6 : (Mo.runs (fun (t : Nat) => Mo.level v u l t == 0) v.n.toNat).length = 1 := by decide +kernel
theorem b8 : Mo.diaE v u l sh [⟨9, 10⟩] = 0 := by decide +kernel
theorem b10 : Mo.bill (con 0) es rs = 0 ∧ Mo.bill (con 1) es rs = 0 := by decide +kernel
end Aw
theorem k16 (g : Nat) (w : World) (h : w.heap[g]? = some (.cells #[.int .i64 2, .int .i64 40, .int .i64 0] 166 (0, 0))) : Calls Tryz.prog 16 #[.agg #[.int .i64 0, .int .i64 0, .int .i64 10, .int .i64 0, .int .i64 12], .agg #[.int .i64 30, .int .i64 5, .int .i64 2, .int .i64 3, .int .i64 2], .slice (some ⟨g, 0, none⟩) 1 1] w fun en w' => ∃ g', en = .returned (.tuple #[.slice (some ⟨g', 0, none⟩) 12 12, .int .i64 0]) ∧ w'.heap[g']? = some (.cells #[.bool false, .bool false, .bool true, .bool true, .bool true, .bool false, .bool false, .bool false, .bool false, .bool false, .bool false, .bool false] 4 (0, 0)) ∧ Below w.heap.size w w' := by
  refine (c16_ok Aw.v Aw.u _ _ Aw.l _ (RdS.of_block h rfl) Aw.a1).mono ?_
  rintro e w' ⟨g', rfl, h1, _, h2⟩
  rw [Aw.b3] at h1
  exact ⟨g', rfl, h1, h2⟩
theorem k18 (g : Nat) (w : World) (h : w.heap[g]? = some (.cells #[.int .i64 2, .int .i64 40, .int .i64 0] 166 (0, 0))) : Calls Tryz.prog 18 #[.agg #[.int .i64 0, .int .i64 0, .int .i64 10, .int .i64 0, .int .i64 12], .agg #[.int .i64 30, .int .i64 5, .int .i64 2, .int .i64 3, .int .i64 2], .slice (some ⟨g, 0, none⟩) 1 1] w fun en w' => ∃ g', en = .returned (.tuple #[.slice (some ⟨g', 0, none⟩) 12 12, .int .i64 0]) ∧ w'.heap[g']? = some (.cells #[.int .i64 0, .int .i64 0, .int .i64 0, .int .i64 0, .int .i64 0, .int .i64 0, .int .i64 0, .int .i64 0, .int .i64 1, .int .i64 2, .int .i64 3, .int .i64 3] 3 (0, 0)) ∧ Below w.heap.size w w' := by
  refine (c18_ok Aw.v Aw.u _ _ Aw.l _ (RdS.of_block h rfl) Aw.a1).mono ?_
  rintro e w' ⟨g', rfl, h1, _, h2⟩
  rw [Aw.b4] at h1
  exact ⟨g', rfl, h1, h2⟩
theorem k18n (w : World) : Calls Tryz.prog 18 #[.agg #[.int .i64 0, .int .i64 0, .int .i64 10, .int .i64 0, .int .i64 12], .agg #[.int .i64 30, .int .i64 5, .int .i64 2, .int .i64 3, .int .i64 2], .slice none 0 0] w fun en w' => ∃ g', en = .returned (.tuple #[.slice (some ⟨g', 0, none⟩) 12 12, .int .i64 0]) ∧ w'.heap[g']? = some (.cells #[.int .i64 0, .int .i64 0, .int .i64 0, .int .i64 1, .int .i64 2, .int .i64 3, .int .i64 3, .int .i64 3, .int .i64 3, .int .i64 3, .int .i64 3, .int .i64 3] 3 (0, 0)) ∧ Below w.heap.size w w' := by
  refine (c18_ok Aw.v Aw.u none 0 [] _ ⟨rfl, fun h => absurd h (by decide)⟩ Aw.a2).mono ?_
  rintro e w' ⟨g', rfl, h1, _, h2⟩
  rw [Aw.b5] at h1
  exact ⟨g', rfl, h1, h2⟩
theorem k19 (g : Nat) (w : World) (h : w.heap[g]? = some (.cells #[.int .i64 2, .int .i64 40, .int .i64 0] 166 (0, 0))) : Calls Tryz.prog 19 #[.agg #[.int .i64 0, .int .i64 0, .int .i64 10, .int .i64 0, .int .i64 12], .agg #[.int .i64 30, .int .i64 5, .int .i64 2, .int .i64 3, .int .i64 2], .slice (some ⟨g, 0, none⟩) 1 1] w fun en w' => ∃ A c, en = .returned (.tuple #[.slice A 1 c, .int .i64 0]) ∧ RdL w' 2 Spn.enc A [⟨0, 8⟩] ∧ Below w.heap.size w w' := by
  refine (c19_ok Aw.v Aw.u _ _ Aw.l _ (RdS.of_block h rfl) Aw.a1).mono ?_
  rintro e w' ⟨x, rfl, ⟨A, c, rfl, hr⟩, h2⟩
  rw [Aw.b6, Aw.a6] at hr
  rw [Aw.b6]
  exact ⟨A, c, rfl, hr, h2⟩
theorem k38a (g k : Nat) (w : World) (h : w.heap[g]? = some (.cells #[.int .i64 2, .int .i64 40, .int .i64 0] 166 (0, 0))) (h2 : w.heap[k]? = some (.cells #[.int .i64 0, .int .i64 11, .int .i64 11, .int .i64 20] 96 (0, 0))) : Calls Tryz.prog 38 #[.agg #[.int .i64 0, .int .i64 0, .int .i64 10, .int .i64 0, .int .i64 12], .agg #[.int .i64 30, .int .i64 5, .int .i64 2, .int .i64 3, .int .i64 2], .slice (some ⟨g, 0, none⟩) 1 1, .slice (some ⟨k, 0, none⟩) 1 2, .int .i64 1] w fun en w' => en = .returned (.tuple #[.int .i64 10, .int .i64 0]) ∧ Below w.heap.size w w' := by
  refine (c38_ok Aw.v Aw.u _ _ Aw.l _ _ [⟨0, 11⟩] 1 _ (RdS.of_block h rfl) (RdS.of_pre h2 rfl (by intro j hj; match j, hj with | 0, _ => rfl | 1, _ => rfl)) Aw.a7.1).mono ?_
  rintro e w' ⟨rfl, h2⟩
  rw [Aw.a7.2]
  exact ⟨rfl, h2⟩
theorem k38b (g k : Nat) (w : World) (h : w.heap[g]? = some (.cells #[.int .i64 2, .int .i64 40, .int .i64 0] 166 (0, 0))) (h2 : w.heap[k]? = some (.cells #[.int .i64 0, .int .i64 11, .int .i64 11, .int .i64 20] 96 (0, 0))) : Calls Tryz.prog 38 #[.agg #[.int .i64 0, .int .i64 0, .int .i64 10, .int .i64 0, .int .i64 12], .agg #[.int .i64 30, .int .i64 5, .int .i64 2, .int .i64 3, .int .i64 2], .slice (some ⟨g, 0, none⟩) 1 1, .slice (some ⟨k, 0, none⟩) 1 2, .int .i64 2] w fun en w' => ∃ z, en = .returned (.tuple #[.int .i64 z, .int .i64 7]) ∧ Below w.heap.size w w' := by
  refine (c38_ok Aw.v Aw.u _ _ Aw.l _ _ [⟨0, 11⟩] 2 _ (RdS.of_block h rfl) (RdS.of_pre h2 rfl (by intro j hj; match j, hj with | 0, _ => rfl | 1, _ => rfl)) Aw.a8.1).mono ?_
  rintro e w' ⟨rfl, h2⟩
  rw [Aw.a8.2]
  exact ⟨_, rfl, h2⟩
theorem k38c (g k : Nat) (w : World) (h : w.heap[g]? = some (.cells #[.int .i64 2, .int .i64 40, .int .i64 0] 166 (0, 0))) (h2 : w.heap[k]? = some (.cells #[.int .i64 0, .int .i64 11, .int .i64 11, .int .i64 20] 96 (0, 0))) : Calls Tryz.prog 38 #[.agg #[.int .i64 0, .int .i64 0, .int .i64 10, .int .i64 0, .int .i64 12], .agg #[.int .i64 30, .int .i64 5, .int .i64 2, .int .i64 3, .int .i64 2], .slice (some ⟨g, 0, none⟩) 1 1, .slice (some ⟨k, 0, none⟩) 2 2, .int .i64 2] w fun en w' => en = .returned (.tuple #[.int .i64 10, .int .i64 0]) ∧ Below w.heap.size w w' := by
  refine (c38_ok Aw.v Aw.u _ _ Aw.l _ _ Aw.sh 2 _ (RdS.of_block h rfl) (RdS.of_block h2 rfl) Aw.a9.1).mono ?_
  rintro e w' ⟨rfl, h2⟩
  rw [Aw.a9.2]
  exact ⟨rfl, h2⟩
theorem k34a (g k : Nat) (w : World) (h : w.heap[g]? = some (.cells #[.int .i64 2, .int .i64 40, .int .i64 0] 166 (0, 0))) (h2 : w.heap[k]? = some (.cells #[.int .i64 9, .int .i64 2] 98 (0, 0))) : Calls Tryz.prog 34 #[.agg #[.int .i64 0, .int .i64 0, .int .i64 10, .int .i64 0, .int .i64 12], .agg #[.int .i64 30, .int .i64 5, .int .i64 2, .int .i64 3, .int .i64 2], .slice (some ⟨g, 0, none⟩) 1 1, .slice (some ⟨k, 0, none⟩) 1 1] w fun en w' => en = .returned (.int .i64 0) ∧ Below w.heap.size w w' := by
  refine (c34 Aw.v Aw.u _ _ Aw.l _ _ [⟨9, 2⟩] _ (by decide) (RdS.of_block h rfl) (by decide) (RdS.of_block h2 rfl)).mono ?_
  rintro e w' ⟨rfl, h2⟩
  rw [Aw.a10.1]
  exact ⟨rfl, h2⟩
theorem k34b (g k : Nat) (w : World) (h : w.heap[g]? = some (.cells #[.int .i64 2, .int .i64 40, .int .i64 0] 166 (0, 0))) (h2 : w.heap[k]? = some (.cells #[.int .i64 9, .int .i64 3] 98 (0, 0))) : Calls Tryz.prog 34 #[.agg #[.int .i64 0, .int .i64 0, .int .i64 10, .int .i64 0, .int .i64 12], .agg #[.int .i64 30, .int .i64 5, .int .i64 2, .int .i64 3, .int .i64 2], .slice (some ⟨g, 0, none⟩) 1 1, .slice (some ⟨k, 0, none⟩) 1 1] w fun en w' => en = .returned (.int .i64 21) ∧ Below w.heap.size w w' := by
  refine (c34 Aw.v Aw.u _ _ Aw.l _ _ [⟨9, 3⟩] _ (by decide) (RdS.of_block h rfl) (by decide) (RdS.of_block h2 rfl)).mono ?_
  rintro e w' ⟨rfl, h2⟩
  rw [Aw.a10.2.1]
  exact ⟨rfl, h2⟩
theorem k34c (g k : Nat) (w : World) (h : w.heap[g]? = some (.cells #[.int .i64 2, .int .i64 40, .int .i64 0] 166 (0, 0))) (h2 : w.heap[k]? = some (.cells #[.int .i64 4, .int .i64 1] 98 (0, 0))) : Calls Tryz.prog 34 #[.agg #[.int .i64 0, .int .i64 0, .int .i64 10, .int .i64 0, .int .i64 12], .agg #[.int .i64 30, .int .i64 5, .int .i64 2, .int .i64 3, .int .i64 2], .slice (some ⟨g, 0, none⟩) 1 1, .slice (some ⟨k, 0, none⟩) 1 1] w fun en w' => en = .returned (.int .i64 31) ∧ Below w.heap.size w w' := by
  refine (c34 Aw.v Aw.u _ _ Aw.l _ _ [⟨4, 1⟩] _ (by decide) (RdS.of_block h rfl) (by decide) (RdS.of_block h2 rfl)).mono ?_
  rintro e w' ⟨rfl, h2⟩
  rw [Aw.a10.2.2]
  exact ⟨rfl, h2⟩

theorem k40 (g k m : Nat) (w : World) (h : w.heap[g]? = some (.cells #[.int .i64 2, .int .i64 40, .int .i64 0] 166 (0, 0))) (h2 : w.heap[k]? = some (.cells #[.int .i64 0, .int .i64 11, .int .i64 11, .int .i64 20] 96 (0, 0))) (h3 : w.heap[m]? = some (.cells #[.int .i64 9, .int .i64 10] 96 (0, 0))) : Calls Tryz.prog 40 #[.agg #[.int .i64 0, .int .i64 0, .int .i64 10, .int .i64 0, .int .i64 12], .agg #[.int .i64 30, .int .i64 5, .int .i64 2, .int .i64 3, .int .i64 2], .slice (some ⟨g, 0, none⟩) 1 1, .slice (some ⟨k, 0, none⟩) 2 2, .slice (some ⟨m, 0, none⟩) 1 1] w fun en w' => ∃ A c, en = .returned (.tuple #[.slice A 4 c, .int .i64 0]) ∧ RdL w' 3 Ent.enc A Aw.es ∧ Below w.heap.size w w' := by
  refine (c40 Aw.v Aw.u _ _ Aw.l _ _ Aw.sh _ _ [⟨9, 10⟩] _ (by decide) (by decide) (by decide) (RdS.of_block h rfl) (RdS.of_block h2 rfl) (RdS.of_block h3 rfl)).mono ?_
  rintro e w' ⟨x, rfl, ⟨A, c, rfl, hr⟩, h2⟩
  rw [Aw.a11] at hr ⊢
  exact ⟨A, c, rfl, hr, h2⟩
theorem k44 (A : Option Addr) (cap : Nat) (w : World) (h : RdL w 3 Ent.enc A Aw.es) : Calls Tryz.prog 44 #[.slice A 4 cap] w fun en w' => ∃ A c, en = .returned (.slice A 4 c) ∧ RdL w' 3 Ent.enc A Aw.es ∧ Below w.heap.size w w' := by
  refine (c44 A cap Aw.es w (by decide) h).mono ?_
  rintro e w' ⟨x, rfl, ⟨A, c, rfl, hr⟩, h2⟩
  exact ⟨A, c, rfl, hr, h2⟩
theorem k43 (A B : Option Addr) (cap cap2 : Nat) (w : World) (h : RdL w 3 Ent.enc A Aw.es) (h2 : RdL w 3 Ent.enc B Aw.es) : Calls Tryz.prog 43 #[.slice A 4 cap, .slice B 4 cap2] w fun en w' => en = .returned (.bool true) ∧ Below w.heap.size w w' :=
  c43 A B cap cap2 Aw.es w (by decide) h h2
theorem Aw.sz : ∀ e ∈ Aw.es, e.c.size ≤ 1000000 := by decide
theorem Aw.szr : ∀ x ∈ Aw.rs, x.n.size ≤ 1000000 := by decide
theorem k54 (A : Option Addr) (cap : Nat) (w : World) (h : RdL w 3 Ent.enc A Aw.es) : Calls Tryz.prog 54 #[.slice A 4 cap] w fun en w' => en = .returned (.tuple #[.agg #[.int .i64 3, .int .i64 0, .int .i64 1, .int .i64 8, .int .i64 0, .int .i64 0], .int .i64 0]) ∧ Below w.heap.size w w' := by
  refine (c54 A cap Aw.es w (by decide) Aw.sz h).mono ?_
  rintro e w' ⟨rfl, h2⟩
  rw [Aw.a13, Aw.a12.1]
  exact ⟨rfl, h2⟩
theorem k55 (A : Option Addr) (cap : Nat) (w : World) (h : RdL w 3 Ent.enc A Aw.es) : Calls Tryz.prog 55 #[.slice A 4 cap] w fun en w' => en = .returned (.tuple #[.agg #[.int .i64 3, .int .i64 4], .int .i64 0]) ∧ Below w.heap.size w w' := by
  refine (c55 A cap Aw.es w (by decide) Aw.sz h).mono ?_
  rintro e w' ⟨rfl, h2⟩
  rw [Aw.a14, Aw.a12.2.1]
  exact ⟨rfl, h2⟩
theorem k66 (A : Option Addr) (cap k : Nat) (w : World) (h : RdL w 3 Ent.enc A Aw.es) (h2 : w.heap[k]? = some (.cells #[.string ⟨#[97]⟩, .int .i64 3, .int .i64 3, .string ⟨#[98]⟩, .int .i64 2, .int .i64 3] 210 (0, 0))) : Calls Tryz.prog 66 #[.agg #[.int .i64 100, .int .i64 50, .int .i64 20, .int .i64 10, .int .i64 (-30), .int .i64 5, .int .i64 0, .int .i64 500, .int .i64 200], .slice A 4 cap, .slice (some ⟨k, 0, none⟩) 2 2] w fun en w' => en = .returned (.tuple #[.agg #[.int .i64 300, .int .i64 0, .int .i64 20, .int .i64 80, .int .i64 0, .int .i64 0, .int .i64 300, .int .i64 700], .int .i64 0]) ∧ Below w.heap.size w w' := by
  refine (c66 (Aw.con 0) A cap Aw.es _ _ Aw.rs w (by decide) (by decide) (by decide) (by decide) Aw.sz Aw.szr h (RdS.of_block h2 rfl)).mono ?_
  rintro e w' ⟨rfl, h2⟩
  rw [Aw.a15, Aw.b10.1]
  exact ⟨rfl, h2⟩
theorem k68 (A : Option Addr) (cap k : Nat) (w : World) (h : RdL w 3 Ent.enc A Aw.es) (h2 : w.heap[k]? = some (.cells #[.string ⟨#[97]⟩, .int .i64 3, .int .i64 3, .string ⟨#[98]⟩, .int .i64 2, .int .i64 3] 210 (0, 0))) : Calls Tryz.prog 68 #[.agg #[.int .i64 100, .int .i64 50, .int .i64 20, .int .i64 10, .int .i64 (-30), .int .i64 5, .int .i64 1, .int .i64 500, .int .i64 200], .slice A 4 cap, .slice (some ⟨k, 0, none⟩) 2 2] w fun en w' => en = .returned (.tuple #[.agg #[.int .i64 300, .int .i64 0, .int .i64 0, .int .i64 80, .int .i64 0, .int .i64 0, .int .i64 300, .int .i64 680], .int .i64 0]) ∧ Below w.heap.size w w' := by
  refine (c68 (Aw.con 1) A cap Aw.es _ _ Aw.rs w (by decide) (by decide) (by decide) (by decide) Aw.sz Aw.szr h (RdS.of_block h2 rfl) ?_).mono ?_
  · intro b off hb
    obtain ⟨b', off', he, hlt, _⟩ := h.2 (by decide)
    rw [hb] at he
    cases he
    exact hlt
  · rintro e w' ⟨rfl, h2⟩
    rw [Aw.a16, Aw.b10.2]
    exact ⟨rfl, h2⟩
theorem Aw.a15i : ∃ x : Inv, x.arr = #[.int .i64 300, .int .i64 0, .int .i64 20, .int .i64 80, .int .i64 0, .int .i64 0, .int .i64 300, .int .i64 700] ∧ x = Mo.billV (Aw.con 0) Aw.es Aw.rs := ⟨_, Aw.a15, rfl⟩
theorem k45 (w : World) : Calls Tryz.prog 45 #[.agg #[.int .i64 300, .int .i64 0, .int .i64 20, .int .i64 80, .int .i64 0, .int .i64 0, .int .i64 300, .int .i64 700], .agg #[.int .i64 300, .int .i64 0, .int .i64 0, .int .i64 80, .int .i64 0, .int .i64 0, .int .i64 300, .int .i64 680]] w fun en w' => ∃ A c, en = .returned (.tuple #[.slice A 2 c, .int .i64 0]) ∧ RdS w' 1 A 2 [.string { data := #[119, 101, 97, 116, 104, 101, 114] }, .string { data := #[116, 111, 116, 97, 108] }] ∧ Below w.heap.size w w' := by
  rw [← Aw.a15, ← Aw.a16]
  refine (c45 (Mo.billV (Aw.con 0) Aw.es Aw.rs) (Mo.billV (Aw.con 1) Aw.es Aw.rs) w).mono ?_
  rintro e w' ⟨x, rfl, ⟨A, c, rfl, hr⟩, h2⟩
  rw [Aw.a17] at hr ⊢
  exact ⟨A, c, rfl, hr, h2⟩
theorem itoaOk_small (n : Nat) (h : n < 100) (w : World) : ItoaOk w n := by
  refine ⟨Lib.itoa_length_le n (by omega) (by omega), fun W _ => ?_⟩
  refine (Tryz.strconv_Itoa_small n h W).mono ?_
  rintro e w' ⟨rfl, rfl⟩
  rw [Lib.itoa_nonneg]
  exact ⟨rfl, Below.refl _ _⟩
theorem k76 (A : Option Addr) (cap : Nat) (w : World) (h : RdL w 3 Ent.enc A [⟨0, 8, { data := #[97, 110, 105, 109, 97, 108] }⟩]) : Calls Tryz.prog 76 #[.slice A 1 cap] w fun en w' => en = .returned (.tuple #[.string { data := #[48, 32, 56, 32, 97, 110, 105, 109, 97, 108, 10] }, .int .i64 0]) ∧ Below w.heap.size w w' := by
  refine (c76 A cap [⟨0, 8, { data := #[97, 110, 105, 109, 97, 108] }⟩] w (by decide) (by decide) (fun _ e he => ?_) h).mono ?_
  · rw [List.mem_singleton] at he
    subst he
    exact ⟨itoaOk_small 0 (by decide) w, itoaOk_small 8 (by decide) w⟩
  · rintro e w' ⟨rfl, h2⟩
    rw [if_pos Aw.a18, Aw.a18, Aw.a19]
    exact ⟨rfl, h2⟩

end Go.Proofs.YtndhjkammoeikaaGreatDoor
namespace Go.Proofs.YtndhjkammoeikaaGreatDoor
open Go.RowKit
set_option maxHeartbeats 4000000
set_option maxRecDepth 100000

theorem blka {w : World} {g : Nat} {o : Obj} (h : w.heap[g]? = some o) (x : Obj) : (w.alloc x).heap[g]? = some o := heap_old (Array.getElem?_eq_some_iff.1 h).1 h
theorem RdS.al {w : World} {size n : Nat} {A : Option Addr} {xs : List Value} (h : RdS w size A n xs) (x : Obj) : RdS (w.alloc x) size A n xs := h.below ((Below.refl _ _).alloc (Nat.le_refl _) _)
theorem eq85n (w : World) : (Op.equalIn 10000 85 (.agg #[.int .i64 3, .int .i64 0, .int .i64 1, .int .i64 8, .int .i64 0, .int .i64 0]) (.agg #[.int .i64 3, .int .i64 0, .int .i64 1, .int .i64 8, .int .i64 0, .int .i64 0])).run Tryz.prog w = .ok true w := by kernel_rfl
theorem eq111n (w : World) : (Op.equalIn 10000 111 (.agg #[.int .i64 3, .int .i64 4]) (.agg #[.int .i64 3, .int .i64 4])).run Tryz.prog w = .ok true w := by kernel_rfl
theorem eq91n (w : World) : (Op.equalIn 10000 91 (.agg #[.int .i64 300, .int .i64 0, .int .i64 20, .int .i64 80, .int .i64 0, .int .i64 0, .int .i64 300, .int .i64 700]) (.agg #[.int .i64 300, .int .i64 0, .int .i64 20, .int .i64 80, .int .i64 0, .int .i64 0, .int .i64 300, .int .i64 700])).run Tryz.prog w = .ok true w := by kernel_rfl
theorem c15 (w : World) : Calls Tryz.prog 15 #[] w fun en w' => en = .returned (.bool true) ∧ Below w.heap.size w w' := by
  have E85 := eq85n
  have E111 := eq111n
  have E91 := eq91n
  obtain ⟨i0, hi, hz0, hz1, hz2⟩ := info_parts info134
  have hB0 : Below w.heap.size w w := Below.refl _ _
  go_enter Tryz.func15, Tryz.ntmps15
  go_wp2_with fail
  refine (c81 _).mono ?_
  rintro e w1 ⟨rfl, hb⟩
  have hS : Below w.heap.size w w1 := (Below.refl _ _).call hb rfl
  have hB1 := hB0.call hS rfl
  clear hB0 hS
  clear hb
  go_wp2_with fail
  refine (c82 _).mono ?_
  rintro e w2 ⟨rfl, hb⟩
  have hS : Below w1.heap.size w1 w2 := (Below.refl _ _).call hb rfl
  have hB2 := hB1.call hS rfl
  clear hB1 hS
  clear hb
  go_wp2_with fail
  refine (c83 _).mono ?_
  rintro e w3 ⟨g, rfl, hg, _, hb⟩
  have hS : Below w2.heap.size w2 w3 := (Below.refl _ _).call hb rfl
  have hB3 := hB2.call hS rfl
  clear hB2 hS
  clear hb
  go_wp2_with fail
  refine (k16 g _ hg).mono ?_
  rintro e w4 ⟨g1, rfl, h1, hb⟩
  have hS : Below w3.heap.size w3 w4 := (Below.refl _ _).call hb rfl
  have hB4 := hB3.call hS rfl
  replace hg := blkb hg hS
  clear hB3 hS
  clear hb
  clear hg
  go_wp2_with fail
  refine (c81 _).mono ?_
  rintro e w5 ⟨rfl, hb⟩
  have hS : Below w4.heap.size w4 w5 := (Below.refl _ _).call hb rfl
  have hB5 := hB4.call hS rfl
  replace h1 := blkb h1 hS
  clear hB4 hS
  clear hb
  go_wp2_with fail
  refine (c82 _).mono ?_
  rintro e w6 ⟨rfl, hb⟩
  have hS : Below w5.heap.size w5 w6 := (Below.refl _ _).call hb rfl
  have hB6 := hB5.call hS rfl
  replace h1 := blkb h1 hS
  clear hB5 hS
  clear hb
  go_wp2_with fail
  refine (c83 _).mono ?_
  rintro e w7 ⟨g, rfl, hg, _, hb⟩
  have hS : Below w6.heap.size w6 w7 := (Below.refl _ _).call hb rfl
  have hB7 := hB6.call hS rfl
  replace h1 := blkb h1 hS
  clear hB6 hS
  clear hb
  go_wp2_with fail
  refine (k18 g _ hg).mono ?_
  rintro e w8 ⟨g2, rfl, h2, hb⟩
  have hS : Below w7.heap.size w7 w8 := (Below.refl _ _).call hb rfl
  have hB8 := hB7.call hS rfl
  replace h1 := blkb h1 hS
  replace hg := blkb hg hS
  clear hB7 hS
  clear hb
  clear hg
  go_wp2_with fail
  refine (c81 _).mono ?_
  rintro e w9 ⟨rfl, hb⟩
  have hS : Below w8.heap.size w8 w9 := (Below.refl _ _).call hb rfl
  have hB9 := hB8.call hS rfl
  replace h1 := blkb h1 hS
  replace h2 := blkb h2 hS
  clear hB8 hS
  clear hb
  go_wp2_with fail
  refine (c82 _).mono ?_
  rintro e w10 ⟨rfl, hb⟩
  have hS : Below w9.heap.size w9 w10 := (Below.refl _ _).call hb rfl
  have hB10 := hB9.call hS rfl
  replace h1 := blkb h1 hS
  replace h2 := blkb h2 hS
  clear hB9 hS
  clear hb
  go_wp2_with fail
  refine (k18n _).mono ?_
  rintro e w11 ⟨g3, rfl, h3, hb⟩
  have hS : Below w10.heap.size w10 w11 := (Below.refl _ _).call hb rfl
  have hB11 := hB10.call hS rfl
  replace h1 := blkb h1 hS
  replace h2 := blkb h2 hS
  clear hB10 hS
  clear hb
  go_wp2_with fail
  refine (c81 _).mono ?_
  rintro e w12 ⟨rfl, hb⟩
  have hS : Below w11.heap.size w11 w12 := (Below.refl _ _).call hb rfl
  have hB12 := hB11.call hS rfl
  replace h1 := blkb h1 hS
  replace h2 := blkb h2 hS
  replace h3 := blkb h3 hS
  clear hB11 hS
  clear hb
  go_wp2_with fail
  refine (c82 _).mono ?_
  rintro e w13 ⟨rfl, hb⟩
  have hS : Below w12.heap.size w12 w13 := (Below.refl _ _).call hb rfl
  have hB13 := hB12.call hS rfl
  replace h1 := blkb h1 hS
  replace h2 := blkb h2 hS
  replace h3 := blkb h3 hS
  clear hB12 hS
  clear hb
  go_wp2_with fail
  refine (c83 _).mono ?_
  rintro e w14 ⟨g, rfl, hg, _, hb⟩
  have hS : Below w13.heap.size w13 w14 := (Below.refl _ _).call hb rfl
  have hB14 := hB13.call hS rfl
  replace h1 := blkb h1 hS
  replace h2 := blkb h2 hS
  replace h3 := blkb h3 hS
  clear hB13 hS
  clear hb
  go_wp2_with fail
  refine (k19 g _ hg).mono ?_
  rintro e w15 ⟨A4, C4, rfl, h4, hb⟩
  have hS : Below w14.heap.size w14 w15 := (Below.refl _ _).call hb rfl
  have hB15 := hB14.call hS rfl
  replace h1 := blkb h1 hS
  replace h2 := blkb h2 hS
  replace h3 := blkb h3 hS
  replace hg := blkb hg hS
  clear hB14 hS
  clear hb
  clear hg
  go_wp2_with fail
  refine (c81 _).mono ?_
  rintro e w16 ⟨rfl, hb⟩
  have hS : Below w15.heap.size w15 w16 := (Below.refl _ _).call hb rfl
  have hB16 := hB15.call hS rfl
  replace h1 := blkb h1 hS
  replace h2 := blkb h2 hS
  replace h3 := blkb h3 hS
  replace h4 := h4.below hS
  clear hB15 hS
  clear hb
  go_wp2_with fail
  refine (c82 _).mono ?_
  rintro e w17 ⟨rfl, hb⟩
  have hS : Below w16.heap.size w16 w17 := (Below.refl _ _).call hb rfl
  have hB17 := hB16.call hS rfl
  replace h1 := blkb h1 hS
  replace h2 := blkb h2 hS
  replace h3 := blkb h3 hS
  replace h4 := h4.below hS
  clear hB16 hS
  clear hb
  go_wp2_with fail
  refine (c83 _).mono ?_
  rintro e w18 ⟨g, rfl, hg, _, hb⟩
  have hS : Below w17.heap.size w17 w18 := (Below.refl _ _).call hb rfl
  have hB18 := hB17.call hS rfl
  replace h1 := blkb h1 hS
  replace h2 := blkb h2 hS
  replace h3 := blkb h3 hS
  replace h4 := h4.below hS
  clear hB17 hS
  clear hb
  go_wp2_with fail
  refine (c84 _).mono ?_
  rintro e w19 ⟨k, rfl, hk, _, hb⟩
  have hS : Below w18.heap.size w18 w19 := (Below.refl _ _).call hb rfl
  have hB19 := hB18.call hS rfl
  replace h1 := blkb h1 hS
  replace h2 := blkb h2 hS
  replace h3 := blkb h3 hS
  replace h4 := h4.below hS
  replace hg := blkb hg hS
  clear hB18 hS
  clear hb
  go_wp2_with fail
  refine (k38a g k _ hg hk).mono ?_
  rintro e w20 ⟨rfl, hb⟩
  have hS : Below w19.heap.size w19 w20 := (Below.refl _ _).call hb rfl
  have hB20 := hB19.call hS rfl
  replace h1 := blkb h1 hS
  replace h2 := blkb h2 hS
  replace h3 := blkb h3 hS
  replace h4 := h4.below hS
  replace hg := blkb hg hS
  replace hk := blkb hk hS
  clear hB19 hS
  clear hb
  clear hg
  clear hk
  go_wp2_with fail
  refine (c81 _).mono ?_
  rintro e w21 ⟨rfl, hb⟩
  have hS : Below w20.heap.size w20 w21 := (Below.refl _ _).call hb rfl
  have hB21 := hB20.call hS rfl
  replace h1 := blkb h1 hS
  replace h2 := blkb h2 hS
  replace h3 := blkb h3 hS
  replace h4 := h4.below hS
  clear hB20 hS
  clear hb
  go_wp2_with fail
  refine (c82 _).mono ?_
  rintro e w22 ⟨rfl, hb⟩
  have hS : Below w21.heap.size w21 w22 := (Below.refl _ _).call hb rfl
  have hB22 := hB21.call hS rfl
  replace h1 := blkb h1 hS
  replace h2 := blkb h2 hS
  replace h3 := blkb h3 hS
  replace h4 := h4.below hS
  clear hB21 hS
  clear hb
  go_wp2_with fail
  refine (c83 _).mono ?_
  rintro e w23 ⟨g, rfl, hg, _, hb⟩
  have hS : Below w22.heap.size w22 w23 := (Below.refl _ _).call hb rfl
  have hB23 := hB22.call hS rfl
  replace h1 := blkb h1 hS
  replace h2 := blkb h2 hS
  replace h3 := blkb h3 hS
  replace h4 := h4.below hS
  clear hB22 hS
  clear hb
  go_wp2_with fail
  refine (c84 _).mono ?_
  rintro e w24 ⟨k, rfl, hk, _, hb⟩
  have hS : Below w23.heap.size w23 w24 := (Below.refl _ _).call hb rfl
  have hB24 := hB23.call hS rfl
  replace h1 := blkb h1 hS
  replace h2 := blkb h2 hS
  replace h3 := blkb h3 hS
  replace h4 := h4.below hS
  replace hg := blkb hg hS
  clear hB23 hS
  clear hb
  go_wp2_with fail
  refine (k38b g k _ hg hk).mono ?_
  rintro e w25 ⟨z6, rfl, hb⟩
  have hS : Below w24.heap.size w24 w25 := (Below.refl _ _).call hb rfl
  have hB25 := hB24.call hS rfl
  replace h1 := blkb h1 hS
  replace h2 := blkb h2 hS
  replace h3 := blkb h3 hS
  replace h4 := h4.below hS
  replace hg := blkb hg hS
  replace hk := blkb hk hS
  clear hB24 hS
  clear hb
  clear hg
  clear hk
  go_wp2_with fail
  refine (c81 _).mono ?_
  rintro e w26 ⟨rfl, hb⟩
  have hS : Below w25.heap.size w25 w26 := (Below.refl _ _).call hb rfl
  have hB26 := hB25.call hS rfl
  replace h1 := blkb h1 hS
  replace h2 := blkb h2 hS
  replace h3 := blkb h3 hS
  replace h4 := h4.below hS
  clear hB25 hS
  clear hb
  go_wp2_with fail
  refine (c82 _).mono ?_
  rintro e w27 ⟨rfl, hb⟩
  have hS : Below w26.heap.size w26 w27 := (Below.refl _ _).call hb rfl
  have hB27 := hB26.call hS rfl
  replace h1 := blkb h1 hS
  replace h2 := blkb h2 hS
  replace h3 := blkb h3 hS
  replace h4 := h4.below hS
  clear hB26 hS
  clear hb
  go_wp2_with fail
  refine (c83 _).mono ?_
  rintro e w28 ⟨g, rfl, hg, _, hb⟩
  have hS : Below w27.heap.size w27 w28 := (Below.refl _ _).call hb rfl
  have hB28 := hB27.call hS rfl
  replace h1 := blkb h1 hS
  replace h2 := blkb h2 hS
  replace h3 := blkb h3 hS
  replace h4 := h4.below hS
  clear hB27 hS
  clear hb
  go_wp2_with fail
  refine (c84 _).mono ?_
  rintro e w29 ⟨k, rfl, hk, _, hb⟩
  have hS : Below w28.heap.size w28 w29 := (Below.refl _ _).call hb rfl
  have hB29 := hB28.call hS rfl
  replace h1 := blkb h1 hS
  replace h2 := blkb h2 hS
  replace h3 := blkb h3 hS
  replace h4 := h4.below hS
  replace hg := blkb hg hS
  clear hB28 hS
  clear hb
  go_wp2_with fail
  refine (k38c g k _ hg hk).mono ?_
  rintro e w30 ⟨rfl, hb⟩
  have hS : Below w29.heap.size w29 w30 := (Below.refl _ _).call hb rfl
  have hB30 := hB29.call hS rfl
  replace h1 := blkb h1 hS
  replace h2 := blkb h2 hS
  replace h3 := blkb h3 hS
  replace h4 := h4.below hS
  replace hg := blkb hg hS
  replace hk := blkb hk hS
  clear hB29 hS
  clear hb
  clear hg
  clear hk
  go_wp2_with fail
  refine (c81 _).mono ?_
  rintro e w31 ⟨rfl, hb⟩
  have hS : Below w30.heap.size w30 w31 := (Below.refl _ _).call hb rfl
  have hB31 := hB30.call hS rfl
  replace h1 := blkb h1 hS
  replace h2 := blkb h2 hS
  replace h3 := blkb h3 hS
  replace h4 := h4.below hS
  clear hB30 hS
  clear hb
  go_wp2_with fail
  refine (c82 _).mono ?_
  rintro e w32 ⟨rfl, hb⟩
  have hS : Below w31.heap.size w31 w32 := (Below.refl _ _).call hb rfl
  have hB32 := hB31.call hS rfl
  replace h1 := blkb h1 hS
  replace h2 := blkb h2 hS
  replace h3 := blkb h3 hS
  replace h4 := h4.below hS
  clear hB31 hS
  clear hb
  go_wp2_with fail
  refine (c83 _).mono ?_
  rintro e w33 ⟨g, rfl, hg, _, hb⟩
  have hS : Below w32.heap.size w32 w33 := (Below.refl _ _).call hb rfl
  have hB33 := hB32.call hS rfl
  replace h1 := blkb h1 hS
  replace h2 := blkb h2 hS
  replace h3 := blkb h3 hS
  replace h4 := h4.below hS
  clear hB32 hS
  clear hb
  go_wp2_with fail
  refine (k34a g _ _ (blka hg (Obj.cells #[.int .i64 9, .int .i64 2] 98)) (heap_new rfl)).mono ?_
  rintro e w34 ⟨rfl, hb⟩
  have hS : Below w33.heap.size w33 w34 := ((Below.refl _ _).alloc (by first | exact Nat.le_refl _ | (simp <;> omega)) _).call hb rfl
  have hB34 := hB33.call hS rfl
  replace h1 := blkb h1 hS
  replace h2 := blkb h2 hS
  replace h3 := blkb h3 hS
  replace h4 := h4.below hS
  replace hg := blkb hg hS
  clear hB33 hS
  clear hb
  clear hg
  go_wp2_with fail
  refine (c81 _).mono ?_
  rintro e w35 ⟨rfl, hb⟩
  have hS : Below w34.heap.size w34 w35 := (Below.refl _ _).call hb rfl
  have hB35 := hB34.call hS rfl
  replace h1 := blkb h1 hS
  replace h2 := blkb h2 hS
  replace h3 := blkb h3 hS
  replace h4 := h4.below hS
  clear hB34 hS
  clear hb
  go_wp2_with fail
  refine (c82 _).mono ?_
  rintro e w36 ⟨rfl, hb⟩
  have hS : Below w35.heap.size w35 w36 := (Below.refl _ _).call hb rfl
  have hB36 := hB35.call hS rfl
  replace h1 := blkb h1 hS
  replace h2 := blkb h2 hS
  replace h3 := blkb h3 hS
  replace h4 := h4.below hS
  clear hB35 hS
  clear hb
  go_wp2_with fail
  refine (c83 _).mono ?_
  rintro e w37 ⟨g, rfl, hg, _, hb⟩
  have hS : Below w36.heap.size w36 w37 := (Below.refl _ _).call hb rfl
  have hB37 := hB36.call hS rfl
  replace h1 := blkb h1 hS
  replace h2 := blkb h2 hS
  replace h3 := blkb h3 hS
  replace h4 := h4.below hS
  clear hB36 hS
  clear hb
  go_wp2_with fail
  refine (k34b g _ _ (blka hg (Obj.cells #[.int .i64 9, .int .i64 3] 98)) (heap_new rfl)).mono ?_
  rintro e w38 ⟨rfl, hb⟩
  have hS : Below w37.heap.size w37 w38 := ((Below.refl _ _).alloc (by first | exact Nat.le_refl _ | (simp <;> omega)) _).call hb rfl
  have hB38 := hB37.call hS rfl
  replace h1 := blkb h1 hS
  replace h2 := blkb h2 hS
  replace h3 := blkb h3 hS
  replace h4 := h4.below hS
  replace hg := blkb hg hS
  clear hB37 hS
  clear hb
  clear hg
  go_wp2_with fail
  refine (c81 _).mono ?_
  rintro e w39 ⟨rfl, hb⟩
  have hS : Below w38.heap.size w38 w39 := (Below.refl _ _).call hb rfl
  have hB39 := hB38.call hS rfl
  replace h1 := blkb h1 hS
  replace h2 := blkb h2 hS
  replace h3 := blkb h3 hS
  replace h4 := h4.below hS
  clear hB38 hS
  clear hb
  go_wp2_with fail
  refine (c82 _).mono ?_
  rintro e w40 ⟨rfl, hb⟩
  have hS : Below w39.heap.size w39 w40 := (Below.refl _ _).call hb rfl
  have hB40 := hB39.call hS rfl
  replace h1 := blkb h1 hS
  replace h2 := blkb h2 hS
  replace h3 := blkb h3 hS
  replace h4 := h4.below hS
  clear hB39 hS
  clear hb
  go_wp2_with fail
  refine (c83 _).mono ?_
  rintro e w41 ⟨g, rfl, hg, _, hb⟩
  have hS : Below w40.heap.size w40 w41 := (Below.refl _ _).call hb rfl
  have hB41 := hB40.call hS rfl
  replace h1 := blkb h1 hS
  replace h2 := blkb h2 hS
  replace h3 := blkb h3 hS
  replace h4 := h4.below hS
  clear hB40 hS
  clear hb
  go_wp2_with fail
  refine (k34c g _ _ (blka hg (Obj.cells #[.int .i64 4, .int .i64 1] 98)) (heap_new rfl)).mono ?_
  rintro e w42 ⟨rfl, hb⟩
  have hS : Below w41.heap.size w41 w42 := ((Below.refl _ _).alloc (by first | exact Nat.le_refl _ | (simp <;> omega)) _).call hb rfl
  have hB42 := hB41.call hS rfl
  replace h1 := blkb h1 hS
  replace h2 := blkb h2 hS
  replace h3 := blkb h3 hS
  replace h4 := h4.below hS
  replace hg := blkb hg hS
  clear hB41 hS
  clear hb
  clear hg
  have q1 : w42.cell? ⟨g1, 1, none⟩ = some (.bool false) := cell_at h1 rfl
  have q2 : w42.cell? ⟨g1, 2, none⟩ = some (.bool true) := cell_at h1 rfl
  have q3 : w42.cell? ⟨g1, 3, none⟩ = some (.bool true) := cell_at h1 rfl
  have q4 : w42.cell? ⟨g1, 4, none⟩ = some (.bool true) := cell_at h1 rfl
  have q5 : w42.cell? ⟨g1, 5, none⟩ = some (.bool false) := cell_at h1 rfl
  go_wp2_with fail
  refine (c31 (some ⟨g2, 0, none⟩) (some ⟨w42.heap.size, 0, none⟩) 12 12 [0,0,0,0,0,0,0,0,1,2,3,3] _ (by decide) (RdS.of_block (blka h2 _) rfl) (RdS.of_new rfl rfl)).mono ?_
  rintro e w43 ⟨rfl, hb⟩
  have hS : Below w42.heap.size w42 w43 := ((Below.refl _ _).alloc (by first | exact Nat.le_refl _ | (simp <;> omega)) _).call hb rfl
  have hB43 := hB42.call hS rfl
  replace h1 := blkb h1 hS
  replace h2 := blkb h2 hS
  replace h3 := blkb h3 hS
  replace h4 := h4.below hS
  clear hB42 hS
  clear hb
  clear q1 q2 q3 q4 q5 h1 h2
  go_wp2_with fail
  refine (c31 (some ⟨g3, 0, none⟩) (some ⟨w43.heap.size, 0, none⟩) 12 12 [0,0,0,1,2,3,3,3,3,3,3,3] _ (by decide) (RdS.of_block (blka h3 _) rfl) (RdS.of_new rfl rfl)).mono ?_
  rintro e w44 ⟨rfl, hb⟩
  have hS : Below w43.heap.size w43 w44 := ((Below.refl _ _).alloc (by first | exact Nat.le_refl _ | (simp <;> omega)) _).call hb rfl
  have hB44 := hB43.call hS rfl
  replace h3 := blkb h3 hS
  replace h4 := h4.below hS
  clear hB43 hS
  clear hb
  clear h3
  go_wp2_with fail
  refine (c32 A4 (some ⟨w44.heap.size, 0, none⟩) C4 1 [⟨0, 8⟩] _ (by decide) (RdS.al h4 _) (RdS.of_new rfl rfl)).mono ?_
  rintro e w45 ⟨rfl, hb⟩
  have hS : Below w44.heap.size w44 w45 := ((Below.refl _ _).alloc (by first | exact Nat.le_refl _ | (simp <;> omega)) _).call hb rfl
  have hB45 := hB44.call hS rfl
  replace h4 := h4.below hS
  clear hB44 hS
  clear hb
  clear h4
  go_wp2_with fail
  refine (c81 _).mono ?_
  rintro e w46 ⟨rfl, hb⟩
  have hS : Below w45.heap.size w45 w46 := (Below.refl _ _).call hb rfl
  have hB46 := hB45.call hS rfl
  clear hB45 hS
  clear hb
  go_wp2_with fail
  refine (c82 _).mono ?_
  rintro e w47 ⟨rfl, hb⟩
  have hS : Below w46.heap.size w46 w47 := (Below.refl _ _).call hb rfl
  have hB47 := hB46.call hS rfl
  clear hB46 hS
  clear hb
  go_wp2_with fail
  refine (c83 _).mono ?_
  rintro e w48 ⟨g, rfl, hg, _, hb⟩
  have hS : Below w47.heap.size w47 w48 := (Below.refl _ _).call hb rfl
  have hB48 := hB47.call hS rfl
  clear hB47 hS
  clear hb
  go_wp2_with fail
  refine (c84 _).mono ?_
  rintro e w49 ⟨k, rfl, hk, _, hb⟩
  have hS : Below w48.heap.size w48 w49 := (Below.refl _ _).call hb rfl
  have hB49 := hB48.call hS rfl
  replace hg := blkb hg hS
  clear hB48 hS
  clear hb
  go_wp2_with fail
  refine (k40 g k _ _ (blka hg (Obj.cells #[.int .i64 9, .int .i64 10] 96)) (blka hk (Obj.cells #[.int .i64 9, .int .i64 10] 96)) (heap_new rfl)).mono ?_
  rintro e w50 ⟨A5, C5, rfl, h5, hb⟩
  have hS : Below w49.heap.size w49 w50 := ((Below.refl _ _).alloc (by first | exact Nat.le_refl _ | (simp <;> omega)) _).call hb rfl
  have hB50 := hB49.call hS rfl
  replace hg := blkb hg hS
  replace hk := blkb hk hS
  clear hB49 hS
  clear hb
  clear hg
  clear hk
  go_wp2_with fail
  refine (k44 A5 C5 _ (RdS.al h5 (Obj.cells #[.int .i64 0, .int .i64 8, .string { data := #[97, 110, 105, 109, 97, 108] }, .int .i64 8, .int .i64 9, .string { data := #[115, 104, 111, 111, 116] }, .int .i64 9, .int .i64 10, .string { data := #[119, 101, 97, 116, 104, 101, 114] }, .int .i64 10, .int .i64 12, .string { data := #[115, 104, 111, 111, 116] }] 134))).mono ?_
  rintro e w51 ⟨A6, C6, rfl, h6, hb⟩
  have hE := blkb (heap_new (w := w50) (o := (Obj.cells #[.int .i64 0, .int .i64 8, .string { data := #[97, 110, 105, 109, 97, 108] }, .int .i64 8, .int .i64 9, .string { data := #[115, 104, 111, 111, 116] }, .int .i64 9, .int .i64 10, .string { data := #[119, 101, 97, 116, 104, 101, 114] }, .int .i64 10, .int .i64 12, .string { data := #[115, 104, 111, 111, 116] }] 134)) rfl) hb
  have hS : Below w50.heap.size w50 w51 := ((Below.refl _ _).alloc (by first | exact Nat.le_refl _ | (simp <;> omega)) _).call hb rfl
  have hB51 := hB50.call hS rfl
  replace h5 := h5.below hS
  clear hB50 hS
  clear hb
  clear h5
  obtain ⟨gE, hgE⟩ : ∃ gE, gE = w50.heap.size := ⟨_, rfl⟩
  rw [← hgE] at hE ⊢
  clear hgE
  go_wp2_with fail
  refine (k44 (some ⟨gE, 0, none⟩) 4 _ (RdS.of_block hE rfl)).mono ?_
  rintro e w52 ⟨A7, C7, rfl, h7, hb⟩
  have hS : Below w51.heap.size w51 w52 := (Below.refl _ _).call hb rfl
  have hB52 := hB51.call hS rfl
  replace h6 := h6.below hS
  replace hE := blkb hE hS
  clear hB51 hS
  clear hb
  go_wp2_with fail
  refine (k43 A6 A7 C6 C7 _ h6 h7).mono ?_
  rintro e w53 ⟨rfl, hb⟩
  have hS : Below w52.heap.size w52 w53 := (Below.refl _ _).call hb rfl
  have hB53 := hB52.call hS rfl
  replace h6 := h6.below hS
  replace hE := blkb hE hS
  replace h7 := h7.below hS
  clear hB52 hS
  clear hb
  clear h6
  clear h7
  have hown := World.ownsRow_made (base := w53.heap.size) (e := 134) (size := 3) w53 #[] 0 (Nat.le_refl _) (by unfold maxLen; omega) rfl
  have hnews : ∀ j u, [.int .i64 0, .int .i64 8, .string { data := #[97, 110, 105, 109, 97, 108] }, .int .i64 8, .int .i64 9, .string { data := #[115, 104, 111, 111, 116] }, .int .i64 9, .int .i64 10, .string { data := #[119, 101, 97, 116, 104, 101, 114] }, .int .i64 10, .int .i64 12, .string { data := #[115, 104, 111, 111, 116] }][j]? = some u → (w53.alloc (Obj.cells #[] 134)).cell? ((⟨gE, 0, none⟩ : Addr).add j) = some u := RdS.news (size := 3) (n := 4) (RdS.of_pre (blka hE _) rfl (fun _ _ => rfl)) (by decide)
  go_wp2_with (at_builtin; refine wpList_append_own _ rfl _ _ 74 rfl w53.heap.size 134 i0 (.agg #[.int .i64 0, .int .i64 0, .string ByteArray.empty]) 3 32 Tryz.underlying74 hi hz0 hz1 hz2 rfl (by decide) _ _ _ rfl hown ⟨gE, 0, none⟩ 4 4 [.int .i64 0, .int .i64 8, .string { data := #[97, 110, 105, 109, 97, 108] }, .int .i64 8, .int .i64 9, .string { data := #[115, 104, 111, 111, 116] }, .int .i64 9, .int .i64 10, .string { data := #[119, 101, 97, 116, 104, 101, 114] }, .int .i64 10, .int .i64 12, .string { data := #[115, 104, 111, 111, 116] }] rfl rfl hnews (by decide) (by unfold maxLen; omega) (by omega) (by simp) ?_)
  intro x' w54 hown3 hg3 _
  obtain ⟨AL, CL, rfl, hL⟩ : Sl w54 3 x' 4 [.int .i64 0, .int .i64 8, .string { data := #[97, 110, 105, 109, 97, 108] }, .int .i64 8, .int .i64 9, .string { data := #[115, 104, 111, 111, 116] }, .int .i64 9, .int .i64 10, .string { data := #[119, 101, 97, 116, 104, 101, 114] }, .int .i64 10, .int .i64 12, .string { data := #[115, 104, 111, 111, 116] }] := Sl.of_own hown3
  have hS : Below w53.heap.size w53 w54 := ((Below.refl _ _).alloc (by first | exact Nat.le_refl _ | (simp <;> omega)) _).grown hg3 (by simp) (fun g hg => (hown.lt g hg).1)
  have hB54 := hB53.call hS rfl
  replace hE := blkb hE hS
  clear hB53 hS
  clear hown3 hg3 hown hnews
  replace hL : RdL w54 3 Ent.enc AL Aw.es := hL
  go_wp2_with fail
  refine (k54 AL CL _ hL).mono ?_
  rintro e w55 ⟨rfl, hb⟩
  have hS : Below w54.heap.size w54 w55 := (Below.refl _ _).call hb rfl
  have hB55 := hB54.call hS rfl
  replace hE := blkb hE hS
  replace hL := hL.below hS
  clear hB54 hS
  clear hb
  clear hL
  have hz : (w55.alloc (Obj.cells #[.int .i64 0, .int .i64 0, .int .i64 0, .int .i64 0, .int .i64 0, .int .i64 0] 85)).heap[w55.heap.size]? = some (Obj.cells #[.int .i64 0, .int .i64 0, .int .i64 0, .int .i64 0, .int .i64 0, .int .i64 0] 85) := heap_new rfl
  go_wp2_with (refine wpList_store_blk rfl 85 _ _ rfl w55.heap.size _ rfl rfl hz ?s1 ?s2 ?s3 ?_)
  case s1 => rfl
  case s2 => kernel_rfl
  case s3 => simp [Value.oneCell']
  intro w56 t21 hg3 hs3
  have hS : Below w55.heap.size w55 w56 := ((Below.refl _ _).alloc (by first | exact Nat.le_refl _ | (simp <;> omega)) _).grown hg3 (by simp) (fun j hj => by cases hj; exact Nat.le_refl _)
  have hB56 := hB55.call hS rfl
  replace hE := blkb hE hS
  clear hB55 hS
  clear hz hg3 hs3
  obtain ⟨bt21, hbt21⟩ : ∃ b, b = w55.heap.size := ⟨_, rfl⟩
  rw [← hbt21] at t21 ⊢
  clear hbt21
  have hown := World.ownsRow_made (base := w56.heap.size) (e := 134) (size := 3) w56 #[] 0 (Nat.le_refl _) (by unfold maxLen; omega) rfl
  have hnews : ∀ j u, [.int .i64 0, .int .i64 8, .string { data := #[97, 110, 105, 109, 97, 108] }, .int .i64 8, .int .i64 9, .string { data := #[115, 104, 111, 111, 116] }, .int .i64 9, .int .i64 10, .string { data := #[119, 101, 97, 116, 104, 101, 114] }, .int .i64 10, .int .i64 12, .string { data := #[115, 104, 111, 111, 116] }][j]? = some u → (w56.alloc (Obj.cells #[] 134)).cell? ((⟨gE, 0, none⟩ : Addr).add j) = some u := RdS.news (size := 3) (n := 4) (RdS.of_pre (blka hE _) rfl (fun _ _ => rfl)) (by decide)
  go_wp2_with (at_builtin; refine wpList_append_own _ rfl _ _ 74 rfl w56.heap.size 134 i0 (.agg #[.int .i64 0, .int .i64 0, .string ByteArray.empty]) 3 32 Tryz.underlying74 hi hz0 hz1 hz2 rfl (by decide) _ _ _ rfl hown ⟨gE, 0, none⟩ 4 4 [.int .i64 0, .int .i64 8, .string { data := #[97, 110, 105, 109, 97, 108] }, .int .i64 8, .int .i64 9, .string { data := #[115, 104, 111, 111, 116] }, .int .i64 9, .int .i64 10, .string { data := #[119, 101, 97, 116, 104, 101, 114] }, .int .i64 10, .int .i64 12, .string { data := #[115, 104, 111, 111, 116] }] rfl rfl hnews (by decide) (by unfold maxLen; omega) (by omega) (by simp) ?_)
  intro x' w57 hown3 hg3 _
  obtain ⟨AL, CL, rfl, hL⟩ : Sl w57 3 x' 4 [.int .i64 0, .int .i64 8, .string { data := #[97, 110, 105, 109, 97, 108] }, .int .i64 8, .int .i64 9, .string { data := #[115, 104, 111, 111, 116] }, .int .i64 9, .int .i64 10, .string { data := #[119, 101, 97, 116, 104, 101, 114] }, .int .i64 10, .int .i64 12, .string { data := #[115, 104, 111, 111, 116] }] := Sl.of_own hown3
  have hS : Below w56.heap.size w56 w57 := ((Below.refl _ _).alloc (by first | exact Nat.le_refl _ | (simp <;> omega)) _).grown hg3 (by simp) (fun g hg => (hown.lt g hg).1)
  have hB57 := hB56.call hS rfl
  replace hE := blkb hE hS
  replace t21 := blkb t21 hS
  clear hB56 hS
  clear hown3 hg3 hown hnews
  replace hL : RdL w57 3 Ent.enc AL Aw.es := hL
  go_wp2_with fail
  refine (k55 AL CL _ hL).mono ?_
  rintro e w58 ⟨rfl, hb⟩
  have hS : Below w57.heap.size w57 w58 := (Below.refl _ _).call hb rfl
  have hB58 := hB57.call hS rfl
  replace hE := blkb hE hS
  replace t21 := blkb t21 hS
  replace hL := hL.below hS
  clear hB57 hS
  clear hb
  clear hL
  have hz : (w58.alloc (Obj.cells #[.int .i64 0, .int .i64 0] 111)).heap[w58.heap.size]? = some (Obj.cells #[.int .i64 0, .int .i64 0] 111) := heap_new rfl
  go_wp2_with (refine wpList_store_blk rfl 111 _ _ rfl w58.heap.size _ rfl rfl hz ?s1 ?s2 ?s3 ?_)
  case s1 => rfl
  case s2 => kernel_rfl
  case s3 => simp [Value.oneCell']
  intro w59 t23 hg3 hs3
  have hS : Below w58.heap.size w58 w59 := ((Below.refl _ _).alloc (by first | exact Nat.le_refl _ | (simp <;> omega)) _).grown hg3 (by simp) (fun j hj => by cases hj; exact Nat.le_refl _)
  have hB59 := hB58.call hS rfl
  replace hE := blkb hE hS
  replace t21 := blkb t21 hS
  clear hB58 hS
  clear hz hg3 hs3
  obtain ⟨bt23, hbt23⟩ : ∃ b, b = w58.heap.size := ⟨_, rfl⟩
  rw [← hbt23] at t23 ⊢
  clear hbt23
  go_wp2_with fail
  refine (c85 0 _).mono ?_
  rintro e w60 ⟨rfl, hb⟩
  have hS : Below w59.heap.size w59 w60 := (Below.refl _ _).call hb rfl
  have hB60 := hB59.call hS rfl
  replace hE := blkb hE hS
  replace t21 := blkb t21 hS
  replace t23 := blkb t23 hS
  clear hB59 hS
  clear hb
  have hown := World.ownsRow_made (base := w60.heap.size) (e := 134) (size := 3) w60 #[] 0 (Nat.le_refl _) (by unfold maxLen; omega) rfl
  have hnews : ∀ j u, [.int .i64 0, .int .i64 8, .string { data := #[97, 110, 105, 109, 97, 108] }, .int .i64 8, .int .i64 9, .string { data := #[115, 104, 111, 111, 116] }, .int .i64 9, .int .i64 10, .string { data := #[119, 101, 97, 116, 104, 101, 114] }, .int .i64 10, .int .i64 12, .string { data := #[115, 104, 111, 111, 116] }][j]? = some u → (w60.alloc (Obj.cells #[] 134)).cell? ((⟨gE, 0, none⟩ : Addr).add j) = some u := RdS.news (size := 3) (n := 4) (RdS.of_pre (blka hE _) rfl (fun _ _ => rfl)) (by decide)
  go_wp2_with (at_builtin; refine wpList_append_own _ rfl _ _ 74 rfl w60.heap.size 134 i0 (.agg #[.int .i64 0, .int .i64 0, .string ByteArray.empty]) 3 32 Tryz.underlying74 hi hz0 hz1 hz2 rfl (by decide) _ _ _ rfl hown ⟨gE, 0, none⟩ 4 4 [.int .i64 0, .int .i64 8, .string { data := #[97, 110, 105, 109, 97, 108] }, .int .i64 8, .int .i64 9, .string { data := #[115, 104, 111, 111, 116] }, .int .i64 9, .int .i64 10, .string { data := #[119, 101, 97, 116, 104, 101, 114] }, .int .i64 10, .int .i64 12, .string { data := #[115, 104, 111, 111, 116] }] rfl rfl hnews (by decide) (by unfold maxLen; omega) (by omega) (by simp) ?_)
  intro x' w61 hown3 hg3 _
  obtain ⟨AL, CL, rfl, hL⟩ : Sl w61 3 x' 4 [.int .i64 0, .int .i64 8, .string { data := #[97, 110, 105, 109, 97, 108] }, .int .i64 8, .int .i64 9, .string { data := #[115, 104, 111, 111, 116] }, .int .i64 9, .int .i64 10, .string { data := #[119, 101, 97, 116, 104, 101, 114] }, .int .i64 10, .int .i64 12, .string { data := #[115, 104, 111, 111, 116] }] := Sl.of_own hown3
  have hS : Below w60.heap.size w60 w61 := ((Below.refl _ _).alloc (by first | exact Nat.le_refl _ | (simp <;> omega)) _).grown hg3 (by simp) (fun g hg => (hown.lt g hg).1)
  have hB61 := hB60.call hS rfl
  replace hE := blkb hE hS
  replace t21 := blkb t21 hS
  replace t23 := blkb t23 hS
  clear hB60 hS
  clear hown3 hg3 hown hnews
  replace hL : RdL w61 3 Ent.enc AL Aw.es := hL
  go_wp2_with fail
  refine (c86 _).mono ?_
  rintro e w62 ⟨r, rfl, hr, _, hb⟩
  have hS : Below w61.heap.size w61 w62 := (Below.refl _ _).call hb rfl
  have hB62 := hB61.call hS rfl
  replace hE := blkb hE hS
  replace t21 := blkb t21 hS
  replace t23 := blkb t23 hS
  replace hL := hL.below hS
  clear hB61 hS
  clear hb
  go_wp2_with fail
  refine (k66 AL CL r _ hL hr).mono ?_
  rintro e w63 ⟨rfl, hb⟩
  have hS : Below w62.heap.size w62 w63 := (Below.refl _ _).call hb rfl
  have hB63 := hB62.call hS rfl
  replace hE := blkb hE hS
  replace t21 := blkb t21 hS
  replace t23 := blkb t23 hS
  replace hL := hL.below hS
  replace hr := blkb hr hS
  clear hB62 hS
  clear hb
  clear hL
  clear hr
  have hz : (w63.alloc (Obj.cells #[.int .i64 0, .int .i64 0, .int .i64 0, .int .i64 0, .int .i64 0, .int .i64 0, .int .i64 0, .int .i64 0] 91)).heap[w63.heap.size]? = some (Obj.cells #[.int .i64 0, .int .i64 0, .int .i64 0, .int .i64 0, .int .i64 0, .int .i64 0, .int .i64 0, .int .i64 0] 91) := heap_new rfl
  go_wp2_with (refine wpList_store_blk rfl 91 _ _ rfl w63.heap.size _ rfl rfl hz ?s1 ?s2 ?s3 ?_)
  case s1 => rfl
  case s2 => kernel_rfl
  case s3 => simp [Value.oneCell']
  intro w64 t25 hg3 hs3
  have hS : Below w63.heap.size w63 w64 := ((Below.refl _ _).alloc (by first | exact Nat.le_refl _ | (simp <;> omega)) _).grown hg3 (by simp) (fun j hj => by cases hj; exact Nat.le_refl _)
  have hB64 := hB63.call hS rfl
  replace hE := blkb hE hS
  replace t21 := blkb t21 hS
  replace t23 := blkb t23 hS
  clear hB63 hS
  clear hz hg3 hs3
  obtain ⟨bt25, hbt25⟩ : ∃ b, b = w63.heap.size := ⟨_, rfl⟩
  rw [← hbt25] at t25 ⊢
  clear hbt25
  go_wp2_with fail
  refine (c85 1 _).mono ?_
  rintro e w65 ⟨rfl, hb⟩
  have hS : Below w64.heap.size w64 w65 := (Below.refl _ _).call hb rfl
  have hB65 := hB64.call hS rfl
  replace hE := blkb hE hS
  replace t21 := blkb t21 hS
  replace t23 := blkb t23 hS
  replace t25 := blkb t25 hS
  clear hB64 hS
  clear hb
  have hown := World.ownsRow_made (base := w65.heap.size) (e := 134) (size := 3) w65 #[] 0 (Nat.le_refl _) (by unfold maxLen; omega) rfl
  have hnews : ∀ j u, [.int .i64 0, .int .i64 8, .string { data := #[97, 110, 105, 109, 97, 108] }, .int .i64 8, .int .i64 9, .string { data := #[115, 104, 111, 111, 116] }, .int .i64 9, .int .i64 10, .string { data := #[119, 101, 97, 116, 104, 101, 114] }, .int .i64 10, .int .i64 12, .string { data := #[115, 104, 111, 111, 116] }][j]? = some u → (w65.alloc (Obj.cells #[] 134)).cell? ((⟨gE, 0, none⟩ : Addr).add j) = some u := RdS.news (size := 3) (n := 4) (RdS.of_pre (blka hE _) rfl (fun _ _ => rfl)) (by decide)
  go_wp2_with (at_builtin; refine wpList_append_own _ rfl _ _ 74 rfl w65.heap.size 134 i0 (.agg #[.int .i64 0, .int .i64 0, .string ByteArray.empty]) 3 32 Tryz.underlying74 hi hz0 hz1 hz2 rfl (by decide) _ _ _ rfl hown ⟨gE, 0, none⟩ 4 4 [.int .i64 0, .int .i64 8, .string { data := #[97, 110, 105, 109, 97, 108] }, .int .i64 8, .int .i64 9, .string { data := #[115, 104, 111, 111, 116] }, .int .i64 9, .int .i64 10, .string { data := #[119, 101, 97, 116, 104, 101, 114] }, .int .i64 10, .int .i64 12, .string { data := #[115, 104, 111, 111, 116] }] rfl rfl hnews (by decide) (by unfold maxLen; omega) (by omega) (by simp) ?_)
  intro x' w66 hown3 hg3 _
  obtain ⟨AL, CL, rfl, hL⟩ : Sl w66 3 x' 4 [.int .i64 0, .int .i64 8, .string { data := #[97, 110, 105, 109, 97, 108] }, .int .i64 8, .int .i64 9, .string { data := #[115, 104, 111, 111, 116] }, .int .i64 9, .int .i64 10, .string { data := #[119, 101, 97, 116, 104, 101, 114] }, .int .i64 10, .int .i64 12, .string { data := #[115, 104, 111, 111, 116] }] := Sl.of_own hown3
  have hS : Below w65.heap.size w65 w66 := ((Below.refl _ _).alloc (by first | exact Nat.le_refl _ | (simp <;> omega)) _).grown hg3 (by simp) (fun g hg => (hown.lt g hg).1)
  have hB66 := hB65.call hS rfl
  replace hE := blkb hE hS
  replace t21 := blkb t21 hS
  replace t23 := blkb t23 hS
  replace t25 := blkb t25 hS
  clear hB65 hS
  clear hown3 hg3 hown hnews
  replace hL : RdL w66 3 Ent.enc AL Aw.es := hL
  go_wp2_with fail
  refine (c86 _).mono ?_
  rintro e w67 ⟨r, rfl, hr, _, hb⟩
  have hS : Below w66.heap.size w66 w67 := (Below.refl _ _).call hb rfl
  have hB67 := hB66.call hS rfl
  replace hE := blkb hE hS
  replace t21 := blkb t21 hS
  replace t23 := blkb t23 hS
  replace t25 := blkb t25 hS
  replace hL := hL.below hS
  clear hB66 hS
  clear hb
  go_wp2_with fail
  refine (k68 AL CL r _ hL hr).mono ?_
  rintro e w68 ⟨rfl, hb⟩
  have hS : Below w67.heap.size w67 w68 := (Below.refl _ _).call hb rfl
  have hB68 := hB67.call hS rfl
  replace hE := blkb hE hS
  replace t21 := blkb t21 hS
  replace t23 := blkb t23 hS
  replace t25 := blkb t25 hS
  replace hL := hL.below hS
  replace hr := blkb hr hS
  clear hB67 hS
  clear hb
  clear hL
  clear hr
  have hz : (w68.alloc (Obj.cells #[.int .i64 0, .int .i64 0, .int .i64 0, .int .i64 0, .int .i64 0, .int .i64 0, .int .i64 0, .int .i64 0] 91)).heap[w68.heap.size]? = some (Obj.cells #[.int .i64 0, .int .i64 0, .int .i64 0, .int .i64 0, .int .i64 0, .int .i64 0, .int .i64 0, .int .i64 0] 91) := heap_new rfl
  go_wp2_with (refine wpList_store_blk rfl 91 _ _ rfl w68.heap.size _ rfl rfl hz ?s1 ?s2 ?s3 ?_)
  case s1 => rfl
  case s2 => kernel_rfl
  case s3 => simp [Value.oneCell']
  intro w69 t27 hg3 hs3
  have hS : Below w68.heap.size w68 w69 := ((Below.refl _ _).alloc (by first | exact Nat.le_refl _ | (simp <;> omega)) _).grown hg3 (by simp) (fun j hj => by cases hj; exact Nat.le_refl _)
  have hB69 := hB68.call hS rfl
  replace hE := blkb hE hS
  replace t21 := blkb t21 hS
  replace t23 := blkb t23 hS
  replace t25 := blkb t25 hS
  clear hB68 hS
  clear hz hg3 hs3
  obtain ⟨bt27, hbt27⟩ : ∃ b, b = w68.heap.size := ⟨_, rfl⟩
  rw [← hbt27] at t27 ⊢
  clear hbt27
  have p0 : w69.cell? ⟨bt25, 0, none⟩ = some (.int .i64 300) := cell_at t25 rfl
  have p1 : w69.cell? ⟨bt25, 1, none⟩ = some (.int .i64 0) := cell_at t25 rfl
  have p2 : w69.cell? ⟨bt25, 2, none⟩ = some (.int .i64 20) := cell_at t25 rfl
  have p3 : w69.cell? ⟨bt25, 3, none⟩ = some (.int .i64 80) := cell_at t25 rfl
  have p4 : w69.cell? ⟨bt25, 4, none⟩ = some (.int .i64 0) := cell_at t25 rfl
  have p5 : w69.cell? ⟨bt25, 5, none⟩ = some (.int .i64 0) := cell_at t25 rfl
  have p6 : w69.cell? ⟨bt25, 6, none⟩ = some (.int .i64 300) := cell_at t25 rfl
  have p7 : w69.cell? ⟨bt25, 7, none⟩ = some (.int .i64 700) := cell_at t25 rfl
  have q0 : w69.cell? ⟨bt27, 0, none⟩ = some (.int .i64 300) := cell_at t27 rfl
  have q1 : w69.cell? ⟨bt27, 1, none⟩ = some (.int .i64 0) := cell_at t27 rfl
  have q2 : w69.cell? ⟨bt27, 2, none⟩ = some (.int .i64 0) := cell_at t27 rfl
  have q3 : w69.cell? ⟨bt27, 3, none⟩ = some (.int .i64 80) := cell_at t27 rfl
  have q4 : w69.cell? ⟨bt27, 4, none⟩ = some (.int .i64 0) := cell_at t27 rfl
  have q5 : w69.cell? ⟨bt27, 5, none⟩ = some (.int .i64 0) := cell_at t27 rfl
  have q6 : w69.cell? ⟨bt27, 6, none⟩ = some (.int .i64 300) := cell_at t27 rfl
  have q7 : w69.cell? ⟨bt27, 7, none⟩ = some (.int .i64 680) := cell_at t27 rfl
  go_wp2_with fail
  refine (k45 _).mono ?_
  rintro e w70 ⟨A9, C9, rfl, h9, hb⟩
  have hS : Below w69.heap.size w69 w70 := (Below.refl _ _).call hb rfl
  have hB70 := hB69.call hS rfl
  replace hE := blkb hE hS
  replace t21 := blkb t21 hS
  replace t23 := blkb t23 hS
  replace t25 := blkb t25 hS
  replace t27 := blkb t27 hS
  clear hB69 hS
  clear hb
  clear p0 p1 p2 p3 p4 p5 p6 p7
  clear q0 q1 q2 q3 q4 q5 q6 q7
  have hown := World.ownsRow_made (base := w70.heap.size) (e := 134) (size := 3) w70 #[] 0 (Nat.le_refl _) (by unfold maxLen; omega) rfl
  have hnews : ∀ j u, [.int .i64 0, .int .i64 8, .string { data := #[97, 110, 105, 109, 97, 108] }][j]? = some u → (w70.alloc (Obj.cells #[] 134)).cell? ((⟨gE, 0, none⟩ : Addr).add j) = some u := RdS.news (size := 3) (n := 1) (RdS.of_pre (blka hE _) rfl (by intro j hj; match j, hj with | 0, _ => rfl | 1, _ => rfl | 2, _ => rfl)) (by decide)
  go_wp2_with (at_builtin; refine wpList_append_own _ rfl _ _ 74 rfl w70.heap.size 134 i0 (.agg #[.int .i64 0, .int .i64 0, .string ByteArray.empty]) 3 32 Tryz.underlying74 hi hz0 hz1 hz2 rfl (by decide) _ _ _ rfl hown ⟨gE, 0, none⟩ 1 4 [.int .i64 0, .int .i64 8, .string { data := #[97, 110, 105, 109, 97, 108] }] rfl rfl hnews (by decide) (by unfold maxLen; omega) (by omega) (by simp) ?_)
  intro x' w71 hown3 hg3 _
  obtain ⟨AL, CL, rfl, hL⟩ : Sl w71 3 x' 1 [.int .i64 0, .int .i64 8, .string { data := #[97, 110, 105, 109, 97, 108] }] := Sl.of_own hown3
  have hS : Below w70.heap.size w70 w71 := ((Below.refl _ _).alloc (by first | exact Nat.le_refl _ | (simp <;> omega)) _).grown hg3 (by simp) (fun g hg => (hown.lt g hg).1)
  have hB71 := hB70.call hS rfl
  replace hE := blkb hE hS
  replace t21 := blkb t21 hS
  replace t23 := blkb t23 hS
  replace t25 := blkb t25 hS
  replace t27 := blkb t27 hS
  replace h9 := h9.below hS
  clear hB70 hS
  clear hown3 hg3 hown hnews
  replace hL : RdL w71 3 Ent.enc AL [⟨0, 8, { data := #[97, 110, 105, 109, 97, 108] }⟩] := hL
  go_wp2_with fail
  refine (k76 AL CL _ hL).mono ?_
  rintro e w72 ⟨rfl, hb⟩
  have hS : Below w71.heap.size w71 w72 := (Below.refl _ _).call hb rfl
  have hB72 := hB71.call hS rfl
  replace hE := blkb hE hS
  replace t21 := blkb t21 hS
  replace t23 := blkb t23 hS
  replace t25 := blkb t25 hS
  replace t27 := blkb t27 hS
  replace h9 := h9.below hS
  replace hL := hL.below hS
  clear hB71 hS
  clear hb
  clear hL
  clear hE
  have p0 : w72.cell? ⟨bt25, 0, none⟩ = some (.int .i64 300) := cell_at t25 rfl
  have p1 : w72.cell? ⟨bt25, 1, none⟩ = some (.int .i64 0) := cell_at t25 rfl
  have p2 : w72.cell? ⟨bt25, 2, none⟩ = some (.int .i64 20) := cell_at t25 rfl
  have p3 : w72.cell? ⟨bt25, 3, none⟩ = some (.int .i64 80) := cell_at t25 rfl
  have p4 : w72.cell? ⟨bt25, 4, none⟩ = some (.int .i64 0) := cell_at t25 rfl
  have p5 : w72.cell? ⟨bt25, 5, none⟩ = some (.int .i64 0) := cell_at t25 rfl
  have p6 : w72.cell? ⟨bt25, 6, none⟩ = some (.int .i64 300) := cell_at t25 rfl
  have p7 : w72.cell? ⟨bt25, 7, none⟩ = some (.int .i64 700) := cell_at t25 rfl
  have q0 : w72.cell? ⟨bt27, 0, none⟩ = some (.int .i64 300) := cell_at t27 rfl
  have q1 : w72.cell? ⟨bt27, 1, none⟩ = some (.int .i64 0) := cell_at t27 rfl
  have q2 : w72.cell? ⟨bt27, 2, none⟩ = some (.int .i64 0) := cell_at t27 rfl
  have q3 : w72.cell? ⟨bt27, 3, none⟩ = some (.int .i64 80) := cell_at t27 rfl
  have q4 : w72.cell? ⟨bt27, 4, none⟩ = some (.int .i64 0) := cell_at t27 rfl
  have q5 : w72.cell? ⟨bt27, 5, none⟩ = some (.int .i64 0) := cell_at t27 rfl
  have q6 : w72.cell? ⟨bt27, 6, none⟩ = some (.int .i64 300) := cell_at t27 rfl
  have q7 : w72.cell? ⟨bt27, 7, none⟩ = some (.int .i64 680) := cell_at t27 rfl
  have r0 : w72.cell? ⟨bt21, 0, none⟩ = some (.int .i64 3) := cell_at t21 rfl
  have r1 : w72.cell? ⟨bt21, 1, none⟩ = some (.int .i64 0) := cell_at t21 rfl
  have r2 : w72.cell? ⟨bt21, 2, none⟩ = some (.int .i64 1) := cell_at t21 rfl
  have r3 : w72.cell? ⟨bt21, 3, none⟩ = some (.int .i64 8) := cell_at t21 rfl
  have r4 : w72.cell? ⟨bt21, 4, none⟩ = some (.int .i64 0) := cell_at t21 rfl
  have r5 : w72.cell? ⟨bt21, 5, none⟩ = some (.int .i64 0) := cell_at t21 rfl
  have z0 : w72.cell? ⟨bt23, 0, none⟩ = some (.int .i64 3) := cell_at t23 rfl
  have z1 : w72.cell? ⟨bt23, 1, none⟩ = some (.int .i64 4) := cell_at t23 rfl
  go_wp2_with fail
  refine (c46 A9 (some ⟨w72.heap.size, 0, none⟩) C9 2 [{ data := #[119, 101, 97, 116, 104, 101, 114] }, { data := #[116, 111, 116, 97, 108] }] _ (by decide) (RdS.al h9 _) (RdS.of_new rfl rfl)).mono ?_
  rintro e w73 ⟨rfl, hb⟩
  have hS : Below w72.heap.size w72 w73 := ((Below.refl _ _).alloc (by first | exact Nat.le_refl _ | (simp <;> omega)) _).call hb rfl
  have hB73 := hB72.call hS rfl
  replace t21 := blkb t21 hS
  replace t23 := blkb t23 hS
  replace t25 := blkb t25 hS
  replace t27 := blkb t27 hS
  replace h9 := h9.below hS
  clear hB72 hS
  clear hb
  clear h9
  go_wp2
  go_ret
  exact ⟨rfl, hB73⟩

end Go.Proofs.YtndhjkammoeikaaGreatDoor
namespace Go.Proofs.YtndhjkammoeikaaGreatDoor
open Go.RowKit
set_option maxHeartbeats 1000000
set_option maxRecDepth 20000

theorem Mo.diffs_len (a b : Inv) : (Mo.diffs a b).length ≤ 8 := by
  have := Mo.dC_len a b 6
  unfold Mo.diffs
  simp only [List.length_append]
  split <;> split <;> simp <;> omega
theorem l6 (a b : Inv) (w : World) : Calls Tryz.prog 6 #[.agg a.arr, .agg b.arr] w fun en w' => en = .returned (.bool true) ∧ Below w.heap.size w w' := by
  unfold Inv.arr
  have H45 := c45 a b
  have H47 := c47 a b
  unfold Inv.arr at H45 H47
  have HA := Lib.hid H45
  have HB := Lib.hid H47
  clear H45 H47
  obtain ⟨L, hL⟩ : ∃ L, L = Mo.diffs a b := ⟨_, rfl⟩
  rw [← hL] at HA HB
  have hlen : L.length ≤ 1000000 := by rw [hL]; have := Mo.diffs_len a b; omega
  clear hL
  go_enter Tryz.func6, Tryz.ntmps6
  obtain ⟨W, hW⟩ : ∃ W, W = (w.alloc (Obj.cells #[.int .i64 (a.c 0), .int .i64 (a.c 1), .int .i64 (a.c 2), .int .i64 (a.c 3), .int .i64 (a.c 4), .int .i64 (a.c 5), .int .i64 a.lines, .int .i64 a.total] 87)).alloc (Obj.cells #[.int .i64 (b.c 0), .int .i64 (b.c 1), .int .i64 (b.c 2), .int .i64 (b.c 3), .int .i64 (b.c 4), .int .i64 (b.c 5), .int .i64 b.lines, .int .i64 b.total] 87) := ⟨_, rfl⟩
  have hT0 : W.heap[w.heap.size]? = some (.cells #[.int .i64 (a.c 0), .int .i64 (a.c 1), .int .i64 (a.c 2), .int .i64 (a.c 3), .int .i64 (a.c 4), .int .i64 (a.c 5), .int .i64 a.lines, .int .i64 a.total] 87 (0, 0)) := by rw [hW]; exact heap_old (by simp <;> omega) (heap_new (by simp))
  have h0_0 : W.cell? ⟨w.heap.size, 0, none⟩ = some (.int .i64 (a.c 0)) := cell_at hT0 rfl
  have h0_1 : W.cell? ⟨w.heap.size, 1, none⟩ = some (.int .i64 (a.c 1)) := cell_at hT0 rfl
  have h0_2 : W.cell? ⟨w.heap.size, 2, none⟩ = some (.int .i64 (a.c 2)) := cell_at hT0 rfl
  have h0_3 : W.cell? ⟨w.heap.size, 3, none⟩ = some (.int .i64 (a.c 3)) := cell_at hT0 rfl
  have h0_4 : W.cell? ⟨w.heap.size, 4, none⟩ = some (.int .i64 (a.c 4)) := cell_at hT0 rfl
  have h0_5 : W.cell? ⟨w.heap.size, 5, none⟩ = some (.int .i64 (a.c 5)) := cell_at hT0 rfl
  have h0_6 : W.cell? ⟨w.heap.size, 6, none⟩ = some (.int .i64 a.lines) := cell_at hT0 rfl
  have h0_7 : W.cell? ⟨w.heap.size, 7, none⟩ = some (.int .i64 a.total) := cell_at hT0 rfl
  have hT1 : W.heap[w.heap.size + 1]? = some (.cells #[.int .i64 (b.c 0), .int .i64 (b.c 1), .int .i64 (b.c 2), .int .i64 (b.c 3), .int .i64 (b.c 4), .int .i64 (b.c 5), .int .i64 b.lines, .int .i64 b.total] 87 (0, 0)) := by rw [hW]; exact heap_new (by simp)
  have h1_0 : W.cell? ⟨w.heap.size + 1, 0, none⟩ = some (.int .i64 (b.c 0)) := cell_at hT1 rfl
  have h1_1 : W.cell? ⟨w.heap.size + 1, 1, none⟩ = some (.int .i64 (b.c 1)) := cell_at hT1 rfl
  have h1_2 : W.cell? ⟨w.heap.size + 1, 2, none⟩ = some (.int .i64 (b.c 2)) := cell_at hT1 rfl
  have h1_3 : W.cell? ⟨w.heap.size + 1, 3, none⟩ = some (.int .i64 (b.c 3)) := cell_at hT1 rfl
  have h1_4 : W.cell? ⟨w.heap.size + 1, 4, none⟩ = some (.int .i64 (b.c 4)) := cell_at hT1 rfl
  have h1_5 : W.cell? ⟨w.heap.size + 1, 5, none⟩ = some (.int .i64 (b.c 5)) := cell_at hT1 rfl
  have h1_6 : W.cell? ⟨w.heap.size + 1, 6, none⟩ = some (.int .i64 b.lines) := cell_at hT1 rfl
  have h1_7 : W.cell? ⟨w.heap.size + 1, 7, none⟩ = some (.int .i64 b.total) := cell_at hT1 rfl
  have hs : w.heap.size + 2 = W.heap.size := by rw [hW]; simp
  have hB : Below w.heap.size w W := by rw [hW]; exact (((Below.refl _ _).alloc (by first | omega | (simp <;> omega)) _).alloc (by first | omega | (simp <;> omega)) _)
  go_wp2_with fail
  rw [← hW]
  clear hW
  go_wp2_with fail
  refine (HA.out _).mono ?_
  rintro e w1 ⟨_, rfl, ⟨A1, C1, rfl, h1⟩, hb1⟩
  have p0 : w1.cell? ⟨w.heap.size, 0, none⟩ = some (.int .i64 (a.c 0)) := cell_at (blkb hT0 hb1) rfl
  have p1 : w1.cell? ⟨w.heap.size, 1, none⟩ = some (.int .i64 (a.c 1)) := cell_at (blkb hT0 hb1) rfl
  have p2 : w1.cell? ⟨w.heap.size, 2, none⟩ = some (.int .i64 (a.c 2)) := cell_at (blkb hT0 hb1) rfl
  have p3 : w1.cell? ⟨w.heap.size, 3, none⟩ = some (.int .i64 (a.c 3)) := cell_at (blkb hT0 hb1) rfl
  have p4 : w1.cell? ⟨w.heap.size, 4, none⟩ = some (.int .i64 (a.c 4)) := cell_at (blkb hT0 hb1) rfl
  have p5 : w1.cell? ⟨w.heap.size, 5, none⟩ = some (.int .i64 (a.c 5)) := cell_at (blkb hT0 hb1) rfl
  have p6 : w1.cell? ⟨w.heap.size, 6, none⟩ = some (.int .i64 a.lines) := cell_at (blkb hT0 hb1) rfl
  have p7 : w1.cell? ⟨w.heap.size, 7, none⟩ = some (.int .i64 a.total) := cell_at (blkb hT0 hb1) rfl
  have q0 : w1.cell? ⟨w.heap.size + 1, 0, none⟩ = some (.int .i64 (b.c 0)) := cell_at (blkb hT1 hb1) rfl
  have q1 : w1.cell? ⟨w.heap.size + 1, 1, none⟩ = some (.int .i64 (b.c 1)) := cell_at (blkb hT1 hb1) rfl
  have q2 : w1.cell? ⟨w.heap.size + 1, 2, none⟩ = some (.int .i64 (b.c 2)) := cell_at (blkb hT1 hb1) rfl
  have q3 : w1.cell? ⟨w.heap.size + 1, 3, none⟩ = some (.int .i64 (b.c 3)) := cell_at (blkb hT1 hb1) rfl
  have q4 : w1.cell? ⟨w.heap.size + 1, 4, none⟩ = some (.int .i64 (b.c 4)) := cell_at (blkb hT1 hb1) rfl
  have q5 : w1.cell? ⟨w.heap.size + 1, 5, none⟩ = some (.int .i64 (b.c 5)) := cell_at (blkb hT1 hb1) rfl
  have q6 : w1.cell? ⟨w.heap.size + 1, 6, none⟩ = some (.int .i64 b.lines) := cell_at (blkb hT1 hb1) rfl
  have q7 : w1.cell? ⟨w.heap.size + 1, 7, none⟩ = some (.int .i64 b.total) := cell_at (blkb hT1 hb1) rfl
  clear h0_0 h1_0 h0_1 h1_1 h0_2 h1_2 h0_3 h1_3 h0_4 h1_4 h0_5 h1_5 h0_6 h1_6 h0_7 h1_7 hT0 hT1
  have hB1 := hB.call hb1 rfl
  clear hb1 hB HA
  go_wp2_with fail
  refine (HB.out _).mono ?_
  rintro e w2 ⟨_, rfl, ⟨A2, C2, rfl, h2⟩, hb2⟩
  have hB2 := hB1.call hb2 rfl
  go_wp2_with fail
  refine (c46 A1 A2 C1 C2 L _ hlen (h1.below hb2) h2).mono ?_
  rintro e w3 ⟨rfl, hb3⟩
  have hB3 := hB2.call hb3 rfl
  clear hb2 hb3 h1 h2 hB1 hB2
  go_wp2_with fail
  refine (c15 _).mono ?_
  rintro e w4 ⟨rfl, hb4⟩
  go_wp2
  go_ret
  exact ⟨rfl, hB3.call hb4 rfl⟩

end Go.Proofs.YtndhjkammoeikaaGreatDoor
