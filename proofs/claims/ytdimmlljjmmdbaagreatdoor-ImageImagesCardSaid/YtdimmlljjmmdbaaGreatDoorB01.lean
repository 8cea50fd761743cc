/- A part of the proofs about chapter 7 (image): contracts of functions and plain laws (VC). -/
import Derived.Test.YtdimmlljjmmdbaaGreatDoorA11
import Derived.Test.YtdimmlljjmmdbaaGreatDoorA06
import Derived.Test.YtdimmlljjmmdbaaGreatDoorA07
set_option linter.all false
namespace Go.Proofs.YtdimmlljjmmdbaaGreatDoor
open Go.RowKit Go.Shelf
set_option maxHeartbeats 8000000
set_option maxRecDepth 100000
theorem c33d (D : Option Addr) (m capd : Nat) (d : List (List Int)) (w : World) (hm : m ≤ 5) (hsh : ∀ x, x ∈ d → x.length ≤ 45) (HD : RdD w D m d) :
  Calls Tryz.prog 33 #[.slice D m capd] w fun en w' => ∃ B cb, en = .returned (.slice B m cb) ∧ RdD w' B m d ∧ Below w.heap.size w w' :=
 c33 D m capd d w (by omega) (fun x hx => Nat.le_trans (hsh x hx) (by decide)) HD
theorem c22d (A : Option Addr) (n cap : Nat) (l : List Int) (w : World) (hn : n ≤ 1000000) (H : RdI w A n l) :
  Calls Tryz.prog 22 #[.slice A n cap] w fun en w' => ∃ B cb, en = .returned (.slice B n cb) ∧ RdI w' B n l ∧ Below w.heap.size w w' := by
 refine (c22 A n cap l w hn H).mono ?_
 rintro e w' ⟨v, rfl, ho, hb⟩
 obtain ⟨B, cb, rfl, hr, _⟩ := own_form ho
 exact ⟨B, cb, rfl, hr, hb⟩
theorem c20d (c r : Int) (A : Option Addr) (n cap : Nat) (l : List Int) (w : World) (hl : n ≤ 1000000) (H : RdI w A n l) :
  Calls Tryz.prog 20 #[.agg #[.int .i64 c, .int .i64 r, .slice A n cap]] w fun en w' => ∃ B cb, en = .returned (.agg #[.int .i64 c, .int .i64 r, .slice B n cb]) ∧ RdI w' B n l ∧ Below w.heap.size w w' := by
 refine (c20 c r A n cap l w hl H).mono ?_
 rintro e w' ⟨B, cb, h1, h2, _, _, h3⟩
 exact ⟨B, cb, h1, h2, h3⟩
theorem c21d (un len most : Int) (P : Option Addr) (np capp : Nat) (ps : List Pr) (w : World) (hp : np ≤ 1000000) (HP : RdP w P np ps) :
  Calls Tryz.prog 21 #[.agg #[.int .i64 un, .int .i64 len, .int .i64 most, .slice P np capp]] w fun en w' => ∃ P' cap', en = .returned (.agg #[.int .i64 un, .int .i64 len, .int .i64 most, .slice P' np cap']) ∧ (RdP w' P' np ps ∧ np ≤ cap') ∧ Below w.heap.size w w' := by
 refine (c21 un len most P np capp ps w hp HP).mono ?_
 rintro e w' ⟨B, cb, h1, h2, h3, h4⟩
 exact ⟨B, cb, h1, ⟨h2, h3⟩, h4⟩

theorem c30q {A B : Option Addr} {n cap cap2 : Nat} {l : List Int} {w : World} (hn : n ≤ 1000000) (H : RdI w A n l) (G : RdI w B n l) :
  Calls Tryz.prog 30 #[.slice A n cap, .slice B n cap2] w fun en w' => en = .returned (.bool true) ∧ Below w.heap.size w w' := by
 refine (c30 A B n n cap cap2 l l w hn hn H G).mono fun e w' ⟨h1, h2⟩ => ⟨?_, h2⟩
 rw [h1]; simp
theorem c22o (A : Option Addr) (n cap : Nat) (l : List Int) (w : World) (hn0 : 0 < n) (hn : n ≤ 1000000) (H : RdI w A n l) :
  Calls Tryz.prog 22 #[.slice A n cap] w fun en w' => ∃ g gc, en = .returned (.slice (some ⟨g, 0, none⟩) n gc) ∧ RowI w' w.heap.size g gc n l ∧ Below w.heap.size w w' := by
 refine (c22 A n cap l w hn H).mono ?_
 rintro e w' ⟨v, rfl, ho, hb⟩
 obtain ⟨g, gc, rfl, hr⟩ := RowI.of_own hn0 ho
 exact ⟨g, gc, rfl, hr, hb⟩
theorem bl2 (w : World) (o : Obj) : Below w.heap.size w (w.alloc o) := (Below.refl _ _).alloc (Nat.le_refl _) _
theorem rd2z (w : World) (a b : Int) : RdI (w.alloc (Obj.cells #[.int .i64 a, .int .i64 b] 3)) (some ⟨w.heap.size, 0, none⟩) 2 [a, b] := RdS.of_new (cs := encI [a, b]) rfl rfl
theorem rd_none (w : World) : RdI w none 0 [] := ⟨rfl, fun h => absurd h (Nat.lt_irrefl 0)⟩
theorem rdD_none (w : World) : RdD w none 0 [] := ⟨[], ⟨rfl, fun h => absurd h (Nat.lt_irrefl 0)⟩, rfl, fun k x hx => by simp at hx⟩
theorem own_rdI {w : World} {B : Nat} {v : Value} {n : Nat} {l : List Int} (h : w.ownsRow B 3 1 v n (encI l)) : ∃ A cap, v = .slice A n cap ∧ RdI w A n l := by
 obtain ⟨A, cap, rfl, hr, _⟩ := own_form h
 exact ⟨A, cap, rfl, hr⟩
end Go.Proofs.YtdimmlljjmmdbaaGreatDoor
