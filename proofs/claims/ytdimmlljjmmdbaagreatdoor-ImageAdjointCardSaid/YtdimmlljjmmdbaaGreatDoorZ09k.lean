/- A part of the proofs about chapter 7 (image): contracts of functions and plain laws (VC, V83a, V88, PlanV, V89, V89b, V66, PlanD, SL). -/
import Derived.Test.YtdimmlljjmmdbaaGreatDoorZ09a
import Derived.Test.YtdimmlljjmmdbaaGreatDoorZ09g
import Derived.Test.YtdimmlljjmmdbaaGreatDoorZ09h
import Derived.Test.YtdimmlljjmmdbaaGreatDoorZ09j
set_option linter.all false
namespace Go.Proofs.YtdimmlljjmmdbaaGreatDoor
open Go.RowKit Go.Shelf
set_option maxHeartbeats 8000000
set_option maxRecDepth 100000
theorem c33d (D : Option Addr) (m capd : Nat) (d : List (List Int)) (w : World) (hm : m ≤ 5) (hsh : ∀ x, x ∈ d → x.length ≤ 45) (HD : RdD w D m d) :
  Calls Tryz.prog 33 #[.slice D m capd] w fun en w' => ∃ B cb, en = .returned (.slice B m cb) ∧ RdD w' B m d ∧ Below w.heap.size w w' :=
 c33 D m capd d w (by omega) (fun x hx => Nat.le_trans (hsh x hx) (by decide)) HD
theorem c22d (A : Option Addr) (n cap : Nat) (l : List Int) (w : World) (hn : n ≤ 1000000) (H : RdI w A n l) :
  Calls Tryz.prog 22 #[.slice A n cap] w fun en w' => ∃ B cb, en = .returned (.slice B n cb) ∧ RdI w' B n l ∧ Below w.heap.size w w' := by
 refine (c22 A n cap l w hn H).mono ?_
 rintro e w' ⟨v, rfl, ho, hb⟩
 obtain ⟨B, cb, rfl, hr, _⟩ := own_form ho
 exact ⟨B, cb, rfl, hr, hb⟩
theorem c20d (c r : Int) (A : Option Addr) (n cap : Nat) (l : List Int) (w : World) (hl : n ≤ 1000000) (H : RdI w A n l) :
  Calls Tryz.prog 20 #[.agg #[.int .i64 c, .int .i64 r, .slice A n cap]] w fun en w' => ∃ B cb, en = .returned (.agg #[.int .i64 c, .int .i64 r, .slice B n cb]) ∧ RdI w' B n l ∧ Below w.heap.size w w' := by
 refine (c20 c r A n cap l w hl H).mono ?_
 rintro e w' ⟨B, cb, h1, h2, _, _, h3⟩
 exact ⟨B, cb, h1, h2, h3⟩
theorem c21d (un len most : Int) (P : Option Addr) (np capp : Nat) (ps : List Pr) (w : World) (hp : np ≤ 1000000) (HP : RdP w P np ps) :
  Calls Tryz.prog 21 #[.agg #[.int .i64 un, .int .i64 len, .int .i64 most, .slice P np capp]] w fun en w' => ∃ P' cap', en = .returned (.agg #[.int .i64 un, .int .i64 len, .int .i64 most, .slice P' np cap']) ∧ (RdP w' P' np ps ∧ np ≤ cap') ∧ Below w.heap.size w w' := by
 refine (c21 un len most P np capp ps w hp HP).mono ?_
 rintro e w' ⟨B, cb, h1, h2, h3, h4⟩
 exact ⟨B, cb, h1, ⟨h2, h3⟩, h4⟩
theorem c30q {A B : Option Addr} {n cap cap2 : Nat} {l : List Int} {w : World} (hn : n ≤ 1000000) (H : RdI w A n l) (G : RdI w B n l) :
  Calls Tryz.prog 30 #[.slice A n cap, .slice B n cap2] w fun en w' => en = .returned (.bool true) ∧ Below w.heap.size w w' := by
 refine (c30 A B n n cap cap2 l l w hn hn H G).mono fun e w' ⟨h1, h2⟩ => ⟨?_, h2⟩
 rw [h1]; simp
/-- an append of integers to own memory, in a list of operations -/
theorem wpList_app_ints {ops : Array Oper} {rest : List Oper} {o : Oper} {a : Act} {w : World} {Q : Exit → Act → World → Prop} (hgd : o.guard = none) (s x : Operand)
  (ho : o.op = .call { callee := .builtin .append, args := #[s, x], argTypes := #[22, 22] })
  (base : Nat) (v : Value) (n : Nat) (xs ys : List Int) (hs : a.eval s = v) (hown : Own w base v n (encI xs))
  (A : Option Addr) (m c : Nat) (hx : a.eval x = .slice A m c) (H : RdI w A m ys) (hnm : n + m ≤ 1000000) (hbase : base ≤ w.heap.size)
  (h : ∀ v' w', Own w' base v' (n + m) (encI (xs ++ ys)) → Below base w w' → wpList Tryz.prog ops Q rest (a.put o.dst v') w') : wpList Tryz.prog ops Q (o :: rest) a w := by
 refine wpList_plain hgd fun K hK => ?_
 exact wp_app_ints s x ho base v n xs ys hs hown A m c hx H hnm hbase (fun v' w' h1 h2 => hK _ _ (h v' w' h1 h2))
theorem bl2 (w : World) (o : Obj) : Below w.heap.size w (w.alloc o) := (Below.refl _ _).alloc (Nat.le_refl _) _
theorem own_rdI {w : World} {B : Nat} {v : Value} {n : Nat} {l : List Int} (h : w.ownsRow B 3 1 v n (encI l)) : ∃ A cap, v = .slice A n cap ∧ RdI w A n l := by
 obtain ⟨A, cap, rfl, hr, _⟩ := own_form h
 exact ⟨A, cap, rfl, hr⟩
end Go.Proofs.YtdimmlljjmmdbaaGreatDoor
namespace Go.Proofs.YtdimmlljjmmdbaaGreatDoor
open Go.RowKit Go.Shelf
set_option maxHeartbeats 8000000
set_option maxRecDepth 100000
theorem RdI.sub {w : World} {b off n : Nat} {l : List Int} (h : RdI w (some ⟨b, off, none⟩) n l) (lo k : Nat) (hk : lo + k ≤ n) : RdI w (some ⟨b, off + lo, none⟩) k ((l.drop lo).take k) := by
 have hn := h.len
 refine ⟨by simp [encI]; omega, fun h0 => ?_⟩
 obtain ⟨h1, h2⟩ := h
 obtain ⟨b', off', e, hb, hc⟩ := h2 (by omega)
 cases e
 refine ⟨b, off + lo, rfl, hb, fun j hj => ?_⟩
 have hj2 : j < k := by simp [encI] at hj; omega
 have h3 := hc (lo + j) (by simp [encI]; omega)
 have e : off + lo + j = off + (lo + j) := by omega
 rw [e, h3]
 simp [encI, List.getElem?_take, hj2, List.getElem?_drop]
/-- where a slice of a part begins -/
def offOf (cap lo : Nat) : Nat := if cap = lo then 0 else lo
theorem RdI.subo {w : World} {b n cap : Nat} {l : List Int} (h : RdI w (some ⟨b, 0, none⟩) n l) (lo k : Nat) (hk : lo + k ≤ n) (hc : n ≤ cap) : RdI w (some ⟨b, offOf cap lo, none⟩) k ((l.drop lo).take k) := by
 have h1 := h.sub lo k hk
 rw [Nat.zero_add] at h1
 by_cases h0 : k = 0
 ·subst h0
  exact ⟨by simp [encI], fun h => absurd h (Nat.lt_irrefl _)⟩
 ·have e : offOf cap lo = lo := by unfold offOf; rw [if_neg (by omega)]
  rw [e]
  exact h1
theorem slice_sub (g n cap lo hi : Nat) (h1 : lo ≤ hi) (h2 : hi ≤ n) (h3 : n ≤ cap) (W : World) : (Instr.slice 22 (.slice (some ⟨g, 0, none⟩) n cap) (some (.int .i64 ((lo : Nat) : Int))) (some (.int .i64 ((hi : Nat) : Int))) none).run Tryz.prog W = .ok (.slice (some ⟨g, offOf cap lo, none⟩) (hi - lo) (cap - lo)) W := by
 have hu : Tryz.prog.underlying 22 = some (.slice 3) := by kernel_rfl
 have a3 : (hi : Int) ≤ (cap : Int) := by omega
 have a4 : (0 : Int) ≤ (hi : Int) := by omega
 simp [Instr.slice, run_underlying hu, Instr.sliceBounds, run_sliceBound _ _ _ _ a4 a3, go_sem]
 rw [if_pos (by omega), if_pos h1]
 unfold offOf
 split <;> rfl
theorem c124z (b o n cap : Nat) (l : List Int) (w : World) (hn : n ≤ 1000000) (H : RdI w (some ⟨b, o, none⟩) n l) :
  Calls Tryz.prog 124 #[.slice (some ⟨b, o, none⟩) n cap] w fun en w' => ∃ v, en = .returned v ∧ w'.ownsRow w.heap.size 3 1 v n (encI l) ∧ Below w.heap.size w w' := by
 obtain ⟨W, hW⟩ : ∃ W, W = w.alloc (Obj.cells #[] 3) := ⟨_, rfl⟩
 have hB : Below w.heap.size w W := by rw [hW]; exact (Below.refl _ _).alloc (Nat.le_refl _) _
 have hown : Own W w.heap.size (.slice (some ⟨w.heap.size, 0, none⟩) 0 0) 0 (encI []) := own_empty (Nat.le_refl _) (by rw [hW]; exact heap_new rfl)
 have hrd := H.below hB
 have hsz := hB.size
 have q22 := nil22
 go_enter Tryz.func124, Tryz.ntmps124
 go_wp2_with (at_builtin; rw [← hW]; refine wpList_app_ints rfl _ _ rfl w.heap.size _ 0 [] l rfl hown (some ⟨b, o, none⟩) n cap rfl hrd (by omega) hsz ?_)
 intro x' w3 hown3 hb3
 try rw [Nat.zero_add, List.nil_append] at hown3
 try rw [← hW] at hb3
 have HO : Hid (Own w3 w.heap.size x' n (encI l)) := Lib.hid hown3
 have hB3 : Hid (Below w.heap.size w w3) := Lib.hid (hB.trans hb3)
 clear hown3 hb3
 go_wp2
 go_ret
 exact ⟨_, rfl, HO.out, hB3.out⟩
theorem c94q (b : Bool) (e : Int) (w : World) : Calls Tryz.prog 94 #[.bool b, .int .i64 e] w fun en w' => en = .returned (.int .i64 (Mo.when b e)) ∧ Below w.heap.size w w' :=
 (c94 b e w).mono fun _ _ ⟨h1, h2⟩ => ⟨h1, h2 ▸ Below.refl _ _⟩
theorem c89q (A : Option Addr) (n cap : Nat) (xs : List Int) (w : World) (hn : xs.length = n) (hl : n ≤ 1000000) (H : RdS w 1 A n (encI xs)) :
  Calls Tryz.prog 89 #[.slice A n cap] w fun en w' => en = .returned (.int .i64 (Mo.first xs)) ∧ Below w.heap.size w w' :=
 (c89 A n cap xs w hn hl H).mono fun _ _ ⟨h1, h2⟩ => ⟨h1, h2 ▸ Below.refl _ _⟩
theorem c51_ok (c r : Nat) (A : Option Addr) (n cap : Nat) (l : List Int) (un : Int) (ln : Nat) (most : Int) (P : Option Addr) (np capp : Nat) (ps : List Pr) (D : Option Addr) (capd : Nat) (d : List (List Int)) (f t : Nat) (w : World) (g : Im.Gr c r l) (hc : c ≤ 16) (hr : r ≤ 16) (hcp : np ≤ capp) (hE : Mo.dta c r l un ln most ps d = 0) (hft : f ≤ t) (htr : t ≤ r) (hst : Steps w) (hdl : ∀ x, x ∈ d → x.length ≤ 1000000) (H : RdI w A n l) (HP : RdP w P np ps) (HD : RdD w D np d) :
  Calls Tryz.prog 51 #[.agg #[.int .i64 c, .int .i64 r, .slice A n cap], .agg #[.int .i64 un, .int .i64 (ln : Nat), .int .i64 most, .slice P np capp], .slice D np capd, .agg #[.int .i64 (f : Nat), .int .i64 (t : Nat)]] w fun en w' => ∃ X xc, en = .returned (.tuple #[.slice X (t * c - f * c) xc, .int .i64 0]) ∧ RdI w' X (t * c - f * c) (((Im.image n (ps.map (dlp c l un ln most)) d).drop (f * c)).take (t * c - f * c)) ∧ Below w.heap.size w w' := by
 have hE2 := Mo.dta_zero hE
 have hsv := surv_ok hE2.1
 have hln := H.len
 have hpl := HP.len
 have hgl := g.len
 have hn256 : n ≤ 256 := by have : c * r ≤ 16 * 16 := Nat.mul_le_mul hc hr; omega
 have hrn : r * c = n := by rw [Nat.mul_comm]; omega
 obtain ⟨lo, hlo⟩ : ∃ x, x = f * c := ⟨_, rfl⟩
 obtain ⟨hi, hhi⟩ : ∃ x, x = t * c := ⟨_, rfl⟩
 have hlh : lo ≤ hi := by rw [hlo, hhi]; exact Nat.mul_le_mul_right c hft
 have hhn : hi ≤ n := by rw [hhi, ← hrn]; exact Nat.mul_le_mul_right c htr
 obtain ⟨kk, hkk⟩ : ∃ x, x = hi - lo := ⟨_, rfl⟩
 have hw1 : IntKind.i64.wrap ((f : Int) * (c : Int)) = (lo : Int) := by rw [hlo, ← Int.natCast_mul]; rw [wrapI (by omega)]
 have hw2 : IntKind.i64.wrap ((t : Int) * (c : Int)) = (hi : Int) := by rw [hhi, ← Int.natCast_mul]; rw [wrapI (by omega)]
 obtain ⟨IM, hIM⟩ : ∃ x, x = Im.image n (ps.map (dlp c l un ln most)) d := ⟨_, rfl⟩
 rw [← hlo, ← hhi, ← hkk, ← hIM]
 have HIM := Lib.hid hIM
 clear hIM hrn
 have hs1 : decide ((lo : Int) < 0) = false := by simp
 have hs2 : decide ((hi : Int) < (lo : Int)) = false := by simp; omega
 have hs3 : decide ((n : Int) < (hi : Int)) = false := by simp; omega
 have hs4 : (0 : Int) ≤ (lo : Int) := by omega
 have hs5 : (lo : Int) ≤ (hi : Int) := by omega
 have hs6 : (hi : Int) ≤ (n : Int) := by omega
 have hs7 : (0 : Int) ≤ (hi : Int) := by omega
 have hsl : ∀ (g gc : Nat), n ≤ gc → ∀ (W : World), (Instr.slice 22 (.slice (some ⟨g, 0, none⟩) n gc) (some (.int .i64 ((lo : Nat) : Int))) (some (.int .i64 ((hi : Nat) : Int))) none).run Tryz.prog W = .ok (.slice (some ⟨g, offOf gc lo, none⟩) kk (gc - lo)) W := fun g gc h W => by rw [hkk]; exact slice_sub g n gc lo hi hlh hhn h W
 have hn0 : 0 < n := by have : 1 * 1 ≤ c * r := Nat.mul_le_mul g.c1 g.r1; omega
 have HDL := Lib.hid hdl
 have hl : n ≤ 1000000 := by omega
 have hp : np ≤ 1000000 := by have := hsv.2.2.2.2.1; omega
 have hd : np ≤ 1000000 := hp
 have HE : Hid (0 = Mo.first [Mo.surv c r l un ln most ps, Mo.dat ln ps d]) := Lib.hid hE.symm
 have HV : Hid (0 = Mo.first [0, 0]) := Lib.hid rfl
 have d1 : decide ((f : Int) < 0) = false := by simp
 have d2 : decide ((t : Int) < (f : Int)) = false := by simp; omega
 have d2n : decide (t < f) = false := by simp; omega
 have d3 : decide ((r : Int) < (t : Int)) = false := by simp; omega
 have d3n : decide (r < t) = false := by simp; omega
 clear hdl
 have HEE := Lib.hid hE
 have HE2 := Lib.hid hE2
 have HSV := Lib.hid hsv
 have HLN := Lib.hid hln
 have HPL := Lib.hid hpl
 have HKK := Lib.hid hkk
 clear hE hE2 hsv hln hpl hgl hkk hlo hhi
 obtain ⟨w0, hW⟩ : ∃ W, W = ((w.alloc (Obj.cells #[.int .i64 c, .int .i64 r, .slice A n cap] 35)).alloc (Obj.cells #[.int .i64 un, .int .i64 (ln : Nat), .int .i64 most, .slice P np capp] 39)).alloc (Obj.cells #[.int .i64 (f : Nat), .int .i64 (t : Nat)] 53) := ⟨_, rfl⟩
 have hT0 : w0.heap[w.heap.size]? = some (.cells #[.int .i64 c, .int .i64 r, .slice A n cap] 35 (0, 0)) := by rw [hW]; exact heap_old (by simp <;> omega) (heap_old (by simp <;> omega) (heap_new (by simp)))
 have hT1 : w0.heap[w.heap.size + 1]? = some (.cells #[.int .i64 un, .int .i64 (ln : Nat), .int .i64 most, .slice P np capp] 39 (0, 0)) := by rw [hW]; exact heap_old (by simp <;> omega) (heap_new (by simp))
 have hT2 : w0.heap[w.heap.size + 1 + 1]? = some (.cells #[.int .i64 (f : Nat), .int .i64 (t : Nat)] 53 (0, 0)) := by rw [hW]; exact heap_new (by simp)
 have hB0 : Below w.heap.size w w0 := by rw [hW]; exact ((((Below.refl _ _).alloc (by first | omega | (simp <;> omega)) _).alloc (by first | omega | (simp <;> omega)) _).alloc (by first | omega | (simp <;> omega)) _)
 replace H := H.below hB0
 replace HP := HP.below hB0
 replace HD := HD.below hB0
 replace hst := hst.below hB0
 go_enter Tryz.func51, Tryz.ntmps51
 go_wp2_with fail
 rw [← hW]
 clear hW
 have qhT0_0 : w0.cell? ⟨w.heap.size, 0, none⟩ = some (.int .i64 c) := cell_at hT0 rfl
 have qhT0_1 : w0.cell? ⟨w.heap.size, 1, none⟩ = some (.int .i64 r) := cell_at hT0 rfl
 have qhT0_2 : w0.cell? ⟨w.heap.size, 2, none⟩ = some (.slice A n cap) := cell_at hT0 rfl
 have qhT1_0 : w0.cell? ⟨w.heap.size + 1, 0, none⟩ = some (.int .i64 un) := cell_at hT1 rfl
 have qhT1_1 : w0.cell? ⟨w.heap.size + 1, 1, none⟩ = some (.int .i64 (ln : Nat)) := cell_at hT1 rfl
 have qhT1_2 : w0.cell? ⟨w.heap.size + 1, 2, none⟩ = some (.int .i64 most) := cell_at hT1 rfl
 have qhT1_3 : w0.cell? ⟨w.heap.size + 1, 3, none⟩ = some (.slice P np capp) := cell_at hT1 rfl
 have qhT2_0 : w0.cell? ⟨w.heap.size + 1 + 1, 0, none⟩ = some (.int .i64 (f : Nat)) := cell_at hT2 rfl
 have qhT2_1 : w0.cell? ⟨w.heap.size + 1 + 1, 1, none⟩ = some (.int .i64 (t : Nat)) := cell_at hT2 rfl
 go_wp2_with fail
 refine wp_region_plan [(0, true), (1, true), (2, true), (4, true), (5, true), (6, true), (3, false), (7, true), (8, true), (9, true), (10, true), (11, true), (12, true), (13, true), (14, true), (15, true), (16, true), (17, true), (18, true), (19, true), (20, true), (21, false), (22, false), (23, false), (24, true)] w0.heap.size (by kernel_rfl) (by kernel_rfl) (Nat.le_refl _) (fun _ _ d _ _ h => by cases d <;> exact h) ?_
 have hC : Below w0.heap.size w0 w0 := Below.refl _ _
 have zhT0 : w.heap.size < w0.heap.size := (Array.getElem?_eq_some_iff.1 hT0).1
 have zhT1 : w.heap.size + 1 < w0.heap.size := (Array.getElem?_eq_some_iff.1 hT1).1
 have zhT2 : w.heap.size + 1 + 1 < w0.heap.size := (Array.getElem?_eq_some_iff.1 hT2).1
 repeat (first | (refine wpPlanA_skip _ rfl (by rfl) ?_; simp only [Act.put, List.setIfInBounds_toArray, List.set_cons_zero, List.set_cons_succ]) | (refine wpPlanA_soft _ ?_ rfl (by rfl) ?_ ?_; rotate_left; (intro wq hq hcq; go_simp; first | exact rfl | exact ⟨rfl, rfl⟩); simp only [Act.put, List.setIfInBounds_toArray, List.set_cons_zero, List.set_cons_succ]))
 refine wpPlanA_hard _ rfl (by rfl) (fun w1 hS K hK => ?_)
 go_simp
 refine (c102 c r A n cap l un ln most P np capp ps D np capd d _ hl hp hd HDL.out (HP.below hS) (HD.below hS) (H.below hS)).mono ?_
 rintro e w2 ⟨rfl, hb⟩
 replace hS := hS.call hb rfl
 have hB2 := hB0.call hS rfl
 replace hC := hC.call hS rfl
 replace hT0 := blkb hT0 hS
 replace hT1 := blkb hT1 hS
 replace hT2 := blkb hT2 hS
 replace H := H.below hS
 replace HP := HP.below hS
 replace HD := HD.below hS
 replace hst := hst.below hS
 refine hK _ _ hC ?_
 clear hS hb hB0 hK K
 try simp only [Act.put, List.setIfInBounds_toArray, List.set_cons_zero, List.set_cons_succ]
 rw [← HE.out]
 repeat (first | (refine wpPlanA_skip _ rfl (by rfl) ?_; simp only [Act.put, List.setIfInBounds_toArray, List.set_cons_zero, List.set_cons_succ]) | (refine wpPlanA_soft _ ?_ rfl (by rfl) ?_ ?_; rotate_left; (intro wq hq hcq; go_simp; first | exact rfl | exact ⟨rfl, rfl⟩); simp only [Act.put, List.setIfInBounds_toArray, List.set_cons_zero, List.set_cons_succ]))
 refine wpPlanA_hard _ rfl (by rfl) (fun w3 hS K hK => ?_)
 go_simp
 refine (c94q false 14 _).mono ?_
 rintro e w4 ⟨rfl, hb⟩
 replace hS := hS.call hb rfl
 have hB4 := hB2.call hS rfl
 replace hC := hC.call hS rfl
 replace hT0 := blkb hT0 hS
 replace hT1 := blkb hT1 hS
 replace hT2 := blkb hT2 hS
 replace H := H.below hS
 replace HP := HP.below hS
 replace HD := HD.below hS
 replace hst := hst.below hS
 refine hK _ _ hC ?_
 clear hS hb hB2 hK K
 try simp only [Act.put, List.setIfInBounds_toArray, List.set_cons_zero, List.set_cons_succ]
 have hwhen : Mo.when false 14 = 0 := rfl
 rw [hwhen]
 clear hwhen
 repeat (first | (refine wpPlanA_skip _ rfl (by rfl) ?_; simp only [Act.put, List.setIfInBounds_toArray, List.set_cons_zero, List.set_cons_succ]) | (refine wpPlanA_soft _ ?_ rfl (by rfl) ?_ ?_; rotate_left; (intro wq hq hcq; go_simp; first | exact rfl | exact ⟨rfl, rfl⟩); simp only [Act.put, List.setIfInBounds_toArray, List.set_cons_zero, List.set_cons_succ]))
 refine wpPlanA_hard _ rfl (by rfl) (fun w5 hS K hK => ?_)
 have hB5 := hB4.call hS rfl
 replace hC := hC.call hS rfl
 replace hT0 := blkb hT0 hS
 replace hT1 := blkb hT1 hS
 replace hT2 := blkb hT2 hS
 replace H := H.below hS
 replace HP := HP.below hS
 replace HD := HD.below hS
 replace hst := hst.below hS
 clear hS hB4
 go_simp
 have hb : Below w5.heap.size w5 (w5.alloc (Obj.cells #[.int .i64 0, .int .i64 0] 32)) := (Below.refl _ _).alloc (Nat.le_refl _) _
 have k1 : (w5.alloc (Obj.cells #[.int .i64 0, .int .i64 0] 32)).heap[w5.heap.size]? = some (Obj.cells #[.int .i64 0, .int .i64 0] 32) := heap_new rfl
 refine hK _ _ (hC.alloc hC.size _) ?_
 clear hK K
 replace hC := hC.call hb rfl
 have hB6 := hB5.call hb rfl
 replace hT0 := blkb hT0 hb
 replace hT1 := blkb hT1 hb
 replace hT2 := blkb hT2 hb
 replace H := H.below hb
 replace HP := HP.below hb
 replace HD := HD.below hb
 replace hst := hst.below hb
 clear hb hB5
 generalize hWn : w5.alloc (Obj.cells #[.int .i64 0, .int .i64 0] 32) = w6 at k1 hC hB6 hT0 hT1 hT2 H HP HD hst ⊢
 clear hWn
 generalize hWn : w5.heap.size = bk1 at k1 ⊢
 clear hWn
 try simp only [Act.put, List.setIfInBounds_toArray, List.set_cons_zero, List.set_cons_succ]
 repeat (first | (refine wpPlanA_skip _ rfl (by rfl) ?_; simp only [Act.put, List.setIfInBounds_toArray, List.set_cons_zero, List.set_cons_succ]) | (refine wpPlanA_soft _ ?_ rfl (by rfl) ?_ ?_; rotate_left; (intro wq hq hcq; go_simp; first | exact rfl | exact ⟨rfl, rfl⟩); simp only [Act.put, List.setIfInBounds_toArray, List.set_cons_zero, List.set_cons_succ]))
 refine wpPlanA_hard _ rfl (by rfl) (fun w7 hS K hK => ?_)
 go_simp
 refine (c89q _ 2 2 [0, 0] _ rfl (by omega) (RdS.of_block (cs := encI [0, 0]) (blkb k1 hS) rfl)).mono ?_
 rintro e w8 ⟨rfl, hb⟩
 replace hS := hS.call hb rfl
 have hB8 := hB6.call hS rfl
 replace hC := hC.call hS rfl
 replace hT0 := blkb hT0 hS
 replace hT1 := blkb hT1 hS
 replace hT2 := blkb hT2 hS
 replace H := H.below hS
 replace HP := HP.below hS
 replace HD := HD.below hS
 replace hst := hst.below hS
 replace k1 := blkb k1 hS
 refine hK _ _ hC ?_
 clear hS hb hB6 hK K
 try simp only [Act.put, List.setIfInBounds_toArray, List.set_cons_zero, List.set_cons_succ]
 rw [← HV.out]
 repeat (first | (refine wpPlanA_skip _ rfl (by rfl) ?_; simp only [Act.put, List.setIfInBounds_toArray, List.set_cons_zero, List.set_cons_succ]) | (refine wpPlanA_soft _ ?_ rfl (by rfl) ?_ ?_; rotate_left; (intro wq hq hcq; go_simp; first | exact rfl | exact ⟨rfl, rfl⟩); simp only [Act.put, List.setIfInBounds_toArray, List.set_cons_zero, List.set_cons_succ]))
 clear k1
 clear qhT0_0 qhT0_1 qhT0_2 qhT1_0 qhT1_1 qhT1_2 qhT1_3 qhT2_0 qhT2_1
 refine wpPlanA_nil (fun w9 hS => ?_)
 clear hC zhT0 zhT1 zhT2
 have hB9 := hB8.call hS rfl
 replace hT0 := blkb hT0 hS
 replace hT1 := blkb hT1 hS
 replace hT2 := blkb hT2 hS
 replace H := H.below hS
 replace HP := HP.below hS
 replace HD := HD.below hS
 replace hst := hst.below hS
 clear hS hB8
 have qhT0_0 : w9.cell? ⟨w.heap.size, 0, none⟩ = some (.int .i64 c) := cell_at hT0 rfl
 have qhT0_1 : w9.cell? ⟨w.heap.size, 1, none⟩ = some (.int .i64 r) := cell_at hT0 rfl
 have qhT0_2 : w9.cell? ⟨w.heap.size, 2, none⟩ = some (.slice A n cap) := cell_at hT0 rfl
 have qhT1_0 : w9.cell? ⟨w.heap.size + 1, 0, none⟩ = some (.int .i64 un) := cell_at hT1 rfl
 have qhT1_1 : w9.cell? ⟨w.heap.size + 1, 1, none⟩ = some (.int .i64 (ln : Nat)) := cell_at hT1 rfl
 have qhT1_2 : w9.cell? ⟨w.heap.size + 1, 2, none⟩ = some (.int .i64 most) := cell_at hT1 rfl
 have qhT1_3 : w9.cell? ⟨w.heap.size + 1, 3, none⟩ = some (.slice P np capp) := cell_at hT1 rfl
 have qhT2_0 : w9.cell? ⟨w.heap.size + 1 + 1, 0, none⟩ = some (.int .i64 (f : Nat)) := cell_at hT2 rfl
 have qhT2_1 : w9.cell? ⟨w.heap.size + 1 + 1, 1, none⟩ = some (.int .i64 (t : Nat)) := cell_at hT2 rfl
 go_wp2_with fail
 refine wp_region_plan [(0, true), (1, true), (2, true), (4, true), (5, true), (6, true), (7, true), (8, true), (9, true), (10, true), (11, true), (12, true), (13, true), (3, false), (14, true), (15, false), (16, true), (17, true)] w9.heap.size (by kernel_rfl) (by kernel_rfl) (Nat.le_refl _) (fun _ _ d _ _ h => by cases d <;> exact h) ?_
 have hC : Below w9.heap.size w9 w9 := Below.refl _ _
 have zhT0 : w.heap.size < w9.heap.size := (Array.getElem?_eq_some_iff.1 hT0).1
 have zhT1 : w.heap.size + 1 < w9.heap.size := (Array.getElem?_eq_some_iff.1 hT1).1
 have zhT2 : w.heap.size + 1 + 1 < w9.heap.size := (Array.getElem?_eq_some_iff.1 hT2).1
 repeat (first | (refine wpPlanA_skip _ rfl (by rfl) ?_; simp only [Act.put, List.setIfInBounds_toArray, List.set_cons_zero, List.set_cons_succ]) | (refine wpPlanA_soft _ ?_ rfl (by rfl) ?_ ?_; rotate_left; (intro wq hq hcq; go_simp; first | exact rfl | exact ⟨rfl, rfl⟩); simp only [Act.put, List.setIfInBounds_toArray, List.set_cons_zero, List.set_cons_succ]))
 refine wpPlanA_hard _ rfl (by rfl) (fun w10 hS K hK => ?_)
 go_simp
 refine (c104 c r A n cap l un ln most P np capp ps D capd d _ g hc hr HSV.out.2.1 (by have := HSV.out.2.2.1; omega) (by have := HSV.out.2.2.2.2.1; have := HPL.out; omega) hcp (fun p hp => by have := HSV.out.2.2.2.2.2 p hp; have := HLN.out; omega) HE2.out.2.2.1 HE2.out.2.2.2 (H.below hS) (HP.below hS) (HD.below hS) (hst.below hS)).mono ?_
 rintro e w11 ⟨v, rfl, hrow, hb⟩
 replace hS := hS.call hb rfl
 have hB11 := hB9.call hS rfl
 replace hC := hC.call hS rfl
 replace hT0 := blkb hT0 hS
 replace hT1 := blkb hT1 hS
 replace hT2 := blkb hT2 hS
 replace H := H.below hS
 replace HP := HP.below hS
 replace HD := HD.below hS
 replace hst := hst.below hS
 rw [← HIM.out] at hrow
 obtain ⟨go, gc, rfl, hrw2⟩ := RowI.of_own hn0 hrow
 clear hrow
 have hrow := hrw2
 clear hrw2
 have hgc : n ≤ gc := by obtain ⟨_, _, _, h, _⟩ := hrow; exact h
 have hsg := hsl go gc hgc
 have hs9 : (hi : Int) ≤ (gc : Int) := by omega
 refine hK _ _ hC ?_
 clear hS hb hB9 hK K
 try simp only [Act.put, List.setIfInBounds_toArray, List.set_cons_zero, List.set_cons_succ]
 repeat (first | (refine wpPlanA_skip _ rfl (by rfl) ?_; simp only [Act.put, List.setIfInBounds_toArray, List.set_cons_zero, List.set_cons_succ]) | (refine wpPlanA_soft _ ?_ rfl (by rfl) ?_ ?_; rotate_left; (intro wq hq hcq; go_simp; first | exact rfl | exact ⟨rfl, rfl⟩); simp only [Act.put, List.setIfInBounds_toArray, List.set_cons_zero, List.set_cons_succ]))
 refine wpPlanA_hard _ rfl (by rfl) (fun w12 hS K hK => ?_)
 go_simp
 refine (c124z go (offOf gc lo) kk (gc - lo) _ _ (by have := HKK.out; omega) ((hrow.below hS).rd.subo lo kk (by have := HKK.out; omega) hgc)).mono ?_
 rintro e w13 ⟨vv, rfl, hown, hb⟩
 replace hS := hS.call hb rfl
 have hB13 := hB11.call hS rfl
 replace hC := hC.call hS rfl
 replace hT0 := blkb hT0 hS
 replace hT1 := blkb hT1 hS
 replace hT2 := blkb hT2 hS
 replace H := H.below hS
 replace HP := HP.below hS
 replace HD := HD.below hS
 replace hst := hst.below hS
 replace hrow := hrow.below hS
 obtain ⟨X, xc, rfl, hX⟩ := own_rdI hown
 refine hK _ _ hC ?_
 clear hS hb hB11 hK K
 try simp only [Act.put, List.setIfInBounds_toArray, List.set_cons_zero, List.set_cons_succ]
 repeat (first | (refine wpPlanA_skip _ rfl (by rfl) ?_; simp only [Act.put, List.setIfInBounds_toArray, List.set_cons_zero, List.set_cons_succ]) | (refine wpPlanA_soft _ ?_ rfl (by rfl) ?_ ?_; rotate_left; (intro wq hq hcq; go_simp; first | exact rfl | exact ⟨rfl, rfl⟩); simp only [Act.put, List.setIfInBounds_toArray, List.set_cons_zero, List.set_cons_succ]))
 clear qhT0_0 qhT0_1 qhT0_2 qhT1_0 qhT1_1 qhT1_2 qhT1_3 qhT2_0 qhT2_1
 refine wpPlanA_nil (fun w14 hS => ?_)
 clear hC zhT0 zhT1 zhT2
 have hB14 := hB13.call hS rfl
 replace hT0 := blkb hT0 hS
 replace hT1 := blkb hT1 hS
 replace hT2 := blkb hT2 hS
 replace H := H.below hS
 replace HP := HP.below hS
 replace HD := HD.below hS
 replace hst := hst.below hS
 replace hrow := hrow.below hS
 replace hX := hX.below hS
 clear hS hB13
 have qhT0_0 : w14.cell? ⟨w.heap.size, 0, none⟩ = some (.int .i64 c) := cell_at hT0 rfl
 have qhT0_1 : w14.cell? ⟨w.heap.size, 1, none⟩ = some (.int .i64 r) := cell_at hT0 rfl
 have qhT0_2 : w14.cell? ⟨w.heap.size, 2, none⟩ = some (.slice A n cap) := cell_at hT0 rfl
 have qhT1_0 : w14.cell? ⟨w.heap.size + 1, 0, none⟩ = some (.int .i64 un) := cell_at hT1 rfl
 have qhT1_1 : w14.cell? ⟨w.heap.size + 1, 1, none⟩ = some (.int .i64 (ln : Nat)) := cell_at hT1 rfl
 have qhT1_2 : w14.cell? ⟨w.heap.size + 1, 2, none⟩ = some (.int .i64 most) := cell_at hT1 rfl
 have qhT1_3 : w14.cell? ⟨w.heap.size + 1, 3, none⟩ = some (.slice P np capp) := cell_at hT1 rfl
 have qhT2_0 : w14.cell? ⟨w.heap.size + 1 + 1, 0, none⟩ = some (.int .i64 (f : Nat)) := cell_at hT2 rfl
 have qhT2_1 : w14.cell? ⟨w.heap.size + 1 + 1, 1, none⟩ = some (.int .i64 (t : Nat)) := cell_at hT2 rfl
 have HX := Lib.hid hX
 go_wp2
 go_ret2
 exact ⟨X, xc, rfl, HX.out, hB14⟩
end Go.Proofs.YtdimmlljjmmdbaaGreatDoor
namespace Go.Proofs.YtdimmlljjmmdbaaGreatDoor
open Go.RowKit Go.Shelf
set_option maxHeartbeats 8000000
set_option maxRecDepth 100000
theorem surv_most {c r : Int} {l : List Int} {un len most m2 : Int} {ps : List Pr} (h : Mo.surv c r l un len most ps = 0) (hm : 0 ≤ m2 ∧ m2 ≤ 256) : Mo.surv c r l un len m2 ps = 0 := by
 unfold Mo.surv Mo.surv0 at h ⊢
 have h1 := Mo.first_zero h
 have h2 := Mo.first_zero (h1 _ List.mem_cons_self)
 refine first2 (Mo.first_all ?_) (h1 _ (List.mem_cons_of_mem _ List.mem_cons_self))
 intro x hx
 simp only [List.mem_cons, List.not_mem_nil, or_false] at hx
 rcases hx with rfl | rfl | rfl | rfl | rfl
 ·exact h2 _ (by simp)
 ·exact h2 (Mo.range un 1 1000) (by simp)
 ·exact h2 (Mo.range len 1 256) (by simp)
 ·exact Mo.range_ok.2 hm
 ·exact h2 (Mo.when (decide (16 < (ps.length : Int))) 5) (by simp)
theorem fit_most {c r : Int} {l : List Int} {un len most m2 : Int} {ps : List Pr} {ms : List Int} {d : List (List Int)} (h : Mo.fit c r l un len most ps ms d = 0) (hm : 0 ≤ m2 ∧ m2 ≤ 256) : Mo.fit c r l un len m2 ps ms d = 0 := by
 unfold Mo.fit at h ⊢
 have h1 := Mo.first_zero h
 refine first3 (surv_most (h1 _ List.mem_cons_self) hm) (h1 _ (by simp)) (h1 (Mo.dat len ps d) (by simp))
theorem rows_len2 {ln : Nat} {ps : List Pr} {d e : List (List Int)} (hd : d.length = ps.length) (hds : Mo.Shp ln ps d) (he : e.length = ps.length) (hes : Mo.Shp ln ps e) {B : Nat} (h : ∀ x, x ∈ d → x.length ≤ B) : ∀ x, x ∈ e → x.length ≤ B := by
 intro x hx
 obtain ⟨j, hj, e1⟩ := List.getElem_of_mem hx
 have hjp : j < ps.length := by omega
 have hjd : j < d.length := by omega
 have h1 := hes j ps[j] x (List.getElem?_eq_getElem hjp) (by rw [← e1]; exact List.getElem?_eq_getElem hj)
 have h2 := hds j ps[j] d[j] (List.getElem?_eq_getElem hjp) (List.getElem?_eq_getElem hjd)
 have h3 : x.length = (d[j]).length := by
  unfold Mo.okT at h1 h2
  split at h1 <;> simp_all <;> omega
 rw [h3]
 exact h _ (List.getElem_mem hjd)
theorem flat_le3 : ∀ {d : List (List Int)} {B : Nat}, (∀ x, x ∈ d → x.length ≤ B) → d.flatten.length ≤ d.length * B
 | [], _, _ => by simp
 | x :: d, B, h => by
  have h1 := flat_le3 (d := d) (fun y hy => h y (by simp [hy]))
  have h2 := h x (by simp)
  rw [List.flatten_cons, List.length_append, List.length_cons, Nat.add_mul]
  omega
/-- the inner product, where nothing is wrong -/
theorem c40_ok (A B : Option Addr) (n ca cb : Nat) (a b : List Int) (w : World) (hn : n ≤ 4096) (H : RdI w A n a) (G : RdI w B n b) (ha : ∀ x, x ∈ a → -16777216 ≤ x ∧ x ≤ 16777216) (hb : ∀ x, x ∈ b → -16777216 ≤ x ∧ x ≤ 16777216) :
  Calls Tryz.prog 40 #[.slice A n ca, .slice B n cb] w fun en w' => en = .returned (.tuple #[.int .i64 (Im.inner a b), .int .i64 0]) ∧ Below w.heap.size w w' := by
 have e1 : Mo.allw a (-16777216) 16777216 = 0 := Mo.allw_ok.2 (fun x hx => ha x hx)
 have e2 : Mo.allw b (-16777216) 16777216 = 0 := Mo.allw_ok.2 (fun x hx => hb x hx)
 have hE : Mo.innE a b = 0 := by
  unfold Mo.innE
  refine first2 ?_ (first2 e1 e2)
  unfold Mo.innA
  exact first2 ((Mo.when_zero (by decide)).2 (by rw [H.len, G.len]; simp)) ((Mo.when_zero (by decide)).2 (by rw [H.len]; simp; omega))
 have h := c40 A B n n ca cb a b w (by omega) (by omega) H G
 unfold Mo.innV at h
 rw [hE, if_pos rfl] at h
 exact h
theorem img_mem {n : Nat} {dss data : List (List Int)} (hn : ∀ ds, ds ∈ dss → ds.length = n) (hd : ∀ tr, tr ∈ data → ∀ x, x ∈ tr → -1048576 ≤ x ∧ x ≤ 1048576) (hl : dss.length = data.length) (h16 : dss.length ≤ 16) : ∀ x, x ∈ Im.image n dss data → -16777216 ≤ x ∧ x ≤ 16777216 := by
 intro x hx
 obtain ⟨k, hk, e⟩ := List.getElem_of_mem hx
 have hlen : (Im.image n dss data).length = n := by
  unfold Im.image
  rw [Im.image_fold_len]
  ·simp
  ·intro y hy
   rw [hn _ (List.of_mem_zip hy).1]; simp
 have h := image_le hn hd hl h16 (k := k) (by omega)
 have e2 : Im.at0 (Im.image n dss data) k = x := by simp [Im.at0, List.getD_eq_getElem?_getD, hk, e]
 rw [e2] at h; exact h
/-- what the law asks the program for, at one greatest step -/
theorem adj_most (c r n np : Nat) (l : List Int) (un : Int) (ln : Nat) (most : Int) (ps : List Pr) (ms : List Int) (d : List (List Int)) (hc : c ≤ 16) (hr : r ≤ 16) (g : Im.Gr c r l) (hn : l.length = n) (hn30 : n ≤ 30) (hnp : ps.length = np)
  (hfit : Mo.fit c r l un ln most ps ms d = 0) (hd5 : d.length ≤ 5 ∨ d.length = 17) (hd45 : ∀ x, x ∈ d → x.length ≤ 45) :
  ∃ (T : List (List Int)) (fl df IM AG : List Int) (N : Nat) (V W0 : Int),
   IM = Im.image n (ps.map (dlp c l un ln most)) d ∧ np ≤ 5 ∧ (∀ x, x ∈ T → x.length ≤ 45) ∧ 0 ≤ W0 ∧ N ≤ 1000000 ∧
   (∀ (B M P : Option Addr) (cb mc pc : Nat) (W : World), np ≤ pc → RdI W B n l → RdP W P np ps → RdI W M n ms → Steps W → Calls Tryz.prog 19 #[.agg #[.int .i64 c, .int .i64 r, .slice B n cb], .agg #[.int .i64 un, .int .i64 (ln : Nat), .int .i64 most, .slice P np pc], .slice M n mc] W fun en w' => ∃ go, en = .returned (.tuple #[.slice (some ⟨go, 0, none⟩) np np, .int .i64 0]) ∧ RdD w' (some ⟨go, 0, none⟩) np T ∧ Below W.heap.size W w') ∧
   (∀ (C : Option Addr) (cc : Nat) (W : World), RdD W C np T → Calls Tryz.prog 48 #[.slice C np cc] W fun en w' => en = .returned (.bool true) ∧ Below W.heap.size W w') ∧
   (∀ (B P D : Option Addr) (cb pc dc : Nat) (W : World), np ≤ pc → RdI W B n l → RdP W P np ps → RdD W D np d → Steps W → Calls Tryz.prog 50 #[.agg #[.int .i64 c, .int .i64 r, .slice B n cb], .agg #[.int .i64 un, .int .i64 (ln : Nat), .int .i64 most, .slice P np pc], .slice D np dc] W fun en w' => ∃ F fc, en = .returned (.tuple #[.slice F n fc, .int .i64 0]) ∧ RdI w' F n IM ∧ Below W.heap.size W w') ∧
   (∀ (B P D : Option Addr) (cb pc dc : Nat) (W : World), RdI W B n l → RdP W P np ps → RdD W D np T → Calls Tryz.prog 49 #[.agg #[.int .i64 c, .int .i64 r, .slice B n cb], .agg #[.int .i64 un, .int .i64 (ln : Nat), .int .i64 most, .slice P np pc], .slice D np dc] W fun en w' => ∃ F fc, en = .returned (.tuple #[.slice F N fc, .int .i64 0]) ∧ RdI w' F N fl ∧ Below W.heap.size W w') ∧
   (∀ (B P D : Option Addr) (cb pc dc : Nat) (W : World), RdI W B n l → RdP W P np ps → RdD W D np d → Calls Tryz.prog 49 #[.agg #[.int .i64 c, .int .i64 r, .slice B n cb], .agg #[.int .i64 un, .int .i64 (ln : Nat), .int .i64 most, .slice P np pc], .slice D np dc] W fun en w' => ∃ F fc, en = .returned (.tuple #[.slice F N fc, .int .i64 0]) ∧ RdI w' F N df ∧ Below W.heap.size W w') ∧
   (∀ (B P D : Option Addr) (cb pc dc : Nat) (W : World), np ≤ pc → RdI W B n l → RdP W P np ps → RdD W D np T → Steps W → Calls Tryz.prog 50 #[.agg #[.int .i64 c, .int .i64 r, .slice B n cb], .agg #[.int .i64 un, .int .i64 (ln : Nat), .int .i64 most, .slice P np pc], .slice D np dc] W fun en w' => ∃ F fc, en = .returned (.tuple #[.slice F n fc, .int .i64 0]) ∧ RdI w' F n AG ∧ Below W.heap.size W w') ∧
   (∀ (A B : Option Addr) (ca cb : Nat) (W : World), RdI W A N fl → RdI W B N df → Calls Tryz.prog 40 #[.slice A N ca, .slice B N cb] W fun en w' => en = .returned (.tuple #[.int .i64 V, .int .i64 0]) ∧ Below W.heap.size W w') ∧
   (∀ (A B : Option Addr) (ca cb : Nat) (W : World), RdI W A n ms → RdI W B n IM → Calls Tryz.prog 40 #[.slice A n ca, .slice B n cb] W fun en w' => en = .returned (.tuple #[.int .i64 V, .int .i64 0]) ∧ Below W.heap.size W w') ∧
   (∀ (A B : Option Addr) (ca cb : Nat) (W : World), RdI W A N fl → RdI W B N fl → Calls Tryz.prog 40 #[.slice A N ca, .slice B N cb] W fun en w' => en = .returned (.tuple #[.int .i64 W0, .int .i64 0]) ∧ Below W.heap.size W w') ∧
   (∀ (A B : Option Addr) (ca cb : Nat) (W : World), RdI W A n ms → RdI W B n AG → Calls Tryz.prog 40 #[.slice A n ca, .slice B n cb] W fun en w' => en = .returned (.tuple #[.int .i64 W0, .int .i64 0]) ∧ Below W.heap.size W w') := by
 obtain ⟨hmdl, hdta⟩ := Mo.fit_zero hfit
 obtain ⟨hS, hml, hmb⟩ := Mo.mdl_zero hmdl
 obtain ⟨_, hdl, hds, hdb⟩ := Mo.dta_zero hdta
 obtain ⟨_, hu, hlnb, _, h16, hpr⟩ := surv_ok hS
 have hln1 : 1 ≤ ln := by omega
 have hnp5 : np ≤ 5 := by omega
 have hT45 := rows_len2 (e := trcs c l un ln most ms ps) hdl hds (trcs_len _ _ _ _ _ _ _) (trcs_shp _ _ _ _ _ _ _) hd45
 have hTdat : Mo.dat ln ps (trcs c l un ln most ms ps) = 0 := trcs_dat hml (by omega) hmb
 have hTdta : Mo.dta c r l un ln most ps (trcs c l un ln most ms ps) = 0 := by unfold Mo.dta; exact first2 hS hTdat
 obtain ⟨_, _, _, hTb⟩ := Mo.dta_zero hTdta
 have F1 := fits_of (c := c) (l := l) (un := un) (most := most) hln1 hdl hds
 have F2 : Im.Fits ln l.length (prs c l un ln most ps) (trcs c l un ln most ms ps) := by rw [← prs_traces]; exact Im.traces_fits_len F1
 have hfl := Im.flat_len F2 F1
 have hN : d.flatten.length ≤ 4096 := by
  have h1 := flat_le3 hd45
  have h2 : d.length * 45 ≤ 16 * 45 := Nat.mul_le_mul_right 45 (by omega)
  omega
 have hA1 := Im.adj hml F1
 rw [prs_traces, prs_snd] at hA1
 have hA2 := Im.adj hml F2
 rw [prs_traces, prs_snd] at hA2
 have hbf : ∀ (e : List (List Int)), (∀ tr, tr ∈ e → ∀ x, x ∈ tr → -1048576 ≤ x ∧ x ≤ 1048576) → ∀ x, x ∈ e.flatten → -16777216 ≤ x ∧ x ≤ 16777216 := by
  intro e he x hx
  obtain ⟨row, hrow, hx⟩ := List.mem_flatten.1 hx
  have := he row hrow x hx
  omega
 have hdn : ∀ ds, ds ∈ ps.map (dlp c l un ln most) → ds.length = n := by
  intro ds hds; obtain ⟨p, _, rfl⟩ := List.mem_map.1 hds; rw [dlp_len, hn]
 have hmsb : ∀ x, x ∈ ms → -16777216 ≤ x ∧ x ≤ 16777216 := by
  intro x hx
  obtain ⟨k, hk, e⟩ := List.getElem_of_mem hx
  have := hmb k hk
  have e2 : Im.at0 ms k = x := by simp [Im.at0, List.getD_eq_getElem?_getD, hk, e]
  omega
 rw [hn] at hA1 hA2
 refine ⟨trcs c l un ln most ms ps, (trcs c l un ln most ms ps).flatten, d.flatten, Im.image n (ps.map (dlp c l un ln most)) d, Im.image n (ps.map (dlp c l un ln most)) (trcs c l un ln most ms ps), d.flatten.length, Im.inner (trcs c l un ln most ms ps).flatten d.flatten, Im.inner (trcs c l un ln most ms ps).flatten (trcs c l un ln most ms ps).flatten, rfl, hnp5, hT45, Im.inner_self_nonneg _, by omega, ?_, ?_, ?_, ?_, ?_, ?_, ?_, ?_, ?_, ?_⟩
 ·intro B M P cb mc pc W h1 h2 h3 h4 h5
  refine (c19_ok c r B n cb l un ln most P np pc ps M mc ms W g hc hr h1 h2 h3 h4 h5 hmdl).mono ?_
  rintro en w' ⟨go, e1, _, hom, hb⟩
  exact ⟨go, e1, hom.rd (by rw [trcs_len, hnp]), hb⟩
 ·intro C cc W h
  exact (c48s C np cc _ W (by omega) h).mono fun e w' h => ⟨h.2.1 ⟨by omega, hT45⟩, h.2.2⟩
 ·intro B P D cb pc dc W h1 h2 h3 h4 h5
  refine (c50_ok c r B n cb l un ln most P np pc ps D dc d W g hc hr h1 h2 h3 h4 h5 hdta).mono ?_
  rintro en w' ⟨v, rfl, ho, hb⟩
  obtain ⟨X, xc, rfl, hX⟩ := own_rdI ho
  exact ⟨X, xc, rfl, hX, hb⟩
 ·intro B P D cb pc dc W h2 h3 h4
  rw [← hfl]
  exact c49_ok c r B n cb l un ln most P np pc ps D np dc _ W (by omega) (by omega) (by omega) (fun x hx => Nat.le_trans (hT45 x hx) (by decide)) h2 h3 h4 hTdta
 ·intro B P D cb pc dc W h2 h3 h4
  exact c49_ok c r B n cb l un ln most P np pc ps D np dc _ W (by omega) (by omega) (by omega) (fun x hx => Nat.le_trans (hd45 x hx) (by decide)) h2 h3 h4 hdta
 ·intro B P D cb pc dc W h1 h2 h3 h4 h5
  refine (c50_ok c r B n cb l un ln most P np pc ps D dc _ W g hc hr h1 h2 h3 h4 h5 hTdta).mono ?_
  rintro en w' ⟨v, rfl, ho, hb⟩
  obtain ⟨X, xc, rfl, hX⟩ := own_rdI ho
  exact ⟨X, xc, rfl, hX, hb⟩
 ·intro A B ca cb W h1 h2
  exact c40_ok A B _ ca cb _ _ W hN h1 h2 (hbf _ hTb) (hbf _ hdb)
 ·intro A B ca cb W h1 h2
  rw [hA1]
  exact c40_ok A B n ca cb _ _ W (by omega) h1 h2 hmsb (img_mem hdn hdb (by simp; omega) (by simp; omega))
 ·intro A B ca cb W h1 h2
  exact c40_ok A B _ ca cb _ _ W hN h1 h2 (hbf _ hTb) (hbf _ hTb)
 ·intro A B ca cb W h1 h2
  rw [hA2]
  exact c40_ok A B n ca cb _ _ W (by omega) h1 h2 hmsb (img_mem hdn hTb (by simp [trcs_len]) (by simp; omega))
/-- the image in rows -/
theorem rows_step {IM : List Int} {c k : Nat} : (IM.take (k * c)) ++ ((IM.drop (k * c)).take ((k + 1) * c - k * c)) = IM.take ((k + 1) * c) := by
 have e : (k + 1) * c - k * c = c := by rw [Nat.add_mul, Nat.one_mul]; omega
 rw [e, Nat.add_mul, Nat.one_mul, List.take_add]
/-- a hole beside the other pairs takes its part of the image -/
theorem pair_split {n : Nat} {ds x : List Int} {dss data : List (List Int)} {hs : List Int} (h1 : ds.length = n) (hn : ∀ e, e ∈ dss → e.length = n) (hh : hs.length = n) (hneg : ∀ k, k < n → Im.at0 hs k = -1) (k : Nat) (hk : k < n) :
  Im.at0 (Im.image n [ds] [x]) k + Im.at0 (Im.image n (hs :: dss) ([] :: data)) k = Im.at0 (Im.image n (ds :: dss) (x :: data)) k := by
 unfold Im.image
 have f1 : ∀ y, y ∈ List.zip [ds] [x] → y.1.length = (List.replicate n (0 : Int)).length := by
  intro y hy; have := (List.of_mem_zip hy).1; simp at this; simp [this, h1]
 have f2 : ∀ y, y ∈ List.zip (hs :: dss) ([] :: data) → y.1.length = (List.replicate n (0 : Int)).length := by
  intro y hy
  have := (List.of_mem_zip hy).1
  rcases List.mem_cons.1 this with e | e
  ·rw [e, hh]; simp
  ·rw [hn _ e]; simp
 have f3 : ∀ y, y ∈ List.zip (ds :: dss) (x :: data) → y.1.length = (List.replicate n (0 : Int)).length := by
  intro y hy
  have := (List.of_mem_zip hy).1
  rcases List.mem_cons.1 this with e | e
  ·rw [e, h1]; simp
  ·rw [hn _ e]; simp
 rw [Im.image_fold_at k _ _ (by simpa using hk) f1, Im.image_fold_at k _ _ (by simpa using hk) f2, Im.image_fold_at k _ _ (by simpa using hk) f3]
 simp only [List.zip_cons_cons, List.map_cons, List.sum_cons, List.zip_nil_left, List.map_nil, List.sum_nil]
 have e : Im.pick [] (Im.at0 hs k) = 0 := by unfold Im.pick; rw [hneg k hk]; simp
 rw [e, Im.zeros_at]
 omega
end Go.Proofs.YtdimmlljjmmdbaaGreatDoor
/- A region that draws its order, in which, behind operations that float, two operations are ready at once: both orders are walked. -/
namespace Go
open Go.RowKit
section
variable {P : Program} {ops : Array Oper} {md : Region.Mode} {C : World → Prop} {Q : Exit → Act → World → Prop}
def Region.planS (md : Region.Mode) (ops : Array Oper) (k : Array Bool → Bool) : List (Nat × Bool) → Array Bool → Bool
 | [], listed => k listed
 | (i, true) :: p, listed => (Region.ready md ops listed).contains i && Region.free md ops listed i && Region.planS md ops k p (listed.setIfInBounds i true)
 | (_, false) :: _, _ => false
theorem wpAnyT_planS (hCg : ∀ w w', C w → Below w.heap.size w w' → C w') (hs : Region.noSelect ops = true) (hQ : ∀ c a d v w, Q (.panic c) (a.put d v) w → Q (.panic c) a w) (m : Nat) (k : Array Bool → Bool) (X : Exit → Act → World → Prop)
  (hk : ∀ listed a w, k listed = true → C w → X .normal a w → wpAnyT P md ops C Q m listed a w) :
  ∀ (p : List (Nat × Bool)) (listed : Array Bool) (a : Act) (w : World), C w → Region.planS md ops k p listed = true → wpPlan P ops C X p a w → wpAnyT P md ops C Q (p.length + m) listed a w
 | [], listed, a, w, hC, hB, h => by
  rw [List.length_nil, Nat.zero_add]
  exact hk listed a w hB hC h
 | (i, true) :: p, listed, a, w, hC, hB, h => by
  obtain ⟨o, v, ho, hy, hK⟩ := h
  simp only [Region.planS, Bool.and_eq_true] at hB
  obtain ⟨⟨hr, hf⟩, hB'⟩ := hB
  have hr' : i ∈ Region.ready md ops listed := by simpa using hr
  rw [List.length_cons, Nat.add_right_comm]
  exact wpAnyT_first hCg ho (Region.noSelect_spec hs) hQ (p.length + m) listed a w (Region.free_spec ho hf) hr' hy hC fun w' hw' => wpAnyT_planS hCg hs hQ m k X hk p _ _ w' (hCg _ _ hC hw') hB' (hK w' hw')
 | (_, false) :: _, _, _, _, _, hB, _ => by simp [Region.planS] at hB
/-- one of two operations first, whichever it is -/
theorem wpAnyT_fork (hCg : ∀ w w', C w → Below w.heap.size w w' → C w') (hs : Region.noSelect ops = true) (hQ : ∀ c a d v w, Q (.panic c) (a.put d v) w → Q (.panic c) a w) (i j : Nat) (p1 p2 : List (Nat × Bool)) (hlen : p1.length = p2.length)
  (listed : Array Bool) (a : Act) (w : World) (hC : C w) (hr : Region.ready md ops listed = [i, j]) (hB1 : Region.planB md ops p1 (listed.setIfInBounds i true) = true) (hB2 : Region.planB md ops p2 (listed.setIfInBounds j true) = true)
  (h1 : wpPlan P ops C Q ((i, false) :: p1) a w) (h2 : wpPlan P ops C Q ((j, false) :: p2) a w) : wpAnyT P md ops C Q (p1.length + 1) listed a w := by
 have one : ∀ (q : Nat) (p : List (Nat × Bool)), p.length = p1.length → Region.planB md ops p (listed.setIfInBounds q true) = true → wpPlan P ops C Q ((q, false) :: p) a w →
   wpOp P ops Q q (fun a' w' => C w' ∧ ∀ w'', Below w'.heap.size w' w'' → wpAnyT P md ops C Q p1.length (listed.setIfInBounds q true) a' w'') a w := by
  intro q p hl hB h
  obtain ⟨o, ho, h⟩ := h
  unfold wpOp
  rw [ho]
  show if Region.wanted o (yielded ops a.tmps) = true then _ else _
  split
  ·rename_i hw
   rw [if_pos hw] at h
   refine .inl (Oper.wp_mono (fun a' w' h' => ⟨h'.1, fun w'' hw'' => ?_⟩) h)
   rw [← hl]
   exact wpAnyT_plan hCg hs hQ p _ a' w'' (hCg _ _ h'.1 hw'') hB (h'.2 w'' hw'')
  ·rename_i hw
   rw [if_neg hw] at h
   refine ⟨hC, fun w'' hw'' => ?_⟩
   rw [← hl]
   exact wpAnyT_plan hCg hs hQ p _ _ w'' (hCg _ _ hC hw'') hB (h w'' hw'')
 refine ⟨fun h => (by rw [hr] at h; cases h), fun q hq => ?_⟩
 rw [hr] at hq
 rcases List.mem_cons.1 hq with rfl | hq
 ·exact one q p1 rfl hB1 h1
 ·obtain rfl := List.mem_singleton.1 hq
  exact one q p2 hlen.symm hB2 h2
theorem wp_region_planV {id : Nat} {a : Act} {W : World} (p : List (Nat × Bool)) (i j : Nat) (p1 p2 : List (Nat × Bool)) (B : Nat) (hm : P.follows .mixedOrders = true)
  (hB : (p.length + (p1.length + 1) == ops.size && p1.length == p2.length && Region.noSelect ops && Region.planS .any ops (fun listed => Region.ready .any ops listed == [i, j] && Region.planB .any ops p1 (listed.setIfInBounds i true) && Region.planB .any ops p2 (listed.setIfInBounds j true)) p (Array.replicate ops.size false)) = true) (hBW : B ≤ W.heap.size)
  (hQ : ∀ c a d v w, Q (.panic c) (a.put d v) w → Q (.panic c) a w)
  (h : wpPlanA P ops (Below B W) (fun _ a w => wpPlan P ops (Below B W) Q ((i, false) :: p1) a w ∧ wpPlan P ops (Below B W) Q ((j, false) :: p2) a w) p a W) : (Code.region id ops true).wp P Q a W := by
 simp only [Bool.and_eq_true, beq_iff_eq] at hB
 obtain ⟨⟨⟨hlen, hl2⟩, hs⟩, hP⟩ := hB
 have hCg : ∀ w w', Below B W w → Below w.heap.size w w' → Below B W w' := fun w w' h1 h2 => h1.trans (h2.mono (Nat.le_trans hBW h1.size))
 refine wp_region_any hm (wpAny_of_T (C := Below B W) _ _ _ _ ?_)
 have := wpAnyT_planS (P := P) (Q := Q) (C := Below B W) (md := .any) (ops := ops) hCg hs hQ (p1.length + 1) _ _ (fun listed a w hk hC hX => by
   simp only [Bool.and_eq_true, beq_iff_eq] at hk
   exact wpAnyT_fork hCg hs hQ i j p1 p2 hl2 listed a w hC hk.1.1 hk.1.2 hk.2 hX.1 hX.2) p (Array.replicate ops.size false) a { W with drawn := W.drawn + 1 } ((Below.refl B W).drew) hP (h _ ((Below.refl _ W).drew))
 rw [hlen] at this
 exact this
theorem wpPlan_toA {l : List Oper} {p : List (Nat × Bool)} {a : Act} {w : World} (h : wpPlanA P l.toArray C Q p a w) : wpPlan P l.toArray C Q p a w := h w (Below.refl _ _)
end
end Go
namespace Go.Proofs.YtdimmlljjmmdbaaGreatDoor
open Go.RowKit Go.Shelf
set_option maxHeartbeats 8000000
set_option maxRecDepth 100000
/-- where a slice behind its first element begins -/
def offS (size cap o : Nat) : Nat := if cap = 1 then o else o + size
theorem slice_one (t e : TypeId) (hu : Tryz.prog.underlying t = some (.slice e)) (size : Nat) (hs : ∀ W, (sizeOf e).run Tryz.prog W = .ok size W) (b o n cap : Nat) (h1 : 1 ≤ n) (h2 : n ≤ cap) (W : World) :
  (Instr.slice t (.slice (some ⟨b, o, none⟩) n cap) none (some (.int .i64 1)) none).run Tryz.prog W = .ok (.slice (some ⟨b, o, none⟩) 1 cap) W := by
 have a3 : (1 : Int) ≤ (cap : Int) := by omega
 simp [Instr.slice, run_underlying hu, Instr.sliceBounds, run_sliceBound _ _ _ _ (by omega : (0 : Int) ≤ 1) a3, hs, go_sem]
 try omega
theorem slice_rest (t e : TypeId) (hu : Tryz.prog.underlying t = some (.slice e)) (size : Nat) (hs : ∀ W, (sizeOf e).run Tryz.prog W = .ok size W) (b o n cap : Nat) (h1 : 1 ≤ n) (h2 : n ≤ cap) (W : World) :
  (Instr.slice t (.slice (some ⟨b, o, none⟩) n cap) (some (.int .i64 1)) none none).run Tryz.prog W = .ok (.slice (some ⟨b, offS size cap o, none⟩) (n - 1) (cap - 1)) W := by
 have a3 : (1 : Int) ≤ (n : Int) := by omega
 simp [Instr.slice, run_underlying hu, Instr.sliceBounds, run_sliceBound _ _ _ _ (by omega : (0 : Int) ≤ 1) a3, hs, go_sem]
 unfold offS
 by_cases h : cap = 1 <;> simp [h] <;> (intro h2; exact absurd h2 (by omega))
theorem size101 (W : World) : (sizeOf 101).run Tryz.prog W = .ok 3 W := by go_simp
theorem size22 (W : World) : (sizeOf 22).run Tryz.prog W = .ok 1 W := by go_simp
theorem RdS.rest {w : World} {size b o n cap : Nat} {cs : List Value} (h : RdS w size (some ⟨b, o, none⟩) n cs) (h1 : 1 ≤ n) (h2 : n ≤ cap) : RdS w size (some ⟨b, offS size cap o, none⟩) (n - 1) (cs.drop size) := by
 obtain ⟨hl, h⟩ := h
 obtain ⟨m, rfl⟩ : ∃ m, n = m + 1 := ⟨n - 1, by omega⟩
 refine ⟨by rw [List.length_drop, hl, Nat.add_sub_cancel, Nat.add_mul, Nat.one_mul]; omega, fun h0 => ?_⟩
 obtain ⟨b', o', e, hb, hc⟩ := h (by omega)
 cases e
 refine ⟨b, o + size, by unfold offS; rw [if_neg (by omega)], hb, fun j hj => ?_⟩
 rw [List.length_drop] at hj
 have h3 := hc (size + j) (by omega)
 rw [Nat.add_assoc, h3, List.getElem?_drop]
theorem RdS.one {w : World} {size b o n : Nat} {cs : List Value} (h : RdS w size (some ⟨b, o, none⟩) n cs) (h1 : 1 ≤ n) : RdS w size (some ⟨b, o, none⟩) 1 (cs.take size) := by
 obtain ⟨hl, h⟩ := h
 have h3 : size ≤ n * size := Nat.le_mul_of_pos_left size h1
 refine ⟨by rw [List.length_take]; omega, fun h0 => ?_⟩
 obtain ⟨b', o', e, hb, hc⟩ := h (by omega)
 cases e
 refine ⟨b, o, rfl, hb, fun j hj => ?_⟩
 rw [List.length_take] at hj
 rw [hc j (by omega), List.getElem?_take, if_pos (by omega)]
theorem RdP.one {w : World} {b o n : Nat} {p0 : Pr} {pt : List Pr} (h : RdP w (some ⟨b, o, none⟩) n (p0 :: pt)) : RdP w (some ⟨b, o, none⟩) 1 [p0] := by
 have hl := h.len
 have h1 := RdS.one h (by simp at hl; omega)
 have e : (List.flatMap Pr.enc (p0 :: pt)).take 3 = List.flatMap Pr.enc [p0] := by
  rw [List.flatMap_cons, List.take_append_of_le_length (Nat.le_of_eq (by rfl)), List.take_of_length_le (Nat.le_of_eq (by rfl))]; simp
 rw [e] at h1
 exact h1
theorem RdP.rest {w : World} {b o n cap : Nat} {p0 : Pr} {pt : List Pr} (h : RdP w (some ⟨b, o, none⟩) n (p0 :: pt)) (hc : n ≤ cap) : RdP w (some ⟨b, offS 3 cap o, none⟩) (n - 1) pt := by
 have hl := h.len
 have h1 := RdS.rest h (by simp at hl; omega) hc
 have e : (List.flatMap Pr.enc (p0 :: pt)).drop 3 = List.flatMap Pr.enc pt := by
  rw [List.flatMap_cons, List.drop_append_of_le_length (Nat.le_of_eq (by rfl)), List.drop_of_length_le (Nat.le_of_eq (by rfl))]; simp
 rw [e] at h1
 exact h1
theorem RdD.one {w : World} {b o n : Nat} {x0 : List Int} {dt : List (List Int)} (h : RdD w (some ⟨b, o, none⟩) n (x0 :: dt)) : RdD w (some ⟨b, o, none⟩) 1 [x0] := by
 have hl := h.len
 obtain ⟨hs, h1, h2, h3⟩ := h
 refine ⟨hs.take 1, RdS.one h1 (by simp at hl; omega), rfl, fun k x hx => ?_⟩
 cases k with
 | zero =>
  obtain ⟨a, cap, e, hr⟩ := h3 0 x (by simpa using hx)
  exact ⟨a, cap, by rw [List.getElem?_take, if_pos (by omega)]; exact e, hr⟩
 | succ k => simp at hx
theorem RdD.rest {w : World} {b o n cap : Nat} {x0 : List Int} {dt : List (List Int)} (h : RdD w (some ⟨b, o, none⟩) n (x0 :: dt)) (hc : n ≤ cap) : RdD w (some ⟨b, offS 1 cap o, none⟩) (n - 1) dt := by
 have hl := h.len
 obtain ⟨hs, h1, h2, h3⟩ := h
 refine ⟨hs.drop 1, RdS.rest h1 (by simp at hl; omega) hc, by simp at hl; omega, fun k x hx => ?_⟩
 obtain ⟨a, cap, e, hr⟩ := h3 (k + 1) x (by simpa using hx)
 exact ⟨a, cap, by rw [List.getElem?_drop, Nat.add_comm]; exact e, hr⟩
theorem surv_of {c r : Int} {l : List Int} {un len most : Int} {ps qs : List Pr} (h : Mo.surv c r l un len most ps = 0) (hq : qs.length ≤ 16) (hqs : ∀ q, q ∈ qs → ∃ p, p ∈ ps ∧ q.s = p.s ∧ q.r = p.r) : Mo.surv c r l un len most qs = 0 := by
 unfold Mo.surv Mo.surv0 at h ⊢
 have h1 := Mo.first_zero h
 have h2 := Mo.first_zero (h1 _ List.mem_cons_self)
 have h3 := Mo.first_zero (h1 (Mo.first (ps.map (Mo.pair l.length))) (by simp))
 refine first2 (Mo.first_all ?_) (Mo.first_all ?_)
 ·intro x hx
  simp only [List.mem_cons, List.not_mem_nil, or_false] at hx
  rcases hx with rfl | rfl | rfl | rfl | rfl
  ·exact h2 _ (by simp)
  ·exact h2 (Mo.range un 1 1000) (by simp)
  ·exact h2 (Mo.range len 1 256) (by simp)
  ·exact h2 (Mo.range most 0 256) (by simp)
  ·exact (Mo.when_zero (by decide)).2 (by simp; omega)
 ·intro x hx
  obtain ⟨q, hq, rfl⟩ := List.mem_map.1 hx
  obtain ⟨p, hp, e1, e2⟩ := hqs q hq
  have := h3 (Mo.pair l.length p) (List.mem_map.2 ⟨p, hp, rfl⟩)
  unfold Mo.pair at this ⊢
  rw [e1, e2]; exact this
theorem dta_of {c r : Int} {l : List Int} {un len most : Int} {ps : List Pr} {d : List (List Int)} (h : Mo.surv c r l un len most ps = 0) (h1 : d.length = ps.length) (h2 : Mo.Shp len ps d) (h3 : ∀ x, x ∈ d → ∀ y, y ∈ x → -1048576 ≤ y ∧ y ≤ 1048576) : Mo.dta c r l un len most ps d = 0 := by
 unfold Mo.dta
 refine first2 h ?_
 rw [Mo.dat_ok h1 h2]
 exact Mo.first_all (fun x hx => by
  obtain ⟨row, hr, rfl⟩ := List.mem_map.1 hx
  exact Mo.allw_ok.2 (fun y hy => h3 row hr y hy))
/-- the first pair alone, and the others alone -/
theorem adj_pairs (c r n np : Nat) (l : List Int) (un : Int) (ln : Nat) (most : Int) (p0 : Pr) (pt : List Pr) (x0 : List Int) (dt : List (List Int)) (hc : c ≤ 16) (hr : r ≤ 16) (g : Im.Gr c r l) (hn : l.length = n) (hnp : (p0 :: pt).length = np) (hdta : Mo.dta c r l un ln most (p0 :: pt) (x0 :: dt) = 0) :
  ∃ (I1 I2 : List Int), (∀ k, k < n → Im.at0 I1 k + Im.at0 I2 k = Im.at0 (Im.image n ((p0 :: pt).map (dlp c l un ln most)) (x0 :: dt)) k ∧ -16777216 ≤ Im.at0 (Im.image n ((p0 :: pt).map (dlp c l un ln most)) (x0 :: dt)) k ∧ Im.at0 (Im.image n ((p0 :: pt).map (dlp c l un ln most)) (x0 :: dt)) k ≤ 16777216) ∧
   (∀ (B P D : Option Addr) (cb pc dc : Nat) (W : World), 1 ≤ pc → RdI W B n l → RdP W P 1 [p0] → RdD W D 1 [x0] → Steps W → Calls Tryz.prog 50 #[.agg #[.int .i64 c, .int .i64 r, .slice B n cb], .agg #[.int .i64 un, .int .i64 (ln : Nat), .int .i64 most, .slice P 1 pc], .slice D 1 dc] W fun en w' => ∃ F fc, en = .returned (.tuple #[.slice F n fc, .int .i64 0]) ∧ RdI w' F n I1 ∧ Below W.heap.size W w') ∧
   (∀ (B P D : Option Addr) (cb pc dc : Nat) (W : World), np ≤ pc → RdI W B n l → RdP W P np (⟨p0.s, p0.r, true⟩ :: pt) → RdD W D np ([] :: dt) → Steps W → Calls Tryz.prog 50 #[.agg #[.int .i64 c, .int .i64 r, .slice B n cb], .agg #[.int .i64 un, .int .i64 (ln : Nat), .int .i64 most, .slice P np pc], .slice D np dc] W fun en w' => ∃ F fc, en = .returned (.tuple #[.slice F n fc, .int .i64 0]) ∧ RdI w' F n I2 ∧ Below W.heap.size W w') := by
 obtain ⟨hS, hdl, hds, hdb⟩ := Mo.dta_zero hdta
 obtain ⟨_, hu, hlnb, _, h16, hpr⟩ := surv_ok hS
 simp only [List.length_cons] at hnp h16 hdl
 have hS1 : Mo.surv c r l un ln most [p0] = 0 := surv_of hS (by simp) (fun q hq => ⟨p0, by simp, by rw [List.mem_singleton.1 hq], by rw [List.mem_singleton.1 hq]⟩)
 have hS2 : Mo.surv c r l un ln most (⟨p0.s, p0.r, true⟩ :: pt) = 0 := surv_of hS (by simp; omega) (fun q hq => by
  rcases List.mem_cons.1 hq with rfl | h
  ·exact ⟨p0, by simp, rfl, rfl⟩
  ·exact ⟨q, by simp [h], rfl, rfl⟩)
 have hD1 : Mo.dta c r l un ln most [p0] [x0] = 0 := dta_of hS1 rfl (fun j p x hp hx => by
  cases j with
  | zero => simp at hp hx; subst hp; subst hx; exact hds 0 p0 x0 rfl rfl
  | succ j => simp at hp) (fun x hx => by rw [List.mem_singleton.1 hx]; exact hdb x0 (by simp))
 have hD2 : Mo.dta c r l un ln most (⟨p0.s, p0.r, true⟩ :: pt) ([] :: dt) = 0 := dta_of hS2 (by simp; omega) (fun j p x hp hx => by
  cases j with
  | zero => simp at hp hx; subst hp; subst hx; simp [Mo.okT]
  | succ j => simp at hp hx; exact hds (j + 1) p x (by simpa using hp) (by simpa using hx)) (fun x hx y hy => by
   rcases List.mem_cons.1 hx with rfl | h
   ·cases hy
   ·exact hdb x (by simp [h]) y hy)
 have hdn : ∀ (qs : List Pr) (ds : List Int), ds ∈ qs.map (dlp c l un ln most) → ds.length = n := by
  intro qs ds hds; obtain ⟨p, _, rfl⟩ := List.mem_map.1 hds; rw [dlp_len, hn]
 refine ⟨Im.image n ([p0].map (dlp c l un ln most)) [x0], Im.image n ((⟨p0.s, p0.r, true⟩ :: pt).map (dlp c l un ln most)) ([] :: dt), ?_, ?_, ?_⟩
 ·intro k hk
  refine ⟨?_, image_le (hdn _) hdb (by simp; omega) (by simp; omega) hk⟩
  exact pair_split (by rw [dlp_len, hn]) (hdn pt) (by rw [dlp_len, hn]) (fun j hj => dlp_hole rfl (by rw [hn]; exact hj)) k hk
 ·intro B P D cb pc dc W h1 h2 h3 h4 h5
  refine (c50_ok c r B n cb l un ln most P 1 pc [p0] D dc [x0] W g hc hr h1 h2 h3 h4 h5 hD1).mono ?_
  rintro en w' ⟨v, rfl, ho, hb⟩
  obtain ⟨X, xc, rfl, hX⟩ := own_rdI ho
  exact ⟨X, xc, rfl, hX, hb⟩
 ·intro B P D cb pc dc W h1 h2 h3 h4 h5
  refine (c50_ok c r B n cb l un ln most P np pc _ D dc _ W g hc hr h1 h2 h3 h4 h5 hD2).mono ?_
  rintro en w' ⟨v, rfl, ho, hb⟩
  obtain ⟨X, xc, rfl, hX⟩ := own_rdI ho
  exact ⟨X, xc, rfl, hX, hb⟩
/-- an append of pairs to own memory, as one operation -/
theorem info101 : (Tryz.prog.info? 101).map (fun i => (i.zero, i.size, i.bytes)) = some (some (.agg #[.int .i64 0, .int .i64 0, .bool false]), 3, 24) := by kernel_rfl
theorem run_app_none3 {w : World} (t ty e : TypeId) (i : TypeInfo) (ht : Tryz.prog.underlying t = some (.slice e)) (hi : Tryz.prog.info? e = some i) {base size : Nat} (v : Value) (n : Nat) (xs : List Value) (hown : w.ownsRow base e size v n xs) (c : Nat) :
  (Builtin.append_ #[t, t] ty #[v, .slice none 0 c]).run Tryz.prog w = .ok v w := by
 rcases hown.2 with ⟨rfl, rfl⟩ | ⟨g, cap, cur, rfl, _, _, hnc, _⟩
 ·simp [Builtin.append_, run_underlying ht, sizeOf, typeInfo, hi, Builtin.lenOf, Builtin.firstCells]
 ·simp [Builtin.append_, run_underlying ht, sizeOf, typeInfo, hi, Builtin.lenOf, Builtin.firstCells, hnc, storeCells]
theorem own_base3 {w : World} {base e size : Nat} {v : Value} {n : Nat} {xs : List Value} (h : w.ownsRow base e size v n xs) : ∀ g, v.ownBlock = some g → base ≤ g := by
 intro g hg
 rcases h.2 with ⟨rfl, _⟩ | ⟨g', cap, cur, rfl, hb, _⟩
 ·cases hg
 ·cases hg; exact hb
theorem wp_appP {o : Oper} {a : Act} {w : World} {K : Act → World → Prop} {Q : Exit → Act → World → Prop} (s x : Operand)
  (ho : o.op = .call { callee := .builtin .append, args := #[s, x], argTypes := #[25, 25] })
  (base : Nat) (v : Value) (n : Nat) (xs ys : List Pr) (hs : a.eval s = v) (hown : w.ownsRow base 101 3 v n (xs.flatMap Pr.enc))
  (A : Option Addr) (m c : Nat) (hx : a.eval x = .slice A m c) (H : RdP w A m ys) (hnm : n + m ≤ 1000000) (hbase : base ≤ w.heap.size)
  (h : ∀ v' w', w'.ownsRow base 101 3 v' (n + m) ((xs ++ ys).flatMap Pr.enc) → Below base w w' → K (a.put o.dst v') w') : o.wp Tryz.prog a w K Q := by
 obtain ⟨i0, hi, hz0, hz1, hz2⟩ := info_parts info101
 have e : (xs ++ ys).flatMap Pr.enc = xs.flatMap Pr.enc ++ ys.flatMap Pr.enc := by simp
 cases A with
 | none =>
  obtain rfl : m = 0 := RdS.none0 H
  have hy : ys.flatMap Pr.enc = [] := List.eq_nil_of_length_eq_zero (by simpa using H.1)
  have hr := run_app_none3 25 o.type 101 i0 Tryz.underlying25 hi v n _ hown c
  have := h v w (by rw [e, hy, Nat.add_zero, List.append_nil]; exact hown) (Below.refl _ _)
  unfold Oper.wp
  simp only [execOp, ho, resolve, invoke, builtin, Sem.run_bind, Sem.run_pure, Result.andThen_ok, List.map_toArray, List.map_cons, List.map_nil, hs, hx, hr]
  exact this
 | some ad =>
  refine wp_append_own w s x 25 ho base 101 i0 (.agg #[.int .i64 0, .int .i64 0, .bool false]) 3 24 Tryz.underlying25 hi hz0 hz1 hz2 rfl (by decide) v n _ hs hown ad m c _ hx (by rw [H.1]) (RdS.news H (by omega)) ?_ (by unfold maxLen; omega) ?_ hbase (fun v' w' h2 h3 _ => h v' w' (by rw [e]; exact h2) ((Below.refl _ _).grown h3 hbase (own_base3 hown)))
  ·intro u hu; simp [Pr.enc] at hu; obtain ⟨q, _, rfl | rfl | rfl⟩ := hu <;> rfl
  ·omega
end Go.Proofs.YtdimmlljjmmdbaaGreatDoor
namespace Go.Proofs.YtdimmlljjmmdbaaGreatDoor
open Go.RowKit Go.Shelf
set_option maxHeartbeats 8000000
set_option maxRecDepth 100000
/-- a row of one slice without elements -/
def FreshN (B : Nat) (v : Value) (w : World) : Prop := ∃ g : Nat, v = .slice (some ⟨g, 0, none⟩) 1 1 ∧ B ≤ g ∧ w.heap[g]? = some (.cells #[.slice none 0 0] 22 (0, 0))
theorem FreshN.below {B : Nat} {v : Value} {w w' : World} (h : FreshN B v w) (hb : Below w.heap.size w w') : FreshN B v w' := by
 obtain ⟨g, h1, h2, h3⟩ := h
 exact ⟨g, h1, h2, blkb h3 hb⟩
theorem rdD_cons {w w' : World} {X : Option Addr} {n : Nat} {hs : List Value} {dt : List (List Int)} (h1 : RdS w' 1 X (1 + n) ([.slice none 0 0] ++ hs)) (hl : dt.length = n) (h3 : ∀ (k : Nat) (x : List Int), dt[k]? = some x → ∃ a cap, hs[k]? = some (.slice a x.length cap) ∧ RdI w a x.length x) (hb : Below w.heap.size w w') : RdD w' X (1 + n) ([] :: dt) := by
 refine ⟨_, h1, by simp [hl]; omega, fun k x hx => ?_⟩
 cases k with
 | zero =>
  obtain rfl : [] = x := by simpa using hx
  exact ⟨none, 0, rfl, ⟨rfl, fun h => absurd h (Nat.lt_irrefl _)⟩⟩
 | succ k =>
  obtain ⟨a, cap, e, hr⟩ := h3 k x (by simpa using hx)
  exact ⟨a, cap, by simpa using e, hr.below hb⟩
theorem wp_app_rows {o : Oper} {a : Act} {w : World} {K : Act → World → Prop} {Q : Exit → Act → World → Prop} (s x : Operand)
  (ho : o.op = .call { callee := .builtin .append, args := #[s, x], argTypes := #[31, 31] }) (g : Nat) (hN : w.heap[g]? = some (.cells #[.slice none 0 0] 22 (0, 0)))
  (hs : a.eval s = .slice (some ⟨g, 0, none⟩) 1 1) (A : Option Addr) (m c : Nat) (hx : a.eval x = .slice A m c) (dt : List (List Int)) (H : RdD w A m dt) (hm : m ≤ 1000000)
  (h : ∀ X xc w', RdD w' X (1 + m) ([] :: dt) → 1 + m ≤ xc → Below w.heap.size w w' → K (a.put o.dst (.slice X (1 + m) xc)) w') : o.wp Tryz.prog a w K Q := by
 obtain ⟨i0, hi, hz0, hz1, hz2⟩ := info_parts infoSl
 obtain ⟨rows, h1, h2, h3⟩ := H
 have hc0 : w.cell? ⟨g, 0, none⟩ = some (.slice none 0 0) := cell_at hN rfl
 have hg := cell_lt hc0
 have hone : ∀ u ∈ rows, u.oneCell' = true := by
  intro u hu
  obtain ⟨j, hj, e⟩ := List.getElem_of_mem hu
  have hjd : j < dt.length := by have := h1.1; omega
  obtain ⟨a9, c9, e9, _⟩ := h3 j dt[j] (List.getElem?_eq_getElem hjd)
  rw [List.getElem?_eq_getElem hj, e] at e9
  rw [Option.some.inj e9]; rfl
 have hown : w.ownsRow 0 22 1 (.slice (some ⟨g, 0, none⟩) 1 1) 1 [.slice none 0 0] := ⟨rfl, .inr ⟨g, 1, #[.slice none 0 0], rfl, Nat.zero_le _, hN, Nat.le_refl _, by unfold maxLen; omega, rfl, rfl⟩⟩
 by_cases hm0 : m = 0
 ·subst hm0
  have hr0 : rows = [] := List.eq_nil_of_length_eq_zero (by simpa using h1.1)
  have hd0 : dt = [] := List.eq_nil_of_length_eq_zero h2
  subst hr0 hd0
  have hr : (Builtin.append_ #[31, 31] o.type #[.slice (some ⟨g, 0, none⟩) 1 1, .slice A 0 c]).run Tryz.prog w = .ok (.slice (some ⟨g, 0, none⟩) 1 1) w := by
   cases A with
   | none => exact run_app_none3 31 o.type 22 i0 Tryz.underlying31 hi _ 1 _ hown c
   | some ad =>
    have := run_append_room_cells (P := Tryz.prog) w 31 o.type 22 i0 Tryz.underlying31 hi g 0 1 1 ad 0 c [] (by simp) (by simp) (by simp) (by omega) (by simp) (by simp)
    simpa [World.setCells] using this
  have hk := h (some ⟨g, 0, none⟩) 1 w ⟨[.slice none 0 0], RdS.of_block (cs := [.slice none 0 0]) hN rfl, rfl, fun k x hx => by
   cases k with
   | zero =>
    obtain rfl : [] = x := by simpa using hx
    exact ⟨none, 0, rfl, ⟨rfl, fun h => absurd h (Nat.lt_irrefl _)⟩⟩
   | succ k => simp at hx⟩ (Nat.le_refl _) (Below.refl _ _)
  unfold Oper.wp
  simp only [execOp, ho, resolve, invoke, builtin, Sem.run_bind, Sem.run_pure, Result.andThen_ok, List.map_toArray, List.map_cons, List.map_nil, hs, hx, hr]
  exact hk
 ·cases A with
  | none => exact absurd (RdS.none0 h1) hm0
  | some ad =>
   obtain ⟨v', w', hrun, r1, r2⟩ := run_append_arg_grows (P := Tryz.prog) w 31 o.type 22 i0 (.slice none 0 0) 1 24 Tryz.underlying31 hi hz0 hz1 hz2 rfl (by decide) ⟨g, 0, none⟩ 1 1 [.slice none 0 0] rfl (fun j u hu => by
    cases j with
    | zero =>
     obtain rfl : Value.slice none 0 0 = u := by simpa using hu
     simpa [Addr.add] using hc0
    | succ j => simp at hu) ad m c rows (by rw [h1.1]) (RdS.news h1 (by decide)) (by omega) (by unfold maxLen; omega) (by omega)
   have hb : Below w.heap.size w w' := (Below.refl _ _).grown r2 (Nat.le_refl _) (fun g hg => by cases hg)
   obtain ⟨X, xc, rfl, hX, hxc, _⟩ := own_form r1
   have hk := h X xc w' (rdD_cons hX h2 h3 hb) hxc hb
   unfold Oper.wp
   simp only [execOp, ho, resolve, invoke, builtin, Sem.run_bind, Sem.run_pure, Result.andThen_ok, List.map_toArray, List.map_cons, List.map_nil, hs, hx, hrun]
   exact hk
end Go.Proofs.YtdimmlljjmmdbaaGreatDoor
namespace Go.Proofs.YtdimmlljjmmdbaaGreatDoor
open Go.RowKit Go.Shelf
set_option maxHeartbeats 8000000
set_option maxRecDepth 100000
theorem first_two (a b c : Int) : Mo.first [Mo.first [a, b], c] = Mo.first [a, b, c] := by
 by_cases ha : a = 0
 ·subst ha; simp [Mo.first]
  by_cases hb : b = 0
  ·subst hb; simp
  ·simp [hb]
 ·simp [Mo.first, ha]
theorem first_mdl (a b : Int) : Mo.first [a, b] = if a ≠ 0 then a else b := by
 by_cases ha : a = 0
 ·subst ha; simp [Mo.first]
  intro h; exact h.symm
 ·simp [Mo.first, ha]
theorem c23 (c r : Int) (A : Option Addr) (n cap : Nat) (l : List Int) (un len most : Int) (P : Option Addr) (np capp : Nat) (ps : List Pr) (M : Option Addr) (m capm : Nat) (ms : List Int) (w : World) (hl : n ≤ 1000000) (hp : np ≤ 1000000) (hm : m ≤ 1000000) (H : RdI w A n l) (HP : RdP w P np ps) (HM : RdI w M m ms) :
  Calls Tryz.prog 23 #[.agg #[.int .i64 c, .int .i64 r, .slice A n cap], .agg #[.int .i64 un, .int .i64 len, .int .i64 most, .slice P np capp], .slice M m capm] w fun en w' => en = .returned (.int .i64 (Mo.mdl c r l un len most ps ms)) ∧ Below w.heap.size w w' := by
 have HLN := Lib.hid H.len
 have HMN := Lib.hid HM.len
 obtain ⟨X, hX⟩ : ∃ X, X = Mo.mdl c r l un len most ps ms := ⟨_, rfl⟩
 rw [← hX]
 have HX : Hid (X = if Mo.surv c r l un len most ps ≠ 0 then Mo.surv c r l un len most ps else Mo.first [Mo.when ((m : Int) != (n : Int)) 2, Mo.allw ms (-1000) 1000]) := Lib.hid (by rw [hX]; unfold Mo.mdl; rw [first_mdl, HMN.out, HLN.out])
 clear hX
 obtain ⟨w0, hW⟩ : ∃ W, W = (w.alloc (Obj.cells #[.int .i64 c, .int .i64 r, .slice A n cap] 24)).alloc (Obj.cells #[.int .i64 un, .int .i64 len, .int .i64 most, .slice P np capp] 27) := ⟨_, rfl⟩
 have hT0 : w0.heap[w.heap.size]? = some (.cells #[.int .i64 c, .int .i64 r, .slice A n cap] 24 (0, 0)) := by rw [hW]; exact heap_old (by simp <;> omega) (heap_new (by simp))
 have hT1 : w0.heap[w.heap.size + 1]? = some (.cells #[.int .i64 un, .int .i64 len, .int .i64 most, .slice P np capp] 27 (0, 0)) := by rw [hW]; exact heap_new (by simp)
 have hB0 : Below w.heap.size w w0 := by rw [hW]; exact (((Below.refl _ _).alloc (by first | omega | (simp <;> omega)) _).alloc (by first | omega | (simp <;> omega)) _)
 replace H := H.below hB0
 replace HP := HP.below hB0
 replace HM := HM.below hB0
 go_enter Tryz.func23, Tryz.ntmps23
 go_wp2_with fail
 rw [← hW]
 clear hW
 have qhT0_0 : w0.cell? ⟨w.heap.size, 0, none⟩ = some (.int .i64 c) := cell_at hT0 rfl
 have qhT0_1 : w0.cell? ⟨w.heap.size, 1, none⟩ = some (.int .i64 r) := cell_at hT0 rfl
 have qhT0_2 : w0.cell? ⟨w.heap.size, 2, none⟩ = some (.slice A n cap) := cell_at hT0 rfl
 have qhT1_0 : w0.cell? ⟨w.heap.size + 1, 0, none⟩ = some (.int .i64 un) := cell_at hT1 rfl
 have qhT1_1 : w0.cell? ⟨w.heap.size + 1, 1, none⟩ = some (.int .i64 len) := cell_at hT1 rfl
 have qhT1_2 : w0.cell? ⟨w.heap.size + 1, 2, none⟩ = some (.int .i64 most) := cell_at hT1 rfl
 have qhT1_3 : w0.cell? ⟨w.heap.size + 1, 3, none⟩ = some (.slice P np capp) := cell_at hT1 rfl
 go_wp2_with fail
 refine (c26 c r A n cap l un len most P np capp ps _ hl hp H HP).mono ?_
 rintro e w1 ⟨rfl, hb⟩
 clear qhT0_0 qhT0_1 qhT0_2 qhT1_0 qhT1_1 qhT1_2 qhT1_3
 have hS := hb
 have hB1 := hB0.call hS rfl
 replace hT0 := blkb hT0 hS
 replace hT1 := blkb hT1 hS
 replace H := H.below hS
 replace HP := HP.below hS
 replace HM := HM.below hS
 clear hS hB0
 have qhT0_0 : w1.cell? ⟨w.heap.size, 0, none⟩ = some (.int .i64 c) := cell_at hT0 rfl
 have qhT0_1 : w1.cell? ⟨w.heap.size, 1, none⟩ = some (.int .i64 r) := cell_at hT0 rfl
 have qhT0_2 : w1.cell? ⟨w.heap.size, 2, none⟩ = some (.slice A n cap) := cell_at hT0 rfl
 have qhT1_0 : w1.cell? ⟨w.heap.size + 1, 0, none⟩ = some (.int .i64 un) := cell_at hT1 rfl
 have qhT1_1 : w1.cell? ⟨w.heap.size + 1, 1, none⟩ = some (.int .i64 len) := cell_at hT1 rfl
 have qhT1_2 : w1.cell? ⟨w.heap.size + 1, 2, none⟩ = some (.int .i64 most) := cell_at hT1 rfl
 have qhT1_3 : w1.cell? ⟨w.heap.size + 1, 3, none⟩ = some (.slice P np capp) := cell_at hT1 rfl
 clear hb
 obtain ⟨E, hE⟩ : ∃ E, E = Mo.surv c r l un len most ps := ⟨_, rfl⟩
 rw [← hE]
 have HE := Lib.hid hE
 clear hE
 by_cases hE0 : E = 0
 rotate_left
 ·
   have hef : (E != 0) = true := by simpa using hE0
   have HV : Hid (X = E) := Lib.hid (by rw [HX.out, ← HE.out, if_pos hE0])
   clear hE0
   go_wp2
   go_ret
   exact ⟨ret_int HV.out.symm, hB1⟩
 have hef : (E != 0) = false := by simp [hE0]
 have HV : Hid (X = Mo.first [Mo.when ((m : Int) != (n : Int)) 2, Mo.allw ms (-1000) 1000]) := Lib.hid (by rw [HX.out, ← HE.out, if_neg (by simp [hE0])])
 clear hE0
 by_cases hmn : m = n
 rotate_left
 ·
   have hne : ((m : Int) != (n : Int)) = true := by simp; omega
   have HW : Hid (X = 2) := Lib.hid (by rw [HV.out, hne]; exact Mo.first_nz (by decide) _)
   clear hmn
   go_wp2
   go_ret
   exact ⟨ret_int HW.out.symm, hB1⟩
 have hne : ((m : Int) != (n : Int)) = false := by simp; omega
 have HW : Hid (X = Mo.allw ms (-1000) 1000) := Lib.hid (by rw [HV.out, hne]; show Mo.first [0, _] = _; rw [Mo.first_z rfl, Mo.first_one])
 clear hmn
 go_wp2_with fail
 refine (c92 M m capm ms _ _ _ hm HM).mono ?_
 rintro e w' ⟨rfl, rfl⟩
 rw [← HW.out]
 go_wp2
 go_ret
 exact ⟨rfl, hB1⟩
theorem c36 (c r : Int) (A : Option Addr) (n cap : Nat) (l : List Int) (un len most : Int) (P : Option Addr) (np capp : Nat) (ps : List Pr) (M : Option Addr) (m capm : Nat) (ms : List Int) (D : Option Addr) (md capd : Nat) (d : List (List Int)) (w : World) (hl : n ≤ 1000000) (hp : np ≤ 1000000) (hm : m ≤ 1000000) (hd : md ≤ 1000000) (hdl : ∀ x, x ∈ d → x.length ≤ 1000000) (H : RdI w A n l) (HP : RdP w P np ps) (HM : RdI w M m ms) (HD : RdD w D md d) :
  Calls Tryz.prog 36 #[.agg #[.int .i64 c, .int .i64 r, .slice A n cap], .agg #[.int .i64 un, .int .i64 len, .int .i64 most, .slice P np capp], .slice M m capm, .slice D md capd] w fun en w' => en = .returned (.int .i64 (Mo.fit c r l un len most ps ms d)) ∧ Below w.heap.size w w' := by
 have HDL := Lib.hid hdl
 obtain ⟨X, hX⟩ : ∃ X, X = Mo.fit c r l un len most ps ms d := ⟨_, rfl⟩
 rw [← hX]
 have HX : Hid (X = if Mo.mdl c r l un len most ps ms ≠ 0 then Mo.mdl c r l un len most ps ms else Mo.dat len ps d) := Lib.hid (by rw [hX]; unfold Mo.fit; rw [← first_two]; exact first_mdl _ _)
 clear hX hdl
 obtain ⟨w0, hW⟩ : ∃ W, W = (w.alloc (Obj.cells #[.int .i64 c, .int .i64 r, .slice A n cap] 24)).alloc (Obj.cells #[.int .i64 un, .int .i64 len, .int .i64 most, .slice P np capp] 27) := ⟨_, rfl⟩
 have hT0 : w0.heap[w.heap.size]? = some (.cells #[.int .i64 c, .int .i64 r, .slice A n cap] 24 (0, 0)) := by rw [hW]; exact heap_old (by simp <;> omega) (heap_new (by simp))
 have hT1 : w0.heap[w.heap.size + 1]? = some (.cells #[.int .i64 un, .int .i64 len, .int .i64 most, .slice P np capp] 27 (0, 0)) := by rw [hW]; exact heap_new (by simp)
 have hB0 : Below w.heap.size w w0 := by rw [hW]; exact (((Below.refl _ _).alloc (by first | omega | (simp <;> omega)) _).alloc (by first | omega | (simp <;> omega)) _)
 replace H := H.below hB0
 replace HP := HP.below hB0
 replace HM := HM.below hB0
 replace HD := HD.below hB0
 go_enter Tryz.func36, Tryz.ntmps36
 go_wp2_with fail
 rw [← hW]
 clear hW
 have qhT0_0 : w0.cell? ⟨w.heap.size, 0, none⟩ = some (.int .i64 c) := cell_at hT0 rfl
 have qhT0_1 : w0.cell? ⟨w.heap.size, 1, none⟩ = some (.int .i64 r) := cell_at hT0 rfl
 have qhT0_2 : w0.cell? ⟨w.heap.size, 2, none⟩ = some (.slice A n cap) := cell_at hT0 rfl
 have qhT1_0 : w0.cell? ⟨w.heap.size + 1, 0, none⟩ = some (.int .i64 un) := cell_at hT1 rfl
 have qhT1_1 : w0.cell? ⟨w.heap.size + 1, 1, none⟩ = some (.int .i64 len) := cell_at hT1 rfl
 have qhT1_2 : w0.cell? ⟨w.heap.size + 1, 2, none⟩ = some (.int .i64 most) := cell_at hT1 rfl
 have qhT1_3 : w0.cell? ⟨w.heap.size + 1, 3, none⟩ = some (.slice P np capp) := cell_at hT1 rfl
 go_wp2_with fail
 refine (c23 c r A n cap l un len most P np capp ps M m capm ms _ hl hp hm H HP HM).mono ?_
 rintro e w1 ⟨rfl, hb⟩
 clear qhT0_0 qhT0_1 qhT0_2 qhT1_0 qhT1_1 qhT1_2 qhT1_3
 have hS := hb
 have hB1 := hB0.call hS rfl
 replace hT0 := blkb hT0 hS
 replace hT1 := blkb hT1 hS
 replace H := H.below hS
 replace HP := HP.below hS
 replace HM := HM.below hS
 replace HD := HD.below hS
 clear hS hB0
 have qhT0_0 : w1.cell? ⟨w.heap.size, 0, none⟩ = some (.int .i64 c) := cell_at hT0 rfl
 have qhT0_1 : w1.cell? ⟨w.heap.size, 1, none⟩ = some (.int .i64 r) := cell_at hT0 rfl
 have qhT0_2 : w1.cell? ⟨w.heap.size, 2, none⟩ = some (.slice A n cap) := cell_at hT0 rfl
 have qhT1_0 : w1.cell? ⟨w.heap.size + 1, 0, none⟩ = some (.int .i64 un) := cell_at hT1 rfl
 have qhT1_1 : w1.cell? ⟨w.heap.size + 1, 1, none⟩ = some (.int .i64 len) := cell_at hT1 rfl
 have qhT1_2 : w1.cell? ⟨w.heap.size + 1, 2, none⟩ = some (.int .i64 most) := cell_at hT1 rfl
 have qhT1_3 : w1.cell? ⟨w.heap.size + 1, 3, none⟩ = some (.slice P np capp) := cell_at hT1 rfl
 clear hb
 obtain ⟨E, hE⟩ : ∃ E, E = Mo.mdl c r l un len most ps ms := ⟨_, rfl⟩
 rw [← hE]
 have HE := Lib.hid hE
 clear hE
 by_cases hE0 : E = 0
 rotate_left
 ·
   have hef : (E != 0) = true := by simpa using hE0
   have HV : Hid (X = E) := Lib.hid (by rw [HX.out, ← HE.out, if_pos hE0])
   clear hE0
   go_wp2
   go_ret
   exact ⟨ret_int HV.out.symm, hB1⟩
 have hef : (E != 0) = false := by simp [hE0]
 have HV : Hid (X = Mo.dat len ps d) := Lib.hid (by rw [HX.out, ← HE.out, if_neg (by simp [hE0])])
 clear hE0
 go_wp2_with fail
 refine (c110 un len most P np capp ps D md capd d _ hp hd HDL.out HP HD).mono ?_
 rintro e w2 ⟨rfl, hb⟩
 clear qhT0_0 qhT0_1 qhT0_2 qhT1_0 qhT1_1 qhT1_2 qhT1_3
 have hS := hb
 have hB2 := hB1.call hS rfl
 replace hT0 := blkb hT0 hS
 replace hT1 := blkb hT1 hS
 replace H := H.below hS
 replace HP := HP.below hS
 replace HM := HM.below hS
 replace HD := HD.below hS
 clear hS hB1
 have qhT0_0 : w2.cell? ⟨w.heap.size, 0, none⟩ = some (.int .i64 c) := cell_at hT0 rfl
 have qhT0_1 : w2.cell? ⟨w.heap.size, 1, none⟩ = some (.int .i64 r) := cell_at hT0 rfl
 have qhT0_2 : w2.cell? ⟨w.heap.size, 2, none⟩ = some (.slice A n cap) := cell_at hT0 rfl
 have qhT1_0 : w2.cell? ⟨w.heap.size + 1, 0, none⟩ = some (.int .i64 un) := cell_at hT1 rfl
 have qhT1_1 : w2.cell? ⟨w.heap.size + 1, 1, none⟩ = some (.int .i64 len) := cell_at hT1 rfl
 have qhT1_2 : w2.cell? ⟨w.heap.size + 1, 2, none⟩ = some (.int .i64 most) := cell_at hT1 rfl
 have qhT1_3 : w2.cell? ⟨w.heap.size + 1, 3, none⟩ = some (.slice P np capp) := cell_at hT1 rfl
 clear hb
 rw [← HV.out]
 go_wp2
 go_ret
 exact ⟨rfl, hB2⟩
end Go.Proofs.YtdimmlljjmmdbaaGreatDoor
/- Softly taken operations whose result is laid into the list of the frame at once. -/
namespace Go
open Go.RowKit
section
variable {P : Program}
theorem put_list {o : Oper} {d : Tmp} (hd : o.dst = some d) (r : List Value) (v : Value) (a : Act) (ha : a.tmps = r.toArray) : a.put o.dst v = { a with tmps := (r.set d v).toArray } := by
 rw [hd]
 unfold Act.put
 simp only [ha, List.setIfInBounds_toArray]
theorem wpPlanA_softD {Q : Exit → Act → World → Prop} {l : List Oper} {B i : Nat} {W W0 : World} {p : List (Nat × Bool)} {a : Act} (o : Oper) (v : Value) (d : Tmp) (r : List Value) (ha : a.tmps = r.toArray) (ho : l[i]? = some o) (hd : o.dst = some d) (hw : Region.wanted o (yielded l.toArray a.tmps) = true)
  (hv : ∀ w, Below B W w → (∀ b o, b < B → w.cell? ⟨b, o, none⟩ = W.cell? ⟨b, o, none⟩) → o.softAt P a w v)
  (h : wpPlanA P l.toArray (Below B W) Q p { a with tmps := (r.set d v).toArray } W0) : wpPlanA P l.toArray (Below B W) Q ((i, true) :: p) a W0 :=
 wpPlanA_soft o v ho hw hv (by rw [put_list hd r v a ha]; exact h)
theorem wpPlanLA_softD {Q : Exit → Act → World → Prop} {L : Nat} {l : List Oper} {B i : Nat} {W W0 : World} {p : List (Nat × Bool)} {a : Act} (o : Oper) (v : Value) (d : Tmp) (r : List Value) (ha : a.tmps = r.toArray) (ho : l[i]? = some o) (hd : o.dst = some d) (hw : Region.wanted o (yielded l.toArray a.tmps) = true)
  (hv : ∀ w, Below B W w → (∀ b o, b < B → w.cell? ⟨b, o, none⟩ = W.cell? ⟨b, o, none⟩) → o.softAt P a w v)
  (h : wpPlanLA P l.toArray (Below B W) Q L p { a with tmps := (r.set d v).toArray } W0) : wpPlanLA P l.toArray (Below B W) Q L ((i, true) :: p) a W0 :=
 wpPlanLA_soft o v ho hw hv (by rw [put_list hd r v a ha]; exact h)
theorem wpPlanFA_softD {Q : Exit → Act → World → Prop} {Φ : Value → World → Prop} {l : List Oper} {B i : Nat} {W W0 : World} {p : List (Nat × Nat)} {a : Act} (o : Oper) (v : Value) (d : Tmp) (r : List Value) (ha : a.tmps = r.toArray) (ho : l[i]? = some o) (hd : o.dst = some d) (hw : Region.wanted o (yielded l.toArray a.tmps) = true)
  (hv : ∀ w, Below B W w → (∀ b o, b < B → w.cell? ⟨b, o, none⟩ = W.cell? ⟨b, o, none⟩) → o.softAt P a w v)
  (h : wpPlanFA P l.toArray (Below B W) Q Φ p { a with tmps := (r.set d v).toArray } W0) : wpPlanFA P l.toArray (Below B W) Q Φ ((i, 1) :: p) a W0 :=
 wpPlanFA_soft o v ho hw hv (by rw [put_list hd r v a ha]; exact h)
end
end Go
/- Operations over an abstract frame: building a struct of four fields, and slicing a slice. -/
namespace Go.Proofs.YtdimmlljjmmdbaaGreatDoor
open Go.RowKit Go.Shelf
set_option maxHeartbeats 8000000
set_option maxRecDepth 100000
theorem soft_ok {o : Oper} {a : Act} {w : World} {v : Value} (h : (execOp a.eval o).run Tryz.prog w = .ok (.value v) w) : o.softAt Tryz.prog a w v := by
 unfold Oper.softAt
 rw [h]
 exact ⟨rfl, rfl⟩
theorem build27 {o : Oper} {a : Act} {w : World} {x0 x1 x2 x3 : Operand} {u0 u1 u2 : Int} {S : Option Addr} {n c : Nat} (ho : o.op = .build 27 #[(0, x0), (1, x1), (2, x2), (3, x3)]) (h0 : a.eval x0 = .int .i64 u0) (h1 : a.eval x1 = .int .i64 u1) (h2 : a.eval x2 = .int .i64 u2) (h3 : a.eval x3 = .slice S n c) :
  o.softAt Tryz.prog a w (.agg #[.int .i64 u0, .int .i64 u1, .int .i64 u2, .slice S n c]) := by
 unfold Oper.softAt execOp
 rw [ho]
 simp only [List.map_toArray, List.map_cons, h0, h1, h2, h3, List.map_nil]
 go_simp
theorem build27z {o : Oper} {a : Act} {w : World} {x0 x1 x2 : Operand} {u0 u1 u2 : Int} (ho : o.op = .build 27 #[(0, x0), (1, x1), (2, x2)]) (h0 : a.eval x0 = .int .i64 u0) (h1 : a.eval x1 = .int .i64 u1) (h2 : a.eval x2 = .int .i64 u2) :
  o.softAt Tryz.prog a w (.agg #[.int .i64 u0, .int .i64 u1, .int .i64 u2, .slice none 0 0]) := by
 unfold Oper.softAt execOp
 rw [ho]
 simp only [List.map_toArray, List.map_cons, h0, h1, h2, List.map_nil]
 go_simp
theorem build101 {o : Oper} {a : Act} {w : World} {x0 x1 x2 : Operand} {u0 u1 : Int} {b : Bool} (ho : o.op = .build 101 #[(0, x0), (1, x1), (2, x2)]) (h0 : a.eval x0 = .int .i64 u0) (h1 : a.eval x1 = .int .i64 u1) (h2 : a.eval x2 = .bool b) :
  o.softAt Tryz.prog a w (.agg #[.int .i64 u0, .int .i64 u1, .bool b]) := by
 unfold Oper.softAt execOp
 rw [ho]
 simp only [List.map_toArray, List.map_cons, h0, h1, h2, List.map_nil]
 go_simp
theorem soft_slice {o : Oper} {a : Act} {w : World} {t e : TypeId} {x : Operand} {lo hi : Option Operand} {lo' hi' : Option Value} {v r : Value} (hu : Tryz.prog.underlying t = some (.slice e)) (ho : o.op = .slice t x lo hi none) (h1 : a.eval x = v) (hl : lo.map a.eval = lo') (hh : hi.map a.eval = hi')
  (hs : (Instr.slice t v lo' hi' none).run Tryz.prog w = .ok r w) : o.softAt Tryz.prog a w r := by
 apply soft_ok
 unfold execOp
 rw [ho]
 simp only [h1, hl, hh, Option.map_none]
 unfold Instr.sliceAt
 simp [Sem.run_bind, run_underlying hu, hs]
end Go.Proofs.YtdimmlljjmmdbaaGreatDoor
