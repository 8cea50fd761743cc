/- A part of the proofs about chapter 7 (image): contracts of functions and plain laws (V83). -/
import Derived.Test.YtdimmlljjmmdbaaGreatDoorB82
import Derived.Test.YtdimmlljjmmdbaaGreatDoorA06
import Derived.Test.YtdimmlljjmmdbaaGreatDoorB01
set_option linter.all false
namespace Go.Proofs.YtdimmlljjmmdbaaGreatDoor
open Go.RowKit Go.Shelf
set_option maxHeartbeats 8000000
set_option maxRecDepth 100000
theorem RdI.sub {w : World} {b off n : Nat} {l : List Int} (h : RdI w (some ⟨b, off, none⟩) n l) (lo k : Nat) (hk : lo + k ≤ n) : RdI w (some ⟨b, off + lo, none⟩) k ((l.drop lo).take k) := by
 have hn := h.len
 refine ⟨by simp [encI]; omega, fun h0 => ?_⟩
 obtain ⟨h1, h2⟩ := h
 obtain ⟨b', off', e, hb, hc⟩ := h2 (by omega)
 cases e
 refine ⟨b, off + lo, rfl, hb, fun j hj => ?_⟩
 have hj2 : j < k := by simp [encI] at hj; omega
 have h3 := hc (lo + j) (by simp [encI]; omega)
 have e : off + lo + j = off + (lo + j) := by omega
 rw [e, h3]
 simp [encI, List.getElem?_take, hj2, List.getElem?_drop]
/-- where a slice of a part begins -/
def offOf (cap lo : Nat) : Nat := if cap = lo then 0 else lo
theorem RdI.subo {w : World} {b n cap : Nat} {l : List Int} (h : RdI w (some ⟨b, 0, none⟩) n l) (lo k : Nat) (hk : lo + k ≤ n) (hc : n ≤ cap) : RdI w (some ⟨b, offOf cap lo, none⟩) k ((l.drop lo).take k) := by
 have h1 := h.sub lo k hk
 rw [Nat.zero_add] at h1
 by_cases h0 : k = 0
 ·subst h0
  exact ⟨by simp [encI], fun h => absurd h (Nat.lt_irrefl _)⟩
 ·have e : offOf cap lo = lo := by unfold offOf; rw [if_neg (by omega)]
  rw [e]
  exact h1
theorem slice_sub (g n cap lo hi : Nat) (h1 : lo ≤ hi) (h2 : hi ≤ n) (h3 : n ≤ cap) (W : World) : (Instr.slice 22 (.slice (some ⟨g, 0, none⟩) n cap) (some (.int .i64 ((lo : Nat) : Int))) (some (.int .i64 ((hi : Nat) : Int))) none).run Tryz.prog W = .ok (.slice (some ⟨g, offOf cap lo, none⟩) (hi - lo) (cap - lo)) W := by
 have hu : Tryz.prog.underlying 22 = some (.slice 3) := by kernel_rfl
 have a3 : (hi : Int) ≤ (cap : Int) := by omega
 have a4 : (0 : Int) ≤ (hi : Int) := by omega
 simp [Instr.slice, run_underlying hu, Instr.sliceBounds, run_sliceBound _ _ _ _ a4 a3, go_sem]
 rw [if_pos (by omega), if_pos h1]
 unfold offOf
 split <;> rfl
theorem c124z (b o n cap : Nat) (l : List Int) (w : World) (hn : n ≤ 1000000) (H : RdI w (some ⟨b, o, none⟩) n l) :
  Calls Tryz.prog 124 #[.slice (some ⟨b, o, none⟩) n cap] w fun en w' => ∃ v, en = .returned v ∧ w'.ownsRow w.heap.size 3 1 v n (encI l) ∧ Below w.heap.size w w' := by
 obtain ⟨W, hW⟩ : ∃ W, W = w.alloc (Obj.cells #[] 3) := ⟨_, rfl⟩
 have hB : Below w.heap.size w W := by rw [hW]; exact (Below.refl _ _).alloc (Nat.le_refl _) _
 have hown : Own W w.heap.size (.slice (some ⟨w.heap.size, 0, none⟩) 0 0) 0 (encI []) := own_empty (Nat.le_refl _) (by rw [hW]; exact heap_new rfl)
 have hrd := H.below hB
 have hsz := hB.size
 have q22 := nil22
 go_enter Tryz.func124, Tryz.ntmps124
 go_wp2_with (at_builtin; rw [← hW]; refine wpList_app_ints rfl _ _ rfl w.heap.size _ 0 [] l rfl hown (some ⟨b, o, none⟩) n cap rfl hrd (by omega) hsz ?_)
 intro x' w3 hown3 hb3
 try rw [Nat.zero_add, List.nil_append] at hown3
 try rw [← hW] at hb3
 have HO : Hid (Own w3 w.heap.size x' n (encI l)) := Lib.hid hown3
 have hB3 : Hid (Below w.heap.size w w3) := Lib.hid (hB.trans hb3)
 clear hown3 hb3
 go_wp2
 go_ret
 exact ⟨_, rfl, HO.out, hB3.out⟩
/-- the error of a span of rows -/
def spanE (f t r : Int) : Int := Mo.when (decide (f < 0) || decide (t < f) || decide (r < t)) 14
theorem spanE_bad {f t r : Int} (h : f < 0 ∨ t < f ∨ r < t) : spanE f t r = 14 := by
 unfold spanE Mo.when
 rw [if_pos]
 rcases h with h | h | h <;> simp [h]
theorem spanE_ok {f t r : Int} (h : ¬ f < 0) (h2 : ¬ t < f) (h3 : ¬ r < t) : spanE f t r = 0 := by
 unfold spanE Mo.when
 rw [if_neg]
 simp; omega
theorem spanE_zero {f t r : Int} (h : spanE f t r = 0) : 0 ≤ f ∧ f ≤ t ∧ t ≤ r := by
 by_cases h1 : f < 0 ∨ t < f ∨ r < t
 ·rw [spanE_bad h1] at h; cases h
 ·omega
theorem c125 (f t r : Int) (w : World) : Calls Tryz.prog 125 #[.agg #[.int .i64 f, .int .i64 t], .int .i64 r] w fun en w' => en = .returned (.int .i64 (spanE f t r)) ∧ Below w.heap.size w w' := by
 by_cases h1 : f < 0
 ·have d1 : decide (f < 0) = true := by simpa using h1
  have HX : Hid (spanE f t r = 14) := Lib.hid (spanE_bad (.inl h1))
  clear h1
  go_enter Tryz.func125, Tryz.ntmps125
  go_wp2_with fail
  refine (c114 _ _ _).mono ?_
  rintro e w' ⟨rfl, rfl⟩
  go_wp2
  go_ret
  rw [HX.out]; exact ⟨rfl, bl2 _ _⟩
 have d1 : decide (f < 0) = false := by simpa using h1
 by_cases h2 : t < f
 ·have d2 : decide (t < f) = true := by simpa using h2
  have HX : Hid (spanE f t r = 14) := Lib.hid (spanE_bad (.inr (.inl h2)))
  clear h1 h2
  go_enter Tryz.func125, Tryz.ntmps125
  go_wp2_with fail
  refine (c114 _ _ _).mono ?_
  rintro e w' ⟨rfl, rfl⟩
  go_wp2
  go_ret
  rw [HX.out]; exact ⟨rfl, bl2 _ _⟩
 have d2 : decide (t < f) = false := by simpa using h2
 by_cases h3 : r < t
 ·have d3 : decide (r < t) = true := by simpa using h3
  have HX : Hid (spanE f t r = 14) := Lib.hid (spanE_bad (.inr (.inr h3)))
  clear h1 h2 h3
  go_enter Tryz.func125, Tryz.ntmps125
  go_wp2_with fail
  refine (c114 _ _ _).mono ?_
  rintro e w' ⟨rfl, rfl⟩
  go_wp2
  go_ret
  rw [HX.out]; exact ⟨rfl, bl2 _ _⟩
 have d3 : decide (r < t) = false := by simpa using h3
 have HX : Hid (spanE f t r = 0) := Lib.hid (spanE_ok h1 h2 h3)
 clear h1 h2 h3
 go_enter Tryz.func125, Tryz.ntmps125
 go_wp2_with fail
 refine (c114 _ _ _).mono ?_
 rintro e w' ⟨rfl, rfl⟩
 go_wp2
 go_ret
 rw [HX.out]; exact ⟨rfl, bl2 _ _⟩
theorem c94q (b : Bool) (e : Int) (w : World) : Calls Tryz.prog 94 #[.bool b, .int .i64 e] w fun en w' => en = .returned (.int .i64 (Mo.when b e)) ∧ Below w.heap.size w w' :=
 (c94 b e w).mono fun _ _ ⟨h1, h2⟩ => ⟨h1, h2 ▸ Below.refl _ _⟩
theorem c89q (A : Option Addr) (n cap : Nat) (xs : List Int) (w : World) (hn : xs.length = n) (hl : n ≤ 1000000) (H : RdS w 1 A n (encI xs)) :
  Calls Tryz.prog 89 #[.slice A n cap] w fun en w' => en = .returned (.int .i64 (Mo.first xs)) ∧ Below w.heap.size w w' :=
 (c89 A n cap xs w hn hl H).mono fun _ _ ⟨h1, h2⟩ => ⟨h1, h2 ▸ Below.refl _ _⟩

theorem c53 (c r : Int) (A : Option Addr) (n cap : Nat) (l : List Int) (un len most : Int) (P : Option Addr) (np capp : Nat) (ps : List Pr) (D : Option Addr) (m capd : Nat) (d : List (List Int)) (f t : Int) (w : World) (hl : n ≤ 1000000) (hp : np ≤ 1000000) (hd : m ≤ 1000000) (hdl : ∀ x, x ∈ d → x.length ≤ 1000000) (HP : RdP w P np ps) (HD : RdD w D m d) (H : RdI w A n l) :
  Calls Tryz.prog 53 #[.agg #[.int .i64 c, .int .i64 r, .slice A n cap], .agg #[.int .i64 un, .int .i64 len, .int .i64 most, .slice P np capp], .slice D m capd, .agg #[.int .i64 f, .int .i64 t]] w fun en w' => en = .returned (.int .i64 (Mo.first [Mo.dta c r l un len most ps d, spanE f t r])) ∧ Below w.heap.size w w' := by
 have HDL := Lib.hid hdl
 obtain ⟨E, hE1⟩ : ∃ E, E = Mo.dta c r l un len most ps d := ⟨_, rfl⟩
 have HE := Lib.hid hE1
 rw [← hE1]
 obtain ⟨V, hV⟩ : ∃ V, V = Mo.first [E, spanE f t r] := ⟨_, rfl⟩
 have HV := Lib.hid hV
 rw [← hV]
 clear hdl hE1 hV
 obtain ⟨w0, hW⟩ : ∃ W, W = ((w.alloc (Obj.cells #[.int .i64 c, .int .i64 r, .slice A n cap] 24)).alloc (Obj.cells #[.int .i64 un, .int .i64 len, .int .i64 most, .slice P np capp] 27)).alloc (Obj.cells #[.int .i64 f, .int .i64 t] 53) := ⟨_, rfl⟩
 have hT0 : w0.heap[w.heap.size]? = some (.cells #[.int .i64 c, .int .i64 r, .slice A n cap] 24 (0, 0)) := by rw [hW]; exact heap_old (by simp <;> omega) (heap_old (by simp <;> omega) (heap_new (by simp)))
 have hT1 : w0.heap[w.heap.size + 1]? = some (.cells #[.int .i64 un, .int .i64 len, .int .i64 most, .slice P np capp] 27 (0, 0)) := by rw [hW]; exact heap_old (by simp <;> omega) (heap_new (by simp))
 have hT2 : w0.heap[w.heap.size + 1 + 1]? = some (.cells #[.int .i64 f, .int .i64 t] 53 (0, 0)) := by rw [hW]; exact heap_new (by simp)
 have hB0 : Below w.heap.size w w0 := by rw [hW]; exact ((((Below.refl _ _).alloc (by first | omega | (simp <;> omega)) _).alloc (by first | omega | (simp <;> omega)) _).alloc (by first | omega | (simp <;> omega)) _)
 replace H := H.below hB0
 replace HP := HP.below hB0
 replace HD := HD.below hB0
 go_enter Tryz.func53, Tryz.ntmps53
 go_wp2_with fail
 rw [← hW]
 clear hW
 have qhT0_0 : w0.cell? ⟨w.heap.size, 0, none⟩ = some (.int .i64 c) := cell_at hT0 rfl
 have qhT0_1 : w0.cell? ⟨w.heap.size, 1, none⟩ = some (.int .i64 r) := cell_at hT0 rfl
 have qhT0_2 : w0.cell? ⟨w.heap.size, 2, none⟩ = some (.slice A n cap) := cell_at hT0 rfl
 have qhT1_0 : w0.cell? ⟨w.heap.size + 1, 0, none⟩ = some (.int .i64 un) := cell_at hT1 rfl
 have qhT1_1 : w0.cell? ⟨w.heap.size + 1, 1, none⟩ = some (.int .i64 len) := cell_at hT1 rfl
 have qhT1_2 : w0.cell? ⟨w.heap.size + 1, 2, none⟩ = some (.int .i64 most) := cell_at hT1 rfl
 have qhT1_3 : w0.cell? ⟨w.heap.size + 1, 3, none⟩ = some (.slice P np capp) := cell_at hT1 rfl
 have qhT2_0 : w0.cell? ⟨w.heap.size + 1 + 1, 0, none⟩ = some (.int .i64 f) := cell_at hT2 rfl
 have qhT2_1 : w0.cell? ⟨w.heap.size + 1 + 1, 1, none⟩ = some (.int .i64 t) := cell_at hT2 rfl
 go_wp2_with fail
 refine (c52 c r A n cap l un len most P np capp ps D m capd d _ hl hp hd HDL.out HP HD H).mono ?_
 rintro e w1 ⟨rfl, hb⟩
 clear qhT0_0 qhT0_1 qhT0_2 qhT1_0 qhT1_1 qhT1_2 qhT1_3 qhT2_0 qhT2_1
 have hS := hb
 have hB1 := hB0.call hS rfl
 replace hT0 := blkb hT0 hS
 replace hT1 := blkb hT1 hS
 replace hT2 := blkb hT2 hS
 replace H := H.below hS
 replace HP := HP.below hS
 replace HD := HD.below hS
 clear hS hB0
 have qhT0_0 : w1.cell? ⟨w.heap.size, 0, none⟩ = some (.int .i64 c) := cell_at hT0 rfl
 have qhT0_1 : w1.cell? ⟨w.heap.size, 1, none⟩ = some (.int .i64 r) := cell_at hT0 rfl
 have qhT0_2 : w1.cell? ⟨w.heap.size, 2, none⟩ = some (.slice A n cap) := cell_at hT0 rfl
 have qhT1_0 : w1.cell? ⟨w.heap.size + 1, 0, none⟩ = some (.int .i64 un) := cell_at hT1 rfl
 have qhT1_1 : w1.cell? ⟨w.heap.size + 1, 1, none⟩ = some (.int .i64 len) := cell_at hT1 rfl
 have qhT1_2 : w1.cell? ⟨w.heap.size + 1, 2, none⟩ = some (.int .i64 most) := cell_at hT1 rfl
 have qhT1_3 : w1.cell? ⟨w.heap.size + 1, 3, none⟩ = some (.slice P np capp) := cell_at hT1 rfl
 have qhT2_0 : w1.cell? ⟨w.heap.size + 1 + 1, 0, none⟩ = some (.int .i64 f) := cell_at hT2 rfl
 have qhT2_1 : w1.cell? ⟨w.heap.size + 1 + 1, 1, none⟩ = some (.int .i64 t) := cell_at hT2 rfl
 clear hb
 rw [← HE.out]
 by_cases hE : E = 0
 rotate_left
 ·
   have hef : (E != 0) = true := by simpa using hE
   have hf : Mo.first [E, spanE f t r] = E := by unfold Mo.first; rw [if_pos hE]
   obtain rfl : V = E := HV.out.trans hf
   clear hE hf
   go_wp2
   go_ret
   exact ⟨rfl, hB1⟩
 subst hE
 have hf : Mo.first [0, spanE f t r] = spanE f t r := by unfold Mo.first; rw [if_neg (by simp)]; unfold Mo.first; split <;> simp_all [Mo.first]
 obtain rfl : V = spanE f t r := HV.out.trans hf
 clear hf HE
 go_wp2_with fail
 refine (c125 f t r _).mono ?_
 rintro e w2 ⟨rfl, hb⟩
 clear qhT0_0 qhT0_1 qhT0_2 qhT1_0 qhT1_1 qhT1_2 qhT1_3 qhT2_0 qhT2_1
 have hS := hb
 have hB2 := hB1.call hS rfl
 replace hT0 := blkb hT0 hS
 replace hT1 := blkb hT1 hS
 replace hT2 := blkb hT2 hS
 replace H := H.below hS
 replace HP := HP.below hS
 replace HD := HD.below hS
 clear hS hB1
 have qhT0_0 : w2.cell? ⟨w.heap.size, 0, none⟩ = some (.int .i64 c) := cell_at hT0 rfl
 have qhT0_1 : w2.cell? ⟨w.heap.size, 1, none⟩ = some (.int .i64 r) := cell_at hT0 rfl
 have qhT0_2 : w2.cell? ⟨w.heap.size, 2, none⟩ = some (.slice A n cap) := cell_at hT0 rfl
 have qhT1_0 : w2.cell? ⟨w.heap.size + 1, 0, none⟩ = some (.int .i64 un) := cell_at hT1 rfl
 have qhT1_1 : w2.cell? ⟨w.heap.size + 1, 1, none⟩ = some (.int .i64 len) := cell_at hT1 rfl
 have qhT1_2 : w2.cell? ⟨w.heap.size + 1, 2, none⟩ = some (.int .i64 most) := cell_at hT1 rfl
 have qhT1_3 : w2.cell? ⟨w.heap.size + 1, 3, none⟩ = some (.slice P np capp) := cell_at hT1 rfl
 have qhT2_0 : w2.cell? ⟨w.heap.size + 1 + 1, 0, none⟩ = some (.int .i64 f) := cell_at hT2 rfl
 have qhT2_1 : w2.cell? ⟨w.heap.size + 1 + 1, 1, none⟩ = some (.int .i64 t) := cell_at hT2 rfl
 clear hb
 go_wp2
 go_ret
 exact ⟨rfl, hB2⟩

theorem c56 (c r : Nat) (A : Option Addr) (n cap : Nat) (l : List Int) (un : Int) (ln : Nat) (most : Int) (P : Option Addr) (np capp : Nat) (ps : List Pr) (D : Option Addr) (capd : Nat) (d : List (List Int)) (f t : Nat) (w : World) (g : Im.Gr c r l) (hc : c ≤ 16) (hr : r ≤ 16) (hE : Mo.dta c r l un ln most ps d = 0) (hft : f ≤ t) (htr : t ≤ r) (H : RdI w A n l) (HP : RdP w P np ps) (HD : RdD w D np d) :
  Calls Tryz.prog 56 #[.agg #[.int .i64 c, .int .i64 r, .slice A n cap], .agg #[.int .i64 un, .int .i64 (ln : Nat), .int .i64 most, .slice P np capp], .slice D np capd, .agg #[.int .i64 (f : Nat), .int .i64 (t : Nat)]] w fun en w' => ∃ X xc, en = .returned (.slice X (t * c - f * c) xc) ∧ RdI w' X (t * c - f * c) (((Im.image n (ps.map (dlp c l un ln most)) d).drop (f * c)).take (t * c - f * c)) ∧ Below w.heap.size w w' := by
 have hE2 := Mo.dta_zero hE
 have hsv := surv_ok hE2.1
 have hln := H.len
 have hpl := HP.len
 have hgl := g.len
 have hn256 : n ≤ 256 := by have : c * r ≤ 16 * 16 := Nat.mul_le_mul hc hr; omega
 have hrn : r * c = n := by rw [Nat.mul_comm]; omega
 obtain ⟨lo, hlo⟩ : ∃ x, x = f * c := ⟨_, rfl⟩
 obtain ⟨hi, hhi⟩ : ∃ x, x = t * c := ⟨_, rfl⟩
 have hlh : lo ≤ hi := by rw [hlo, hhi]; exact Nat.mul_le_mul_right c hft
 have hhn : hi ≤ n := by rw [hhi, ← hrn]; exact Nat.mul_le_mul_right c htr
 obtain ⟨kk, hkk⟩ : ∃ x, x = hi - lo := ⟨_, rfl⟩
 have hw1 : IntKind.i64.wrap ((f : Int) * (c : Int)) = (lo : Int) := by rw [hlo, ← Int.natCast_mul]; rw [wrapI (by omega)]
 have hw2 : IntKind.i64.wrap ((t : Int) * (c : Int)) = (hi : Int) := by rw [hhi, ← Int.natCast_mul]; rw [wrapI (by omega)]
 obtain ⟨IM, hIM⟩ : ∃ x, x = Im.image n (ps.map (dlp c l un ln most)) d := ⟨_, rfl⟩
 rw [← hlo, ← hhi, ← hkk, ← hIM]
 have HIM := Lib.hid hIM
 clear hIM hrn
 have hs1 : decide ((lo : Int) < 0) = false := by simp
 have hs2 : decide ((hi : Int) < (lo : Int)) = false := by simp; omega
 have hs3 : decide ((n : Int) < (hi : Int)) = false := by simp; omega
 have hs4 : (0 : Int) ≤ (lo : Int) := by omega
 have hs5 : (lo : Int) ≤ (hi : Int) := by omega
 have hs6 : (hi : Int) ≤ (n : Int) := by omega
 have hs7 : (0 : Int) ≤ (hi : Int) := by omega
 have hsl : ∀ (g gc : Nat), n ≤ gc → ∀ (W : World), (Instr.slice 22 (.slice (some ⟨g, 0, none⟩) n gc) (some (.int .i64 ((lo : Nat) : Int))) (some (.int .i64 ((hi : Nat) : Int))) none).run Tryz.prog W = .ok (.slice (some ⟨g, offOf gc lo, none⟩) kk (gc - lo)) W := fun g gc h W => by rw [hkk]; exact slice_sub g n gc lo hi hlh hhn h W
 have hn0 : 0 < n := by have : 1 * 1 ≤ c * r := Nat.mul_le_mul g.c1 g.r1; omega
 have HEE := Lib.hid hE
 have HE2 := Lib.hid hE2
 have HSV := Lib.hid hsv
 have HLN := Lib.hid hln
 have HPL := Lib.hid hpl
 have HKK := Lib.hid hkk
 clear hE hE2 hsv hln hpl hgl hkk hlo hhi
 have hsl0 := fun g => hsl g n (Nat.le_refl n)
 clear hsl
 obtain ⟨w0, hW⟩ : ∃ W, W = ((w.alloc (Obj.cells #[.int .i64 c, .int .i64 r, .slice A n cap] 24)).alloc (Obj.cells #[.int .i64 un, .int .i64 (ln : Nat), .int .i64 most, .slice P np capp] 27)).alloc (Obj.cells #[.int .i64 (f : Nat), .int .i64 (t : Nat)] 53) := ⟨_, rfl⟩
 have hT0 : w0.heap[w.heap.size]? = some (.cells #[.int .i64 c, .int .i64 r, .slice A n cap] 24 (0, 0)) := by rw [hW]; exact heap_old (by simp <;> omega) (heap_old (by simp <;> omega) (heap_new (by simp)))
 have hT1 : w0.heap[w.heap.size + 1]? = some (.cells #[.int .i64 un, .int .i64 (ln : Nat), .int .i64 most, .slice P np capp] 27 (0, 0)) := by rw [hW]; exact heap_old (by simp <;> omega) (heap_new (by simp))
 have hT2 : w0.heap[w.heap.size + 1 + 1]? = some (.cells #[.int .i64 (f : Nat), .int .i64 (t : Nat)] 53 (0, 0)) := by rw [hW]; exact heap_new (by simp)
 have hB0 : Below w.heap.size w w0 := by rw [hW]; exact ((((Below.refl _ _).alloc (by first | omega | (simp <;> omega)) _).alloc (by first | omega | (simp <;> omega)) _).alloc (by first | omega | (simp <;> omega)) _)
 replace H := H.below hB0
 replace HP := HP.below hB0
 replace HD := HD.below hB0
 go_enter Tryz.func56, Tryz.ntmps56
 go_wp2_with fail
 rw [← hW]
 clear hW
 have qhT0_0 : w0.cell? ⟨w.heap.size, 0, none⟩ = some (.int .i64 c) := cell_at hT0 rfl
 have qhT0_1 : w0.cell? ⟨w.heap.size, 1, none⟩ = some (.int .i64 r) := cell_at hT0 rfl
 have qhT0_2 : w0.cell? ⟨w.heap.size, 2, none⟩ = some (.slice A n cap) := cell_at hT0 rfl
 have qhT1_0 : w0.cell? ⟨w.heap.size + 1, 0, none⟩ = some (.int .i64 un) := cell_at hT1 rfl
 have qhT1_1 : w0.cell? ⟨w.heap.size + 1, 1, none⟩ = some (.int .i64 (ln : Nat)) := cell_at hT1 rfl
 have qhT1_2 : w0.cell? ⟨w.heap.size + 1, 2, none⟩ = some (.int .i64 most) := cell_at hT1 rfl
 have qhT1_3 : w0.cell? ⟨w.heap.size + 1, 3, none⟩ = some (.slice P np capp) := cell_at hT1 rfl
 have qhT2_0 : w0.cell? ⟨w.heap.size + 1 + 1, 0, none⟩ = some (.int .i64 (f : Nat)) := cell_at hT2 rfl
 have qhT2_1 : w0.cell? ⟨w.heap.size + 1 + 1, 1, none⟩ = some (.int .i64 (t : Nat)) := cell_at hT2 rfl
 go_wp2_with fail
 refine wp_region_plan [(0, true), (1, true), (2, true), (4, true), (5, true), (6, true), (7, true), (8, true), (9, true), (10, true), (11, true), (12, true), (13, true), (3, false), (14, true), (15, true)] w0.heap.size (by kernel_rfl) (by kernel_rfl) (Nat.le_refl _) (fun _ _ d _ _ h => by cases d <;> exact h) ?_
 have hC : Below w0.heap.size w0 w0 := Below.refl _ _
 have zhT0 : w.heap.size < w0.heap.size := (Array.getElem?_eq_some_iff.1 hT0).1
 have zhT1 : w.heap.size + 1 < w0.heap.size := (Array.getElem?_eq_some_iff.1 hT1).1
 have zhT2 : w.heap.size + 1 + 1 < w0.heap.size := (Array.getElem?_eq_some_iff.1 hT2).1
 repeat (first | (refine wpPlanA_skip _ rfl (by rfl) ?_; simp only [Act.put, List.setIfInBounds_toArray, List.set_cons_zero, List.set_cons_succ]) | (refine wpPlanA_soft _ ?_ rfl (by rfl) ?_ ?_; rotate_left; (intro wq hq hcq; go_simp; first | exact rfl | exact ⟨rfl, rfl⟩); simp only [Act.put, List.setIfInBounds_toArray, List.set_cons_zero, List.set_cons_succ]))
 refine wpPlanA_hard _ rfl (by rfl) (fun w1 hS K hK => ?_)
 go_simp
 refine (c54 c r A n cap l un ln most P np capp ps D capd d _ g hc hr HSV.out.2.1 (by have := HSV.out.2.2.1; omega) (by have := HSV.out.2.2.2.2.1; have := HPL.out; omega) (fun p hp => by have := HSV.out.2.2.2.2.2 p hp; have := HLN.out; omega) HE2.out.2.2.1 HE2.out.2.2.2 (H.below hS) (HP.below hS) (HD.below hS)).mono ?_
 rintro e w2 ⟨go, rfl, hrow, hb⟩
 replace hS := hS.call hb rfl
 have hB2 := hB0.call hS rfl
 replace hC := hC.call hS rfl
 replace hT0 := blkb hT0 hS
 replace hT1 := blkb hT1 hS
 replace hT2 := blkb hT2 hS
 replace H := H.below hS
 replace HP := HP.below hS
 replace HD := HD.below hS
 rw [← HIM.out] at hrow
 refine hK _ _ hC ?_
 clear hS hb hB0 hK K
 try simp only [Act.put, List.setIfInBounds_toArray, List.set_cons_zero, List.set_cons_succ]
 repeat (first | (refine wpPlanA_skip _ rfl (by rfl) ?_; simp only [Act.put, List.setIfInBounds_toArray, List.set_cons_zero, List.set_cons_succ]) | (refine wpPlanA_soft _ ?_ rfl (by rfl) ?_ ?_; rotate_left; (intro wq hq hcq; go_simp; first | exact rfl | exact ⟨rfl, rfl⟩); simp only [Act.put, List.setIfInBounds_toArray, List.set_cons_zero, List.set_cons_succ]))
 clear qhT0_0 qhT0_1 qhT0_2 qhT1_0 qhT1_1 qhT1_2 qhT1_3 qhT2_0 qhT2_1
 refine wpPlanA_nil (fun w3 hS => ?_)
 clear hC zhT0 zhT1 zhT2
 have hB3 := hB2.call hS rfl
 replace hT0 := blkb hT0 hS
 replace hT1 := blkb hT1 hS
 replace hT2 := blkb hT2 hS
 replace H := H.below hS
 replace HP := HP.below hS
 replace HD := HD.below hS
 replace hrow := hrow.below hS
 clear hS hB2
 have qhT0_0 : w3.cell? ⟨w.heap.size, 0, none⟩ = some (.int .i64 c) := cell_at hT0 rfl
 have qhT0_1 : w3.cell? ⟨w.heap.size, 1, none⟩ = some (.int .i64 r) := cell_at hT0 rfl
 have qhT0_2 : w3.cell? ⟨w.heap.size, 2, none⟩ = some (.slice A n cap) := cell_at hT0 rfl
 have qhT1_0 : w3.cell? ⟨w.heap.size + 1, 0, none⟩ = some (.int .i64 un) := cell_at hT1 rfl
 have qhT1_1 : w3.cell? ⟨w.heap.size + 1, 1, none⟩ = some (.int .i64 (ln : Nat)) := cell_at hT1 rfl
 have qhT1_2 : w3.cell? ⟨w.heap.size + 1, 2, none⟩ = some (.int .i64 most) := cell_at hT1 rfl
 have qhT1_3 : w3.cell? ⟨w.heap.size + 1, 3, none⟩ = some (.slice P np capp) := cell_at hT1 rfl
 have qhT2_0 : w3.cell? ⟨w.heap.size + 1 + 1, 0, none⟩ = some (.int .i64 (f : Nat)) := cell_at hT2 rfl
 have qhT2_1 : w3.cell? ⟨w.heap.size + 1 + 1, 1, none⟩ = some (.int .i64 (t : Nat)) := cell_at hT2 rfl
 have hfin := Lib.hid (hrow.rd.subo lo kk (by have := HKK.out; omega) (Nat.le_refl n))
 go_wp2
 go_ret
 exact ⟨_, _, rfl, hfin.out, hB3⟩

theorem c51_bad (c r : Int) (A : Option Addr) (n cap : Nat) (l : List Int) (un len most : Int) (P : Option Addr) (np capp : Nat) (ps : List Pr) (D : Option Addr) (m capd : Nat) (d : List (List Int)) (f t : Int) (w : World) (hl : n ≤ 1000000) (hp : np ≤ 1000000) (hd : m ≤ 1000000) (hdl : ∀ x, x ∈ d → x.length ≤ 1000000) (HP : RdP w P np ps) (HD : RdD w D m d) (H : RdI w A n l) (hE : Mo.first [Mo.dta c r l un len most ps d, spanE f t r] ≠ 0) :
  Calls Tryz.prog 51 #[.agg #[.int .i64 c, .int .i64 r, .slice A n cap], .agg #[.int .i64 un, .int .i64 len, .int .i64 most, .slice P np capp], .slice D m capd, .agg #[.int .i64 f, .int .i64 t]] w fun en w' => en = .returned (.tuple #[.slice none 0 0, .int .i64 (Mo.first [Mo.dta c r l un len most ps d, spanE f t r])]) ∧ Below w.heap.size w w' := by
 have HDL := Lib.hid hdl
 obtain ⟨E, hE1⟩ : ∃ E, E = Mo.dta c r l un len most ps d := ⟨_, rfl⟩
 have HE : Hid (E = Mo.first [Mo.surv c r l un len most ps, Mo.dat len ps d]) := Lib.hid hE1
 obtain ⟨X, hX⟩ : ∃ X, X = spanE f t r := ⟨_, rfl⟩
 rw [← hE1, ← hX] at hE ⊢
 obtain ⟨V, hV⟩ : ∃ V, V = Mo.first [E, X] := ⟨_, rfl⟩
 have HV := Lib.hid hV
 rw [← hV] at hE ⊢
 have hef : (V != 0) = true := by simpa using hE
 have HX := Lib.hid hX
 clear hdl hE1 hV hE hX
 obtain ⟨w0, hW⟩ : ∃ W, W = ((w.alloc (Obj.cells #[.int .i64 c, .int .i64 r, .slice A n cap] 35)).alloc (Obj.cells #[.int .i64 un, .int .i64 len, .int .i64 most, .slice P np capp] 39)).alloc (Obj.cells #[.int .i64 f, .int .i64 t] 53) := ⟨_, rfl⟩
 have hT0 : w0.heap[w.heap.size]? = some (.cells #[.int .i64 c, .int .i64 r, .slice A n cap] 35 (0, 0)) := by rw [hW]; exact heap_old (by simp <;> omega) (heap_old (by simp <;> omega) (heap_new (by simp)))
 have hT1 : w0.heap[w.heap.size + 1]? = some (.cells #[.int .i64 un, .int .i64 len, .int .i64 most, .slice P np capp] 39 (0, 0)) := by rw [hW]; exact heap_old (by simp <;> omega) (heap_new (by simp))
 have hT2 : w0.heap[w.heap.size + 1 + 1]? = some (.cells #[.int .i64 f, .int .i64 t] 53 (0, 0)) := by rw [hW]; exact heap_new (by simp)
 have hB0 : Below w.heap.size w w0 := by rw [hW]; exact ((((Below.refl _ _).alloc (by first | omega | (simp <;> omega)) _).alloc (by first | omega | (simp <;> omega)) _).alloc (by first | omega | (simp <;> omega)) _)
 replace H := H.below hB0
 replace HP := HP.below hB0
 replace HD := HD.below hB0
 by_cases h1 : f < 0
 focus
  have d1 : decide (f < 0) = true := by simpa using h1
  have HW : Hid (Mo.when true 14 = X) := Lib.hid (by rw [HX.out, spanE_bad (.inl h1)]; rfl)
  clear h1
 rotate_left
 have d1 : decide (f < 0) = false := by simpa using h1
 by_cases h2 : t < f
 focus
  have d2 : decide (t < f) = true := by simpa using h2
  have HW : Hid (Mo.when true 14 = X) := Lib.hid (by rw [HX.out, spanE_bad (.inr (.inl h2))]; rfl)
  clear h1 h2
 rotate_left
 have d2 : decide (t < f) = false := by simpa using h2
 by_cases h3 : r < t
 focus
  have d3 : decide (r < t) = true := by simpa using h3
  have HW : Hid (Mo.when true 14 = X) := Lib.hid (by rw [HX.out, spanE_bad (.inr (.inr h3))]; rfl)
  clear h1 h2 h3
 rotate_left
 have d3 : decide (r < t) = false := by simpa using h3
 have HW : Hid (Mo.when false 14 = X) := Lib.hid (by rw [HX.out, spanE_ok h1 h2 h3]; rfl)
 clear h1 h2 h3
 all_goals
  go_enter Tryz.func51, Tryz.ntmps51
  go_wp2_with fail
  rw [← hW]
  clear hW
  have qhT0_0 : w0.cell? ⟨w.heap.size, 0, none⟩ = some (.int .i64 c) := cell_at hT0 rfl
  have qhT0_1 : w0.cell? ⟨w.heap.size, 1, none⟩ = some (.int .i64 r) := cell_at hT0 rfl
  have qhT0_2 : w0.cell? ⟨w.heap.size, 2, none⟩ = some (.slice A n cap) := cell_at hT0 rfl
  have qhT1_0 : w0.cell? ⟨w.heap.size + 1, 0, none⟩ = some (.int .i64 un) := cell_at hT1 rfl
  have qhT1_1 : w0.cell? ⟨w.heap.size + 1, 1, none⟩ = some (.int .i64 len) := cell_at hT1 rfl
  have qhT1_2 : w0.cell? ⟨w.heap.size + 1, 2, none⟩ = some (.int .i64 most) := cell_at hT1 rfl
  have qhT1_3 : w0.cell? ⟨w.heap.size + 1, 3, none⟩ = some (.slice P np capp) := cell_at hT1 rfl
  have qhT2_0 : w0.cell? ⟨w.heap.size + 1 + 1, 0, none⟩ = some (.int .i64 f) := cell_at hT2 rfl
  have qhT2_1 : w0.cell? ⟨w.heap.size + 1 + 1, 1, none⟩ = some (.int .i64 t) := cell_at hT2 rfl
  go_wp2_with fail
  refine wp_region_plan [(0, true), (1, true), (2, true), (4, true), (5, true), (6, true), (3, false), (7, true), (8, true), (9, true), (10, true), (11, true), (12, true), (13, true), (14, true), (15, true), (16, true), (17, true), (18, true), (19, true), (20, true), (21, false), (22, false), (23, false), (24, true)] w0.heap.size (by kernel_rfl) (by kernel_rfl) (Nat.le_refl _) (fun _ _ d _ _ h => by cases d <;> exact h) ?_
  have hC : Below w0.heap.size w0 w0 := Below.refl _ _
  have zhT0 : w.heap.size < w0.heap.size := (Array.getElem?_eq_some_iff.1 hT0).1
  have zhT1 : w.heap.size + 1 < w0.heap.size := (Array.getElem?_eq_some_iff.1 hT1).1
  have zhT2 : w.heap.size + 1 + 1 < w0.heap.size := (Array.getElem?_eq_some_iff.1 hT2).1
  repeat (first | (refine wpPlanA_skip _ rfl (by rfl) ?_; simp only [Act.put, List.setIfInBounds_toArray, List.set_cons_zero, List.set_cons_succ]) | (refine wpPlanA_soft _ ?_ rfl (by rfl) ?_ ?_; rotate_left; (intro wq hq hcq; go_simp; first | exact rfl | exact ⟨rfl, rfl⟩); simp only [Act.put, List.setIfInBounds_toArray, List.set_cons_zero, List.set_cons_succ]))
  refine wpPlanA_hard _ rfl (by rfl) (fun w1 hS K hK => ?_)
  go_simp
  refine (c102 c r A n cap l un len most P np capp ps D m capd d _ hl hp hd HDL.out (HP.below hS) (HD.below hS) (H.below hS)).mono ?_
  rintro e w2 ⟨rfl, hb⟩
  replace hS := hS.call hb rfl
  have hB2 := hB0.call hS rfl
  replace hC := hC.call hS rfl
  replace hT0 := blkb hT0 hS
  replace hT1 := blkb hT1 hS
  replace hT2 := blkb hT2 hS
  replace H := H.below hS
  replace HP := HP.below hS
  replace HD := HD.below hS
  refine hK _ _ hC ?_
  clear hS hb hB0 hK K
  try simp only [Act.put, List.setIfInBounds_toArray, List.set_cons_zero, List.set_cons_succ]
  rw [← HE.out]
  repeat (first | (refine wpPlanA_skip _ rfl (by rfl) ?_; simp only [Act.put, List.setIfInBounds_toArray, List.set_cons_zero, List.set_cons_succ]) | (refine wpPlanA_soft _ ?_ rfl (by rfl) ?_ ?_; rotate_left; (intro wq hq hcq; go_simp; first | exact rfl | exact ⟨rfl, rfl⟩); simp only [Act.put, List.setIfInBounds_toArray, List.set_cons_zero, List.set_cons_succ]))
  refine wpPlanA_hard _ rfl (by rfl) (fun w3 hS K hK => ?_)
  go_simp
  refine (c94q _ 14 _).mono ?_
  rintro e w4 ⟨rfl, hb⟩
  replace hS := hS.call hb rfl
  have hB4 := hB2.call hS rfl
  replace hC := hC.call hS rfl
  replace hT0 := blkb hT0 hS
  replace hT1 := blkb hT1 hS
  replace hT2 := blkb hT2 hS
  replace H := H.below hS
  replace HP := HP.below hS
  replace HD := HD.below hS
  refine hK _ _ hC ?_
  clear hS hb hB2 hK K
  try simp only [Act.put, List.setIfInBounds_toArray, List.set_cons_zero, List.set_cons_succ]
  rw [HW.out]
  repeat (first | (refine wpPlanA_skip _ rfl (by rfl) ?_; simp only [Act.put, List.setIfInBounds_toArray, List.set_cons_zero, List.set_cons_succ]) | (refine wpPlanA_soft _ ?_ rfl (by rfl) ?_ ?_; rotate_left; (intro wq hq hcq; go_simp; first | exact rfl | exact ⟨rfl, rfl⟩); simp only [Act.put, List.setIfInBounds_toArray, List.set_cons_zero, List.set_cons_succ]))
  refine wpPlanA_hard _ rfl (by rfl) (fun w5 hS K hK => ?_)
  have hB5 := hB4.call hS rfl
  replace hC := hC.call hS rfl
  replace hT0 := blkb hT0 hS
  replace hT1 := blkb hT1 hS
  replace hT2 := blkb hT2 hS
  replace H := H.below hS
  replace HP := HP.below hS
  replace HD := HD.below hS
  clear hS hB4
  go_simp
  have hb : Below w5.heap.size w5 (w5.alloc (Obj.cells #[.int .i64 E, .int .i64 X] 32)) := (Below.refl _ _).alloc (Nat.le_refl _) _
  have k1 : (w5.alloc (Obj.cells #[.int .i64 E, .int .i64 X] 32)).heap[w5.heap.size]? = some (Obj.cells #[.int .i64 E, .int .i64 X] 32) := heap_new rfl
  refine hK _ _ (hC.alloc hC.size _) ?_
  clear hK K
  replace hC := hC.call hb rfl
  have hB6 := hB5.call hb rfl
  replace hT0 := blkb hT0 hb
  replace hT1 := blkb hT1 hb
  replace hT2 := blkb hT2 hb
  replace H := H.below hb
  replace HP := HP.below hb
  replace HD := HD.below hb
  clear hb hB5
  generalize hWn : w5.alloc (Obj.cells #[.int .i64 E, .int .i64 X] 32) = w6 at k1 hC hB6 hT0 hT1 hT2 H HP HD ⊢
  clear hWn
  generalize hWn : w5.heap.size = bk1 at k1 ⊢
  clear hWn
  try simp only [Act.put, List.setIfInBounds_toArray, List.set_cons_zero, List.set_cons_succ]
  repeat (first | (refine wpPlanA_skip _ rfl (by rfl) ?_; simp only [Act.put, List.setIfInBounds_toArray, List.set_cons_zero, List.set_cons_succ]) | (refine wpPlanA_soft _ ?_ rfl (by rfl) ?_ ?_; rotate_left; (intro wq hq hcq; go_simp; first | exact rfl | exact ⟨rfl, rfl⟩); simp only [Act.put, List.setIfInBounds_toArray, List.set_cons_zero, List.set_cons_succ]))
  refine wpPlanA_hard _ rfl (by rfl) (fun w7 hS K hK => ?_)
  go_simp
  refine (c89q _ 2 2 [E, X] _ rfl (by omega) (RdS.of_block (cs := encI [E, X]) (blkb k1 hS) rfl)).mono ?_
  rintro e w8 ⟨rfl, hb⟩
  replace hS := hS.call hb rfl
  have hB8 := hB6.call hS rfl
  replace hC := hC.call hS rfl
  replace hT0 := blkb hT0 hS
  replace hT1 := blkb hT1 hS
  replace hT2 := blkb hT2 hS
  replace H := H.below hS
  replace HP := HP.below hS
  replace HD := HD.below hS
  replace k1 := blkb k1 hS
  refine hK _ _ hC ?_
  clear hS hb hB6 hK K
  try simp only [Act.put, List.setIfInBounds_toArray, List.set_cons_zero, List.set_cons_succ]
  rw [← HV.out]
  repeat (first | (refine wpPlanA_skip _ rfl (by rfl) ?_; simp only [Act.put, List.setIfInBounds_toArray, List.set_cons_zero, List.set_cons_succ]) | (refine wpPlanA_soft _ ?_ rfl (by rfl) ?_ ?_; rotate_left; (intro wq hq hcq; go_simp; first | exact rfl | exact ⟨rfl, rfl⟩); simp only [Act.put, List.setIfInBounds_toArray, List.set_cons_zero, List.set_cons_succ]))
  clear k1
  clear qhT0_0 qhT0_1 qhT0_2 qhT1_0 qhT1_1 qhT1_2 qhT1_3 qhT2_0 qhT2_1
  refine wpPlanA_nil (fun w9 hS => ?_)
  clear hC zhT0 zhT1 zhT2
  have hB9 := hB8.call hS rfl
  replace hT0 := blkb hT0 hS
  replace hT1 := blkb hT1 hS
  replace hT2 := blkb hT2 hS
  replace H := H.below hS
  replace HP := HP.below hS
  replace HD := HD.below hS
  clear hS hB8
  have qhT0_0 : w9.cell? ⟨w.heap.size, 0, none⟩ = some (.int .i64 c) := cell_at hT0 rfl
  have qhT0_1 : w9.cell? ⟨w.heap.size, 1, none⟩ = some (.int .i64 r) := cell_at hT0 rfl
  have qhT0_2 : w9.cell? ⟨w.heap.size, 2, none⟩ = some (.slice A n cap) := cell_at hT0 rfl
  have qhT1_0 : w9.cell? ⟨w.heap.size + 1, 0, none⟩ = some (.int .i64 un) := cell_at hT1 rfl
  have qhT1_1 : w9.cell? ⟨w.heap.size + 1, 1, none⟩ = some (.int .i64 len) := cell_at hT1 rfl
  have qhT1_2 : w9.cell? ⟨w.heap.size + 1, 2, none⟩ = some (.int .i64 most) := cell_at hT1 rfl
  have qhT1_3 : w9.cell? ⟨w.heap.size + 1, 3, none⟩ = some (.slice P np capp) := cell_at hT1 rfl
  have qhT2_0 : w9.cell? ⟨w.heap.size + 1 + 1, 0, none⟩ = some (.int .i64 f) := cell_at hT2 rfl
  have qhT2_1 : w9.cell? ⟨w.heap.size + 1 + 1, 1, none⟩ = some (.int .i64 t) := cell_at hT2 rfl
  go_wp2
  go_ret2
  exact ⟨rfl, hB9⟩

theorem c51_ok (c r : Nat) (A : Option Addr) (n cap : Nat) (l : List Int) (un : Int) (ln : Nat) (most : Int) (P : Option Addr) (np capp : Nat) (ps : List Pr) (D : Option Addr) (capd : Nat) (d : List (List Int)) (f t : Nat) (w : World) (g : Im.Gr c r l) (hc : c ≤ 16) (hr : r ≤ 16) (hcp : np ≤ capp) (hE : Mo.dta c r l un ln most ps d = 0) (hft : f ≤ t) (htr : t ≤ r) (hst : Steps w) (hdl : ∀ x, x ∈ d → x.length ≤ 1000000) (H : RdI w A n l) (HP : RdP w P np ps) (HD : RdD w D np d) :
  Calls Tryz.prog 51 #[.agg #[.int .i64 c, .int .i64 r, .slice A n cap], .agg #[.int .i64 un, .int .i64 (ln : Nat), .int .i64 most, .slice P np capp], .slice D np capd, .agg #[.int .i64 (f : Nat), .int .i64 (t : Nat)]] w fun en w' => ∃ X xc, en = .returned (.tuple #[.slice X (t * c - f * c) xc, .int .i64 0]) ∧ RdI w' X (t * c - f * c) (((Im.image n (ps.map (dlp c l un ln most)) d).drop (f * c)).take (t * c - f * c)) ∧ Below w.heap.size w w' := by
 have hE2 := Mo.dta_zero hE
 have hsv := surv_ok hE2.1
 have hln := H.len
 have hpl := HP.len
 have hgl := g.len
 have hn256 : n ≤ 256 := by have : c * r ≤ 16 * 16 := Nat.mul_le_mul hc hr; omega
 have hrn : r * c = n := by rw [Nat.mul_comm]; omega
 obtain ⟨lo, hlo⟩ : ∃ x, x = f * c := ⟨_, rfl⟩
 obtain ⟨hi, hhi⟩ : ∃ x, x = t * c := ⟨_, rfl⟩
 have hlh : lo ≤ hi := by rw [hlo, hhi]; exact Nat.mul_le_mul_right c hft
 have hhn : hi ≤ n := by rw [hhi, ← hrn]; exact Nat.mul_le_mul_right c htr
 obtain ⟨kk, hkk⟩ : ∃ x, x = hi - lo := ⟨_, rfl⟩
 have hw1 : IntKind.i64.wrap ((f : Int) * (c : Int)) = (lo : Int) := by rw [hlo, ← Int.natCast_mul]; rw [wrapI (by omega)]
 have hw2 : IntKind.i64.wrap ((t : Int) * (c : Int)) = (hi : Int) := by rw [hhi, ← Int.natCast_mul]; rw [wrapI (by omega)]
 obtain ⟨IM, hIM⟩ : ∃ x, x = Im.image n (ps.map (dlp c l un ln most)) d := ⟨_, rfl⟩
 rw [← hlo, ← hhi, ← hkk, ← hIM]
 have HIM := Lib.hid hIM
 clear hIM hrn
 have hs1 : decide ((lo : Int) < 0) = false := by simp
 have hs2 : decide ((hi : Int) < (lo : Int)) = false := by simp; omega
 have hs3 : decide ((n : Int) < (hi : Int)) = false := by simp; omega
 have hs4 : (0 : Int) ≤ (lo : Int) := by omega
 have hs5 : (lo : Int) ≤ (hi : Int) := by omega
 have hs6 : (hi : Int) ≤ (n : Int) := by omega
 have hs7 : (0 : Int) ≤ (hi : Int) := by omega
 have hsl : ∀ (g gc : Nat), n ≤ gc → ∀ (W : World), (Instr.slice 22 (.slice (some ⟨g, 0, none⟩) n gc) (some (.int .i64 ((lo : Nat) : Int))) (some (.int .i64 ((hi : Nat) : Int))) none).run Tryz.prog W = .ok (.slice (some ⟨g, offOf gc lo, none⟩) kk (gc - lo)) W := fun g gc h W => by rw [hkk]; exact slice_sub g n gc lo hi hlh hhn h W
 have hn0 : 0 < n := by have : 1 * 1 ≤ c * r := Nat.mul_le_mul g.c1 g.r1; omega
 have HDL := Lib.hid hdl
 have hl : n ≤ 1000000 := by omega
 have hp : np ≤ 1000000 := by have := hsv.2.2.2.2.1; omega
 have hd : np ≤ 1000000 := hp
 have HE : Hid (0 = Mo.first [Mo.surv c r l un ln most ps, Mo.dat ln ps d]) := Lib.hid hE.symm
 have HV : Hid (0 = Mo.first [0, 0]) := Lib.hid rfl
 have d1 : decide ((f : Int) < 0) = false := by simp
 have d2 : decide ((t : Int) < (f : Int)) = false := by simp; omega
 have d2n : decide (t < f) = false := by simp; omega
 have d3 : decide ((r : Int) < (t : Int)) = false := by simp; omega
 have d3n : decide (r < t) = false := by simp; omega
 clear hdl
 have HEE := Lib.hid hE
 have HE2 := Lib.hid hE2
 have HSV := Lib.hid hsv
 have HLN := Lib.hid hln
 have HPL := Lib.hid hpl
 have HKK := Lib.hid hkk
 clear hE hE2 hsv hln hpl hgl hkk hlo hhi
 obtain ⟨w0, hW⟩ : ∃ W, W = ((w.alloc (Obj.cells #[.int .i64 c, .int .i64 r, .slice A n cap] 35)).alloc (Obj.cells #[.int .i64 un, .int .i64 (ln : Nat), .int .i64 most, .slice P np capp] 39)).alloc (Obj.cells #[.int .i64 (f : Nat), .int .i64 (t : Nat)] 53) := ⟨_, rfl⟩
 have hT0 : w0.heap[w.heap.size]? = some (.cells #[.int .i64 c, .int .i64 r, .slice A n cap] 35 (0, 0)) := by rw [hW]; exact heap_old (by simp <;> omega) (heap_old (by simp <;> omega) (heap_new (by simp)))
 have hT1 : w0.heap[w.heap.size + 1]? = some (.cells #[.int .i64 un, .int .i64 (ln : Nat), .int .i64 most, .slice P np capp] 39 (0, 0)) := by rw [hW]; exact heap_old (by simp <;> omega) (heap_new (by simp))
 have hT2 : w0.heap[w.heap.size + 1 + 1]? = some (.cells #[.int .i64 (f : Nat), .int .i64 (t : Nat)] 53 (0, 0)) := by rw [hW]; exact heap_new (by simp)
 have hB0 : Below w.heap.size w w0 := by rw [hW]; exact ((((Below.refl _ _).alloc (by first | omega | (simp <;> omega)) _).alloc (by first | omega | (simp <;> omega)) _).alloc (by first | omega | (simp <;> omega)) _)
 replace H := H.below hB0
 replace HP := HP.below hB0
 replace HD := HD.below hB0
 replace hst := hst.below hB0
 go_enter Tryz.func51, Tryz.ntmps51
 go_wp2_with fail
 rw [← hW]
 clear hW
 have qhT0_0 : w0.cell? ⟨w.heap.size, 0, none⟩ = some (.int .i64 c) := cell_at hT0 rfl
 have qhT0_1 : w0.cell? ⟨w.heap.size, 1, none⟩ = some (.int .i64 r) := cell_at hT0 rfl
 have qhT0_2 : w0.cell? ⟨w.heap.size, 2, none⟩ = some (.slice A n cap) := cell_at hT0 rfl
 have qhT1_0 : w0.cell? ⟨w.heap.size + 1, 0, none⟩ = some (.int .i64 un) := cell_at hT1 rfl
 have qhT1_1 : w0.cell? ⟨w.heap.size + 1, 1, none⟩ = some (.int .i64 (ln : Nat)) := cell_at hT1 rfl
 have qhT1_2 : w0.cell? ⟨w.heap.size + 1, 2, none⟩ = some (.int .i64 most) := cell_at hT1 rfl
 have qhT1_3 : w0.cell? ⟨w.heap.size + 1, 3, none⟩ = some (.slice P np capp) := cell_at hT1 rfl
 have qhT2_0 : w0.cell? ⟨w.heap.size + 1 + 1, 0, none⟩ = some (.int .i64 (f : Nat)) := cell_at hT2 rfl
 have qhT2_1 : w0.cell? ⟨w.heap.size + 1 + 1, 1, none⟩ = some (.int .i64 (t : Nat)) := cell_at hT2 rfl
 go_wp2_with fail
 refine wp_region_plan [(0, true), (1, true), (2, true), (4, true), (5, true), (6, true), (3, false), (7, true), (8, true), (9, true), (10, true), (11, true), (12, true), (13, true), (14, true), (15, true), (16, true), (17, true), (18, true), (19, true), (20, true), (21, false), (22, false), (23, false), (24, true)] w0.heap.size (by kernel_rfl) (by kernel_rfl) (Nat.le_refl _) (fun _ _ d _ _ h => by cases d <;> exact h) ?_
 have hC : Below w0.heap.size w0 w0 := Below.refl _ _
 have zhT0 : w.heap.size < w0.heap.size := (Array.getElem?_eq_some_iff.1 hT0).1
 have zhT1 : w.heap.size + 1 < w0.heap.size := (Array.getElem?_eq_some_iff.1 hT1).1
 have zhT2 : w.heap.size + 1 + 1 < w0.heap.size := (Array.getElem?_eq_some_iff.1 hT2).1
 repeat (first | (refine wpPlanA_skip _ rfl (by rfl) ?_; simp only [Act.put, List.setIfInBounds_toArray, List.set_cons_zero, List.set_cons_succ]) | (refine wpPlanA_soft _ ?_ rfl (by rfl) ?_ ?_; rotate_left; (intro wq hq hcq; go_simp; first | exact rfl | exact ⟨rfl, rfl⟩); simp only [Act.put, List.setIfInBounds_toArray, List.set_cons_zero, List.set_cons_succ]))
 refine wpPlanA_hard _ rfl (by rfl) (fun w1 hS K hK => ?_)
 go_simp
 refine (c102 c r A n cap l un ln most P np capp ps D np capd d _ hl hp hd HDL.out (HP.below hS) (HD.below hS) (H.below hS)).mono ?_
 rintro e w2 ⟨rfl, hb⟩
 replace hS := hS.call hb rfl
 have hB2 := hB0.call hS rfl
 replace hC := hC.call hS rfl
 replace hT0 := blkb hT0 hS
 replace hT1 := blkb hT1 hS
 replace hT2 := blkb hT2 hS
 replace H := H.below hS
 replace HP := HP.below hS
 replace HD := HD.below hS
 replace hst := hst.below hS
 refine hK _ _ hC ?_
 clear hS hb hB0 hK K
 try simp only [Act.put, List.setIfInBounds_toArray, List.set_cons_zero, List.set_cons_succ]
 rw [← HE.out]
 repeat (first | (refine wpPlanA_skip _ rfl (by rfl) ?_; simp only [Act.put, List.setIfInBounds_toArray, List.set_cons_zero, List.set_cons_succ]) | (refine wpPlanA_soft _ ?_ rfl (by rfl) ?_ ?_; rotate_left; (intro wq hq hcq; go_simp; first | exact rfl | exact ⟨rfl, rfl⟩); simp only [Act.put, List.setIfInBounds_toArray, List.set_cons_zero, List.set_cons_succ]))
 refine wpPlanA_hard _ rfl (by rfl) (fun w3 hS K hK => ?_)
 go_simp
 refine (c94q false 14 _).mono ?_
 rintro e w4 ⟨rfl, hb⟩
 replace hS := hS.call hb rfl
 have hB4 := hB2.call hS rfl
 replace hC := hC.call hS rfl
 replace hT0 := blkb hT0 hS
 replace hT1 := blkb hT1 hS
 replace hT2 := blkb hT2 hS
 replace H := H.below hS
 replace HP := HP.below hS
 replace HD := HD.below hS
 replace hst := hst.below hS
 refine hK _ _ hC ?_
 clear hS hb hB2 hK K
 try simp only [Act.put, List.setIfInBounds_toArray, List.set_cons_zero, List.set_cons_succ]
 have hwhen : Mo.when false 14 = 0 := rfl
 rw [hwhen]
 clear hwhen
 repeat (first | (refine wpPlanA_skip _ rfl (by rfl) ?_; simp only [Act.put, List.setIfInBounds_toArray, List.set_cons_zero, List.set_cons_succ]) | (refine wpPlanA_soft _ ?_ rfl (by rfl) ?_ ?_; rotate_left; (intro wq hq hcq; go_simp; first | exact rfl | exact ⟨rfl, rfl⟩); simp only [Act.put, List.setIfInBounds_toArray, List.set_cons_zero, List.set_cons_succ]))
 refine wpPlanA_hard _ rfl (by rfl) (fun w5 hS K hK => ?_)
 have hB5 := hB4.call hS rfl
 replace hC := hC.call hS rfl
 replace hT0 := blkb hT0 hS
 replace hT1 := blkb hT1 hS
 replace hT2 := blkb hT2 hS
 replace H := H.below hS
 replace HP := HP.below hS
 replace HD := HD.below hS
 replace hst := hst.below hS
 clear hS hB4
 go_simp
 have hb : Below w5.heap.size w5 (w5.alloc (Obj.cells #[.int .i64 0, .int .i64 0] 32)) := (Below.refl _ _).alloc (Nat.le_refl _) _
 have k1 : (w5.alloc (Obj.cells #[.int .i64 0, .int .i64 0] 32)).heap[w5.heap.size]? = some (Obj.cells #[.int .i64 0, .int .i64 0] 32) := heap_new rfl
 refine hK _ _ (hC.alloc hC.size _) ?_
 clear hK K
 replace hC := hC.call hb rfl
 have hB6 := hB5.call hb rfl
 replace hT0 := blkb hT0 hb
 replace hT1 := blkb hT1 hb
 replace hT2 := blkb hT2 hb
 replace H := H.below hb
 replace HP := HP.below hb
 replace HD := HD.below hb
 replace hst := hst.below hb
 clear hb hB5
 generalize hWn : w5.alloc (Obj.cells #[.int .i64 0, .int .i64 0] 32) = w6 at k1 hC hB6 hT0 hT1 hT2 H HP HD hst ⊢
 clear hWn
 generalize hWn : w5.heap.size = bk1 at k1 ⊢
 clear hWn
 try simp only [Act.put, List.setIfInBounds_toArray, List.set_cons_zero, List.set_cons_succ]
 repeat (first | (refine wpPlanA_skip _ rfl (by rfl) ?_; simp only [Act.put, List.setIfInBounds_toArray, List.set_cons_zero, List.set_cons_succ]) | (refine wpPlanA_soft _ ?_ rfl (by rfl) ?_ ?_; rotate_left; (intro wq hq hcq; go_simp; first | exact rfl | exact ⟨rfl, rfl⟩); simp only [Act.put, List.setIfInBounds_toArray, List.set_cons_zero, List.set_cons_succ]))
 refine wpPlanA_hard _ rfl (by rfl) (fun w7 hS K hK => ?_)
 go_simp
 refine (c89q _ 2 2 [0, 0] _ rfl (by omega) (RdS.of_block (cs := encI [0, 0]) (blkb k1 hS) rfl)).mono ?_
 rintro e w8 ⟨rfl, hb⟩
 replace hS := hS.call hb rfl
 have hB8 := hB6.call hS rfl
 replace hC := hC.call hS rfl
 replace hT0 := blkb hT0 hS
 replace hT1 := blkb hT1 hS
 replace hT2 := blkb hT2 hS
 replace H := H.below hS
 replace HP := HP.below hS
 replace HD := HD.below hS
 replace hst := hst.below hS
 replace k1 := blkb k1 hS
 refine hK _ _ hC ?_
 clear hS hb hB6 hK K
 try simp only [Act.put, List.setIfInBounds_toArray, List.set_cons_zero, List.set_cons_succ]
 rw [← HV.out]
 repeat (first | (refine wpPlanA_skip _ rfl (by rfl) ?_; simp only [Act.put, List.setIfInBounds_toArray, List.set_cons_zero, List.set_cons_succ]) | (refine wpPlanA_soft _ ?_ rfl (by rfl) ?_ ?_; rotate_left; (intro wq hq hcq; go_simp; first | exact rfl | exact ⟨rfl, rfl⟩); simp only [Act.put, List.setIfInBounds_toArray, List.set_cons_zero, List.set_cons_succ]))
 clear k1
 clear qhT0_0 qhT0_1 qhT0_2 qhT1_0 qhT1_1 qhT1_2 qhT1_3 qhT2_0 qhT2_1
 refine wpPlanA_nil (fun w9 hS => ?_)
 clear hC zhT0 zhT1 zhT2
 have hB9 := hB8.call hS rfl
 replace hT0 := blkb hT0 hS
 replace hT1 := blkb hT1 hS
 replace hT2 := blkb hT2 hS
 replace H := H.below hS
 replace HP := HP.below hS
 replace HD := HD.below hS
 replace hst := hst.below hS
 clear hS hB8
 have qhT0_0 : w9.cell? ⟨w.heap.size, 0, none⟩ = some (.int .i64 c) := cell_at hT0 rfl
 have qhT0_1 : w9.cell? ⟨w.heap.size, 1, none⟩ = some (.int .i64 r) := cell_at hT0 rfl
 have qhT0_2 : w9.cell? ⟨w.heap.size, 2, none⟩ = some (.slice A n cap) := cell_at hT0 rfl
 have qhT1_0 : w9.cell? ⟨w.heap.size + 1, 0, none⟩ = some (.int .i64 un) := cell_at hT1 rfl
 have qhT1_1 : w9.cell? ⟨w.heap.size + 1, 1, none⟩ = some (.int .i64 (ln : Nat)) := cell_at hT1 rfl
 have qhT1_2 : w9.cell? ⟨w.heap.size + 1, 2, none⟩ = some (.int .i64 most) := cell_at hT1 rfl
 have qhT1_3 : w9.cell? ⟨w.heap.size + 1, 3, none⟩ = some (.slice P np capp) := cell_at hT1 rfl
 have qhT2_0 : w9.cell? ⟨w.heap.size + 1 + 1, 0, none⟩ = some (.int .i64 (f : Nat)) := cell_at hT2 rfl
 have qhT2_1 : w9.cell? ⟨w.heap.size + 1 + 1, 1, none⟩ = some (.int .i64 (t : Nat)) := cell_at hT2 rfl
 go_wp2_with fail
 refine wp_region_plan [(0, true), (1, true), (2, true), (4, true), (5, true), (6, true), (7, true), (8, true), (9, true), (10, true), (11, true), (12, true), (13, true), (3, false), (14, true), (15, false), (16, true), (17, true)] w9.heap.size (by kernel_rfl) (by kernel_rfl) (Nat.le_refl _) (fun _ _ d _ _ h => by cases d <;> exact h) ?_
 have hC : Below w9.heap.size w9 w9 := Below.refl _ _
 have zhT0 : w.heap.size < w9.heap.size := (Array.getElem?_eq_some_iff.1 hT0).1
 have zhT1 : w.heap.size + 1 < w9.heap.size := (Array.getElem?_eq_some_iff.1 hT1).1
 have zhT2 : w.heap.size + 1 + 1 < w9.heap.size := (Array.getElem?_eq_some_iff.1 hT2).1
 repeat (first | (refine wpPlanA_skip _ rfl (by rfl) ?_; simp only [Act.put, List.setIfInBounds_toArray, List.set_cons_zero, List.set_cons_succ]) | (refine wpPlanA_soft _ ?_ rfl (by rfl) ?_ ?_; rotate_left; (intro wq hq hcq; go_simp; first | exact rfl | exact ⟨rfl, rfl⟩); simp only [Act.put, List.setIfInBounds_toArray, List.set_cons_zero, List.set_cons_succ]))
 refine wpPlanA_hard _ rfl (by rfl) (fun w10 hS K hK => ?_)
 go_simp
 refine (c104 c r A n cap l un ln most P np capp ps D capd d _ g hc hr HSV.out.2.1 (by have := HSV.out.2.2.1; omega) (by have := HSV.out.2.2.2.2.1; have := HPL.out; omega) hcp (fun p hp => by have := HSV.out.2.2.2.2.2 p hp; have := HLN.out; omega) HE2.out.2.2.1 HE2.out.2.2.2 (H.below hS) (HP.below hS) (HD.below hS) (hst.below hS)).mono ?_
 rintro e w11 ⟨v, rfl, hrow, hb⟩
 replace hS := hS.call hb rfl
 have hB11 := hB9.call hS rfl
 replace hC := hC.call hS rfl
 replace hT0 := blkb hT0 hS
 replace hT1 := blkb hT1 hS
 replace hT2 := blkb hT2 hS
 replace H := H.below hS
 replace HP := HP.below hS
 replace HD := HD.below hS
 replace hst := hst.below hS
 rw [← HIM.out] at hrow
 obtain ⟨go, gc, rfl, hrw2⟩ := RowI.of_own hn0 hrow
 clear hrow
 have hrow := hrw2
 clear hrw2
 have hgc : n ≤ gc := by obtain ⟨_, _, _, h, _⟩ := hrow; exact h
 have hsg := hsl go gc hgc
 have hs9 : (hi : Int) ≤ (gc : Int) := by omega
 refine hK _ _ hC ?_
 clear hS hb hB9 hK K
 try simp only [Act.put, List.setIfInBounds_toArray, List.set_cons_zero, List.set_cons_succ]
 repeat (first | (refine wpPlanA_skip _ rfl (by rfl) ?_; simp only [Act.put, List.setIfInBounds_toArray, List.set_cons_zero, List.set_cons_succ]) | (refine wpPlanA_soft _ ?_ rfl (by rfl) ?_ ?_; rotate_left; (intro wq hq hcq; go_simp; first | exact rfl | exact ⟨rfl, rfl⟩); simp only [Act.put, List.setIfInBounds_toArray, List.set_cons_zero, List.set_cons_succ]))
 refine wpPlanA_hard _ rfl (by rfl) (fun w12 hS K hK => ?_)
 go_simp
 refine (c124z go (offOf gc lo) kk (gc - lo) _ _ (by have := HKK.out; omega) ((hrow.below hS).rd.subo lo kk (by have := HKK.out; omega) hgc)).mono ?_
 rintro e w13 ⟨vv, rfl, hown, hb⟩
 replace hS := hS.call hb rfl
 have hB13 := hB11.call hS rfl
 replace hC := hC.call hS rfl
 replace hT0 := blkb hT0 hS
 replace hT1 := blkb hT1 hS
 replace hT2 := blkb hT2 hS
 replace H := H.below hS
 replace HP := HP.below hS
 replace HD := HD.below hS
 replace hst := hst.below hS
 replace hrow := hrow.below hS
 obtain ⟨X, xc, rfl, hX⟩ := own_rdI hown
 refine hK _ _ hC ?_
 clear hS hb hB11 hK K
 try simp only [Act.put, List.setIfInBounds_toArray, List.set_cons_zero, List.set_cons_succ]
 repeat (first | (refine wpPlanA_skip _ rfl (by rfl) ?_; simp only [Act.put, List.setIfInBounds_toArray, List.set_cons_zero, List.set_cons_succ]) | (refine wpPlanA_soft _ ?_ rfl (by rfl) ?_ ?_; rotate_left; (intro wq hq hcq; go_simp; first | exact rfl | exact ⟨rfl, rfl⟩); simp only [Act.put, List.setIfInBounds_toArray, List.set_cons_zero, List.set_cons_succ]))
 clear qhT0_0 qhT0_1 qhT0_2 qhT1_0 qhT1_1 qhT1_2 qhT1_3 qhT2_0 qhT2_1
 refine wpPlanA_nil (fun w14 hS => ?_)
 clear hC zhT0 zhT1 zhT2
 have hB14 := hB13.call hS rfl
 replace hT0 := blkb hT0 hS
 replace hT1 := blkb hT1 hS
 replace hT2 := blkb hT2 hS
 replace H := H.below hS
 replace HP := HP.below hS
 replace HD := HD.below hS
 replace hst := hst.below hS
 replace hrow := hrow.below hS
 replace hX := hX.below hS
 clear hS hB13
 have qhT0_0 : w14.cell? ⟨w.heap.size, 0, none⟩ = some (.int .i64 c) := cell_at hT0 rfl
 have qhT0_1 : w14.cell? ⟨w.heap.size, 1, none⟩ = some (.int .i64 r) := cell_at hT0 rfl
 have qhT0_2 : w14.cell? ⟨w.heap.size, 2, none⟩ = some (.slice A n cap) := cell_at hT0 rfl
 have qhT1_0 : w14.cell? ⟨w.heap.size + 1, 0, none⟩ = some (.int .i64 un) := cell_at hT1 rfl
 have qhT1_1 : w14.cell? ⟨w.heap.size + 1, 1, none⟩ = some (.int .i64 (ln : Nat)) := cell_at hT1 rfl
 have qhT1_2 : w14.cell? ⟨w.heap.size + 1, 2, none⟩ = some (.int .i64 most) := cell_at hT1 rfl
 have qhT1_3 : w14.cell? ⟨w.heap.size + 1, 3, none⟩ = some (.slice P np capp) := cell_at hT1 rfl
 have qhT2_0 : w14.cell? ⟨w.heap.size + 1 + 1, 0, none⟩ = some (.int .i64 (f : Nat)) := cell_at hT2 rfl
 have qhT2_1 : w14.cell? ⟨w.heap.size + 1 + 1, 1, none⟩ = some (.int .i64 (t : Nat)) := cell_at hT2 rfl
 have HX := Lib.hid hX
 go_wp2
 go_ret2
 exact ⟨X, xc, rfl, HX.out, hB14⟩

end Go.Proofs.YtdimmlljjmmdbaaGreatDoor
