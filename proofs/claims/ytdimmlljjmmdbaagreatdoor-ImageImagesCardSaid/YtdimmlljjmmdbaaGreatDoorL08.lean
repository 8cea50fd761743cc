/- A part of the proofs about chapter 7 (image): contracts of functions and plain laws (V84). -/
import Derived.Test.YtdimmlljjmmdbaaGreatDoorB83
import Derived.Test.YtdimmlljjmmdbaaGreatDoorB16
import Derived.Test.YtdimmlljjmmdbaaGreatDoorB67
import Derived.Test.YtdimmlljjmmdbaaGreatDoorA10
set_option linter.all false
namespace Go.Proofs.YtdimmlljjmmdbaaGreatDoor
open Go.RowKit Go.Shelf
set_option maxHeartbeats 16000000
set_option maxRecDepth 100000
theorem flat_le17 : ∀ {d : List (List Int)} {B : Nat}, (∀ x, x ∈ d → x.length ≤ B) → d.flatten.length ≤ d.length * B
 | [], _, _ => by simp
 | x :: d, B, h => by
  have h1 := flat_le17 (d := d) (fun y hy => h y (by simp [hy]))
  have h2 := h x (by simp)
  rw [List.flatten_cons, List.length_append, List.length_cons, Nat.add_mul]
  omega
theorem img_calls (c r : Int) (n np md : Nat) (l : List Int) (un len most : Int) (ps : List Pr) (d : List (List Int)) (f t : Int) (hln : l.length = n) (hpl : ps.length = np) (hdl : d.length = md) (hn30 : n ≤ 30) (hp17 : np ≤ 17) (hd17 : md ≤ 17) (hd45 : ∀ x, x ∈ d → x.length ≤ 45) :
  ∃ (E1 E2 : Int) (IM TI FL : List Int) (iN tN fN : Nat),
   (E1 ≠ 0 → (iN = 0 ∧ IM = []) ∧ (fN = 0 ∧ FL = []) ∧ E2 ≠ 0) ∧ (E2 ≠ 0 → tN = 0 ∧ TI = []) ∧ iN ≤ 1000000 ∧ tN ≤ 1000000 ∧ fN ≤ 1000000 ∧
   (∀ (B C D : Option Addr) (cb cc cd : Nat) (W : World), np ≤ cc → Steps W → RdI W B n l → RdP W C np ps → RdD W D md d → Calls Tryz.prog 50 #[.agg #[.int .i64 c, .int .i64 r, .slice B n cb], .agg #[.int .i64 un, .int .i64 len, .int .i64 most, .slice C np cc], .slice D md cd] W fun en w' => ∃ X xc, en = .returned (.tuple #[.slice X iN xc, .int .i64 E1]) ∧ RdI w' X iN IM ∧ Below W.heap.size W w') ∧
   (∀ (B C D : Option Addr) (cb cc cd : Nat) (W : World), np ≤ cc → Steps W → RdI W B n l → RdP W C np ps → RdD W D md d → Calls Tryz.prog 51 #[.agg #[.int .i64 c, .int .i64 r, .slice B n cb], .agg #[.int .i64 un, .int .i64 len, .int .i64 most, .slice C np cc], .slice D md cd, .agg #[.int .i64 f, .int .i64 t]] W fun en w' => ∃ X xc, en = .returned (.tuple #[.slice X tN xc, .int .i64 E2]) ∧ RdI w' X tN TI ∧ Below W.heap.size W w') ∧
   (∀ (B C D : Option Addr) (cb cc cd : Nat) (W : World), RdI W B n l → RdP W C np ps → RdD W D md d → Calls Tryz.prog 49 #[.agg #[.int .i64 c, .int .i64 r, .slice B n cb], .agg #[.int .i64 un, .int .i64 len, .int .i64 most, .slice C np cc], .slice D md cd] W fun en w' => ∃ X xc, en = .returned (.tuple #[.slice X fN xc, .int .i64 E1]) ∧ RdI w' X fN FL ∧ Below W.heap.size W w') ∧
   (∀ (B C D : Option Addr) (cb cc cd : Nat) (W : World), RdI W B n l → RdP W C np ps → RdD W D md d → Calls Tryz.prog 52 #[.agg #[.int .i64 c, .int .i64 r, .slice B n cb], .agg #[.int .i64 un, .int .i64 len, .int .i64 most, .slice C np cc], .slice D md cd] W fun en w' => en = .returned (.int .i64 E1) ∧ Below W.heap.size W w') ∧
   (∀ (B C D : Option Addr) (cb cc cd : Nat) (W : World), RdI W B n l → RdP W C np ps → RdD W D md d → Calls Tryz.prog 53 #[.agg #[.int .i64 c, .int .i64 r, .slice B n cb], .agg #[.int .i64 un, .int .i64 len, .int .i64 most, .slice C np cc], .slice D md cd, .agg #[.int .i64 f, .int .i64 t]] W fun en w' => en = .returned (.int .i64 E2) ∧ Below W.heap.size W w') ∧
   (E1 = 0 → (∀ (B C D : Option Addr) (cb cc cd : Nat) (W : World), RdI W B n l → RdP W C np ps → RdD W D md d → Calls Tryz.prog 54 #[.agg #[.int .i64 c, .int .i64 r, .slice B n cb], .agg #[.int .i64 un, .int .i64 len, .int .i64 most, .slice C np cc], .slice D md cd] W fun en w' => ∃ X xc, en = .returned (.slice X iN xc) ∧ RdI w' X iN IM ∧ Below W.heap.size W w')) ∧
   (E1 = 0 → ∀ (D : Option Addr) (cd : Nat) (W : World), RdD W D md d → Calls Tryz.prog 55 #[.slice D md cd] W fun en w' => ∃ X xc, en = .returned (.slice X fN xc) ∧ RdI w' X fN FL ∧ Below W.heap.size W w') ∧
   (E2 = 0 → (∀ (B C D : Option Addr) (cb cc cd : Nat) (W : World), RdI W B n l → RdP W C np ps → RdD W D md d → Calls Tryz.prog 56 #[.agg #[.int .i64 c, .int .i64 r, .slice B n cb], .agg #[.int .i64 un, .int .i64 len, .int .i64 most, .slice C np cc], .slice D md cd, .agg #[.int .i64 f, .int .i64 t]] W fun en w' => ∃ X xc, en = .returned (.slice X tN xc) ∧ RdI w' X tN TI ∧ Below W.heap.size W w')) := by
 have hl : n ≤ 1000000 := by omega
 have hp : np ≤ 1000000 := by omega
 have hd : md ≤ 1000000 := by omega
 have hdx : ∀ x, x ∈ d → x.length ≤ 1000000 := fun x hx => Nat.le_trans (hd45 x hx) (by decide)
 have hdy : ∀ x, x ∈ d → x.length ≤ 1000 := fun x hx => Nat.le_trans (hd45 x hx) (by decide)
 have hfl : d.flatten.length ≤ 1000000 := by
  have h1 := flat_le17 hd45
  have h2 : d.length * 45 ≤ 17 * 45 := Nat.mul_le_mul_right 45 (by omega)
  omega
 by_cases hE : Mo.dta c r l un len most ps d = 0
 ·obtain ⟨h1, h2, h3, h4⟩ := Mo.dta_zero hE
  obtain ⟨s1, s2, s3, s4, s5, s6⟩ := surv_ok h1
  obtain ⟨c, r, rfl, rfl, hc, hr, g⟩ := Mo.ground_ok s1
  obtain ⟨ln, rfl⟩ : ∃ k : Nat, len = k := ⟨len.toNat, by omega⟩
  obtain rfl : md = np := by omega
  have hgl := g.len
  have hil : (Im.image n (ps.map (dlp c l un ln most)) d).length = n := by
   unfold Im.image
   rw [Im.image_fold_len]
   ·simp
   ·intro x hx
    obtain ⟨p, _, e⟩ := List.mem_map.1 (List.of_mem_zip hx).1
    rw [← e, dlp_len]; simp [hln]
  have k50 : (∀ (B C D : Option Addr) (cb cc cd : Nat) (W : World), md ≤ cc → Steps W → RdI W B n l → RdP W C md ps → RdD W D md d → Calls Tryz.prog 50 #[.agg #[.int .i64 (c : Nat), .int .i64 (r : Nat), .slice B n cb], .agg #[.int .i64 un, .int .i64 (ln : Nat), .int .i64 most, .slice C md cc], .slice D md cd] W fun en w' => ∃ X xc, en = .returned (.tuple #[.slice X n xc, .int .i64 0]) ∧ RdI w' X n (Im.image n (ps.map (dlp c l un ln most)) d) ∧ Below W.heap.size W w') := by
   intro B C D cb cc cd W hcc hst k1 k2 k3
   refine (c50_ok c r B n cb l un ln most C md cc ps D cd d W g hc hr hcc k1 k2 k3 hst hE).mono ?_
   rintro e w' ⟨v, rfl, ho, hb⟩
   obtain ⟨X, xc, rfl, hX⟩ := own_rdI ho
   exact ⟨X, xc, rfl, hX, hb⟩
  have k54 := fun (B C D : Option Addr) (cb cc cd : Nat) (W : World) k1 k2 k3 => c54 c r B n cb l un ln most C md cc ps D cd d W g hc hr s2 (by omega) (by omega) (fun p hp => by have := s6 p hp; omega) h3 h4 k1 k2 k3
  have hT : ∃ (E2 : Int) (TI : List Int), E2 = Mo.first [Mo.dta c r l un ln most ps d, spanE f t r] ∧ TI.length ≤ 1000000 ∧ (E2 ≠ 0 → TI = []) ∧
   (∀ (B C D : Option Addr) (cb cc cd : Nat) (W : World), md ≤ cc → Steps W → RdI W B n l → RdP W C md ps → RdD W D md d → Calls Tryz.prog 51 #[.agg #[.int .i64 (c : Nat), .int .i64 (r : Nat), .slice B n cb], .agg #[.int .i64 un, .int .i64 (ln : Nat), .int .i64 most, .slice C md cc], .slice D md cd, .agg #[.int .i64 f, .int .i64 t]] W fun en w' => ∃ X xc, en = .returned (.tuple #[.slice X TI.length xc, .int .i64 E2]) ∧ RdI w' X TI.length TI ∧ Below W.heap.size W w') ∧
   (E2 = 0 → (∀ (B C D : Option Addr) (cb cc cd : Nat) (W : World), RdI W B n l → RdP W C md ps → RdD W D md d → Calls Tryz.prog 56 #[.agg #[.int .i64 (c : Nat), .int .i64 (r : Nat), .slice B n cb], .agg #[.int .i64 un, .int .i64 (ln : Nat), .int .i64 most, .slice C md cc], .slice D md cd, .agg #[.int .i64 f, .int .i64 t]] W fun en w' => ∃ X xc, en = .returned (.slice X TI.length xc) ∧ RdI w' X TI.length TI ∧ Below W.heap.size W w')) := by
   by_cases hsp : spanE f t r = 0
   ·obtain ⟨t1, t2, t3⟩ := spanE_zero hsp
    obtain ⟨f, rfl⟩ : ∃ k : Nat, f = k := ⟨f.toNat, by omega⟩
    obtain ⟨t, rfl⟩ : ∃ k : Nat, t = k := ⟨t.toNat, by omega⟩
    have hhn : t * c ≤ r * c := Nat.mul_le_mul_right c (by omega)
    have hrn : r * c = n := by rw [Nat.mul_comm]; omega
    have hft : f * c ≤ t * c := Nat.mul_le_mul_right c (by omega)
    have htl : (((Im.image n (ps.map (dlp c l un ln most)) d).drop (f * c)).take (t * c - f * c)).length = t * c - f * c := by
     rw [List.length_take, List.length_drop, hil]; omega
    refine ⟨0, ((Im.image n (ps.map (dlp c l un ln most)) d).drop (f * c)).take (t * c - f * c), by rw [hE, hsp]; rfl, by omega, fun h => absurd rfl h, ?_, ?_⟩
    ·intro B C D cb cc cd W hcc hst k1 k2 k3
     rw [htl]
     exact c51_ok c r B n cb l un ln most C md cc ps D cd d f t W g hc hr hcc hE (by omega) (by omega) hst hdx k1 k2 k3
    ·intro _ B C D cb cc cd W k1 k2 k3
     rw [htl]
     exact c56 c r B n cb l un ln most C md cc ps D cd d f t W g hc hr hE (by omega) (by omega) k1 k2 k3
   ·have hne : Mo.first [Mo.dta c r l un ln most ps d, spanE f t r] ≠ 0 := by
     rw [hE]; simp [Mo.first, hsp]
    refine ⟨_, [], rfl, by simp, fun _ => rfl, ?_, fun h => absurd h hne⟩
    intro B C D cb cc cd W hcc hst k1 k2 k3
    refine (c51_bad c r B n cb l un ln most C md cc ps D md cd d f t W hl hp hd hdx k2 k3 k1 hne).mono ?_
    rintro e w' ⟨rfl, hb⟩
    exact ⟨none, 0, rfl, rd_none _, hb⟩
  obtain ⟨E2, TI, hE2, hTl, hT0, k51, k56⟩ := hT
  refine ⟨0, E2, Im.image n (ps.map (dlp c l un ln most)) d, TI, d.flatten, n, TI.length, d.flatten.length, fun h => absurd rfl h, fun h => ⟨by rw [hT0 h]; rfl, hT0 h⟩, hl, hTl, hfl, k50, k51, ?_, ?_, ?_, fun _ => ?_, fun _ => ?_, k56⟩
  ·intro B C D cb cc cd W k1 k2 k3
   exact c49_ok c r B n cb l un ln most C md cc ps D md cd d W hl hp (by omega) hdy k1 k2 k3 hE
  ·intro B C D cb cc cd W k1 k2 k3
   have h := c52 c r B n cb l un ln most C md cc ps D md cd d W hl hp hd hdx k2 k3 k1
   rw [hE] at h
   exact h
  ·intro B C D cb cc cd W k1 k2 k3
   rw [hE2]
   exact c53 c r B n cb l un ln most C md cc ps D md cd d f t W hl hp hd hdx k2 k3 k1
  ·intro B C D cb cc cd W k1 k2 k3
   refine (k54 B C D cb cc cd W k1 k2 k3).mono ?_
   rintro e w' ⟨go, rfl, hrow, hb⟩
   exact ⟨_, _, rfl, hrow.rd, hb⟩
  ·intro D cd W k3
   refine (c55 D md cd d W hd hfl k3).mono ?_
   rintro e w' ⟨v, rfl, ho, hb⟩
   obtain ⟨X, xc, rfl, hX⟩ := own_rdI ho
   exact ⟨X, xc, rfl, hX, hb⟩
 ·have hne : Mo.first [Mo.dta c r l un len most ps d, spanE f t r] ≠ 0 := by simp [Mo.first, hE]
  refine ⟨Mo.dta c r l un len most ps d, Mo.first [Mo.dta c r l un len most ps d, spanE f t r], [], [], [], 0, 0, 0, fun _ => ⟨⟨rfl, rfl⟩, ⟨rfl, rfl⟩, hne⟩, fun _ => ⟨rfl, rfl⟩, by omega, by omega, by omega, ?_, ?_, ?_, ?_, ?_, fun h => absurd h hE, fun h => absurd h hE, fun h => absurd h hne⟩
  ·intro B C D cb cc cd W hcc hst k1 k2 k3
   refine (c50_bad c r B n cb l un len most C np cc ps D md cd d W hl hp hd hdx k2 k3 k1 hE).mono ?_
   rintro e w' ⟨rfl, hb⟩
   exact ⟨none, 0, rfl, rd_none _, hb⟩
  ·intro B C D cb cc cd W hcc hst k1 k2 k3
   refine (c51_bad c r B n cb l un len most C np cc ps D md cd d f t W hl hp hd hdx k2 k3 k1 hne).mono ?_
   rintro e w' ⟨rfl, hb⟩
   exact ⟨none, 0, rfl, rd_none _, hb⟩
  ·intro B C D cb cc cd W k1 k2 k3
   refine (c49_bad c r B n cb l un len most C np cc ps D md cd d W hl hp hd hdx k1 k2 k3 hE).mono ?_
   rintro e w' ⟨rfl, hb⟩
   exact ⟨none, 0, rfl, rd_none _, hb⟩
  ·intro B C D cb cc cd W k1 k2 k3
   exact c52 c r B n cb l un len most C np cc ps D md cd d W hl hp hd hdx k2 k3 k1
  ·intro B C D cb cc cd W k1 k2 k3
   exact c53 c r B n cb l un len most C np cc ps D md cd d f t W hl hp hd hdx k2 k3 k1
theorem c33s (D : Option Addr) (m capd : Nat) (d : List (List Int)) (w : World) (hm : m ≤ 17) (hsh : ∀ x, x ∈ d → x.length ≤ 45) (HD : RdD w D m d) :
  Calls Tryz.prog 33 #[.slice D m capd] w fun en w' => ∃ B cb, en = .returned (.slice B m cb) ∧ RdD w' B m d ∧ Below w.heap.size w w' :=
 c33 D m capd d w (by omega) (fun x hx => Nat.le_trans (hsh x hx) (by decide)) HD

theorem l8 (c r : Int) (A : Option Addr) (n cap : Nat) (l : List Int) (un len most : Int) (P : Option Addr) (np capp : Nat) (ps : List Pr) (D : Option Addr) (md cd : Nat) (dl : List (List Int)) (E : Option Addr) (me ce : Nat) (el : List (List Int)) (M : Option Addr) (mk cm : Nat) (ms : List Int) (s f i : Int) (w : World) (hmd : md ≤ 9223372036854775807) (hme : me ≤ 9223372036854775807) (H : RdI w A n l) (HP : RdP w P np ps) (HD : RdD w D md dl) (HE : RdD w E me el) (HM : RdI w M mk ms) (hst : Steps w) :
  Calls Tryz.prog 8 #[.agg #[.int .i64 c, .int .i64 r, .slice A n cap], .agg #[.int .i64 un, .int .i64 len, .int .i64 most, .slice P np capp], .agg #[.slice D md cd, .slice E me ce, .slice M mk cm, .int .i64 s, .int .i64 f, .int .i64 i]] w fun en w' => en = .returned (.bool true) ∧ Below w.heap.size w w' := by
 obtain ⟨w0, hW⟩ : ∃ W, W = ((w.alloc (Obj.cells #[.int .i64 c, .int .i64 r, .slice A n cap] 24)).alloc (Obj.cells #[.int .i64 un, .int .i64 len, .int .i64 most, .slice P np capp] 27)).alloc (Obj.cells #[.slice D md cd, .slice E me ce, .slice M mk cm, .int .i64 s, .int .i64 f, .int .i64 i] 55) := ⟨_, rfl⟩
 have hT0 : w0.heap[w.heap.size]? = some (.cells #[.int .i64 c, .int .i64 r, .slice A n cap] 24 (0, 0)) := by rw [hW]; exact heap_old (by simp <;> omega) (heap_old (by simp <;> omega) (heap_new (by simp)))
 have hT1 : w0.heap[w.heap.size + 1]? = some (.cells #[.int .i64 un, .int .i64 len, .int .i64 most, .slice P np capp] 27 (0, 0)) := by rw [hW]; exact heap_old (by simp <;> omega) (heap_new (by simp))
 have hT2 : w0.heap[w.heap.size + 1 + 1]? = some (.cells #[.slice D md cd, .slice E me ce, .slice M mk cm, .int .i64 s, .int .i64 f, .int .i64 i] 55 (0, 0)) := by rw [hW]; exact heap_new (by simp)
 have hB0 : Below w.heap.size w w0 := by rw [hW]; exact ((((Below.refl _ _).alloc (by first | omega | (simp <;> omega)) _).alloc (by first | omega | (simp <;> omega)) _).alloc (by first | omega | (simp <;> omega)) _)
 replace H := H.below hB0
 replace HP := HP.below hB0
 replace HD := HD.below hB0
 replace HE := HE.below hB0
 replace HM := HM.below hB0
 replace hst := hst.below hB0
 go_enter Tryz.func8, Tryz.ntmps8
 go_wp2_with fail
 rw [← hW]
 clear hW
 have qhT0_0 : w0.cell? ⟨w.heap.size, 0, none⟩ = some (.int .i64 c) := cell_at hT0 rfl
 have qhT0_1 : w0.cell? ⟨w.heap.size, 1, none⟩ = some (.int .i64 r) := cell_at hT0 rfl
 have qhT0_2 : w0.cell? ⟨w.heap.size, 2, none⟩ = some (.slice A n cap) := cell_at hT0 rfl
 have qhT1_0 : w0.cell? ⟨w.heap.size + 1, 0, none⟩ = some (.int .i64 un) := cell_at hT1 rfl
 have qhT1_1 : w0.cell? ⟨w.heap.size + 1, 1, none⟩ = some (.int .i64 len) := cell_at hT1 rfl
 have qhT1_2 : w0.cell? ⟨w.heap.size + 1, 2, none⟩ = some (.int .i64 most) := cell_at hT1 rfl
 have qhT1_3 : w0.cell? ⟨w.heap.size + 1, 3, none⟩ = some (.slice P np capp) := cell_at hT1 rfl
 have qhT2_0 : w0.cell? ⟨w.heap.size + 1 + 1, 0, none⟩ = some (.slice D md cd) := cell_at hT2 rfl
 have qhT2_1 : w0.cell? ⟨w.heap.size + 1 + 1, 1, none⟩ = some (.slice E me ce) := cell_at hT2 rfl
 have qhT2_2 : w0.cell? ⟨w.heap.size + 1 + 1, 2, none⟩ = some (.slice M mk cm) := cell_at hT2 rfl
 have qhT2_3 : w0.cell? ⟨w.heap.size + 1 + 1, 3, none⟩ = some (.int .i64 s) := cell_at hT2 rfl
 have qhT2_4 : w0.cell? ⟨w.heap.size + 1 + 1, 4, none⟩ = some (.int .i64 f) := cell_at hT2 rfl
 have qhT2_5 : w0.cell? ⟨w.heap.size + 1 + 1, 5, none⟩ = some (.int .i64 i) := cell_at hT2 rfl
 go_wp2_with fail
 refine (c16 c r A n cap _).mono ?_
 rintro e w1 ⟨⟨b, rfl, hg1⟩, hb⟩
 clear qhT0_0 qhT0_1 qhT0_2 qhT1_0 qhT1_1 qhT1_2 qhT1_3 qhT2_0 qhT2_1 qhT2_2 qhT2_3 qhT2_4 qhT2_5
 have hS := hb
 have hB1 := hB0.call hS rfl
 replace hT0 := blkb hT0 hS
 replace hT1 := blkb hT1 hS
 replace hT2 := blkb hT2 hS
 replace H := H.below hS
 replace HP := HP.below hS
 replace HD := HD.below hS
 replace HE := HE.below hS
 replace HM := HM.below hS
 replace hst := hst.below hS
 clear hS hB0
 have qhT0_0 : w1.cell? ⟨w.heap.size, 0, none⟩ = some (.int .i64 c) := cell_at hT0 rfl
 have qhT0_1 : w1.cell? ⟨w.heap.size, 1, none⟩ = some (.int .i64 r) := cell_at hT0 rfl
 have qhT0_2 : w1.cell? ⟨w.heap.size, 2, none⟩ = some (.slice A n cap) := cell_at hT0 rfl
 have qhT1_0 : w1.cell? ⟨w.heap.size + 1, 0, none⟩ = some (.int .i64 un) := cell_at hT1 rfl
 have qhT1_1 : w1.cell? ⟨w.heap.size + 1, 1, none⟩ = some (.int .i64 len) := cell_at hT1 rfl
 have qhT1_2 : w1.cell? ⟨w.heap.size + 1, 2, none⟩ = some (.int .i64 most) := cell_at hT1 rfl
 have qhT1_3 : w1.cell? ⟨w.heap.size + 1, 3, none⟩ = some (.slice P np capp) := cell_at hT1 rfl
 have qhT2_0 : w1.cell? ⟨w.heap.size + 1 + 1, 0, none⟩ = some (.slice D md cd) := cell_at hT2 rfl
 have qhT2_1 : w1.cell? ⟨w.heap.size + 1 + 1, 1, none⟩ = some (.slice E me ce) := cell_at hT2 rfl
 have qhT2_2 : w1.cell? ⟨w.heap.size + 1 + 1, 2, none⟩ = some (.slice M mk cm) := cell_at hT2 rfl
 have qhT2_3 : w1.cell? ⟨w.heap.size + 1 + 1, 3, none⟩ = some (.int .i64 s) := cell_at hT2 rfl
 have qhT2_4 : w1.cell? ⟨w.heap.size + 1 + 1, 4, none⟩ = some (.int .i64 f) := cell_at hT2 rfl
 have qhT2_5 : w1.cell? ⟨w.heap.size + 1 + 1, 5, none⟩ = some (.int .i64 i) := cell_at hT2 rfl
 clear hb
 have HG1 := Lib.hid hg1
 clear hg1
 cases b
 ·
   go_wp2_with fail
   refine (c18 _ hst).mono ?_
   rintro e wz ⟨rfl, hz⟩
   go_wp2
   go_ret
   exact ⟨rfl, hB1.call hz rfl⟩
 go_wp2_with fail
 refine (c17 un len most P np capp _).mono ?_
 rintro e w2 ⟨⟨b, rfl, hg2⟩, hb⟩
 clear qhT0_0 qhT0_1 qhT0_2 qhT1_0 qhT1_1 qhT1_2 qhT1_3 qhT2_0 qhT2_1 qhT2_2 qhT2_3 qhT2_4 qhT2_5
 have hS := hb
 have hB2 := hB1.call hS rfl
 replace hT0 := blkb hT0 hS
 replace hT1 := blkb hT1 hS
 replace hT2 := blkb hT2 hS
 replace H := H.below hS
 replace HP := HP.below hS
 replace HD := HD.below hS
 replace HE := HE.below hS
 replace HM := HM.below hS
 replace hst := hst.below hS
 clear hS hB1
 have qhT0_0 : w2.cell? ⟨w.heap.size, 0, none⟩ = some (.int .i64 c) := cell_at hT0 rfl
 have qhT0_1 : w2.cell? ⟨w.heap.size, 1, none⟩ = some (.int .i64 r) := cell_at hT0 rfl
 have qhT0_2 : w2.cell? ⟨w.heap.size, 2, none⟩ = some (.slice A n cap) := cell_at hT0 rfl
 have qhT1_0 : w2.cell? ⟨w.heap.size + 1, 0, none⟩ = some (.int .i64 un) := cell_at hT1 rfl
 have qhT1_1 : w2.cell? ⟨w.heap.size + 1, 1, none⟩ = some (.int .i64 len) := cell_at hT1 rfl
 have qhT1_2 : w2.cell? ⟨w.heap.size + 1, 2, none⟩ = some (.int .i64 most) := cell_at hT1 rfl
 have qhT1_3 : w2.cell? ⟨w.heap.size + 1, 3, none⟩ = some (.slice P np capp) := cell_at hT1 rfl
 have qhT2_0 : w2.cell? ⟨w.heap.size + 1 + 1, 0, none⟩ = some (.slice D md cd) := cell_at hT2 rfl
 have qhT2_1 : w2.cell? ⟨w.heap.size + 1 + 1, 1, none⟩ = some (.slice E me ce) := cell_at hT2 rfl
 have qhT2_2 : w2.cell? ⟨w.heap.size + 1 + 1, 2, none⟩ = some (.slice M mk cm) := cell_at hT2 rfl
 have qhT2_3 : w2.cell? ⟨w.heap.size + 1 + 1, 3, none⟩ = some (.int .i64 s) := cell_at hT2 rfl
 have qhT2_4 : w2.cell? ⟨w.heap.size + 1 + 1, 4, none⟩ = some (.int .i64 f) := cell_at hT2 rfl
 have qhT2_5 : w2.cell? ⟨w.heap.size + 1 + 1, 5, none⟩ = some (.int .i64 i) := cell_at hT2 rfl
 clear hb
 have HG2 := Lib.hid hg2
 clear hg2
 cases b
 ·
   go_wp2_with fail
   refine (c18 _ hst).mono ?_
   rintro e wz ⟨rfl, hz⟩
   go_wp2
   go_ret
   exact ⟨rfl, hB2.call hz rfl⟩
 go_wp2_with fail
 refine (c31s D E M md me mk cd ce cm dl el s f i _ hmd hme HD HE).mono ?_
 rintro e w3 ⟨⟨b, rfl, hg3⟩, hb⟩
 clear qhT0_0 qhT0_1 qhT0_2 qhT1_0 qhT1_1 qhT1_2 qhT1_3 qhT2_0 qhT2_1 qhT2_2 qhT2_3 qhT2_4 qhT2_5
 have hS := hb
 have hB3 := hB2.call hS rfl
 replace hT0 := blkb hT0 hS
 replace hT1 := blkb hT1 hS
 replace hT2 := blkb hT2 hS
 replace H := H.below hS
 replace HP := HP.below hS
 replace HD := HD.below hS
 replace HE := HE.below hS
 replace HM := HM.below hS
 replace hst := hst.below hS
 clear hS hB2
 have qhT0_0 : w3.cell? ⟨w.heap.size, 0, none⟩ = some (.int .i64 c) := cell_at hT0 rfl
 have qhT0_1 : w3.cell? ⟨w.heap.size, 1, none⟩ = some (.int .i64 r) := cell_at hT0 rfl
 have qhT0_2 : w3.cell? ⟨w.heap.size, 2, none⟩ = some (.slice A n cap) := cell_at hT0 rfl
 have qhT1_0 : w3.cell? ⟨w.heap.size + 1, 0, none⟩ = some (.int .i64 un) := cell_at hT1 rfl
 have qhT1_1 : w3.cell? ⟨w.heap.size + 1, 1, none⟩ = some (.int .i64 len) := cell_at hT1 rfl
 have qhT1_2 : w3.cell? ⟨w.heap.size + 1, 2, none⟩ = some (.int .i64 most) := cell_at hT1 rfl
 have qhT1_3 : w3.cell? ⟨w.heap.size + 1, 3, none⟩ = some (.slice P np capp) := cell_at hT1 rfl
 have qhT2_0 : w3.cell? ⟨w.heap.size + 1 + 1, 0, none⟩ = some (.slice D md cd) := cell_at hT2 rfl
 have qhT2_1 : w3.cell? ⟨w.heap.size + 1 + 1, 1, none⟩ = some (.slice E me ce) := cell_at hT2 rfl
 have qhT2_2 : w3.cell? ⟨w.heap.size + 1 + 1, 2, none⟩ = some (.slice M mk cm) := cell_at hT2 rfl
 have qhT2_3 : w3.cell? ⟨w.heap.size + 1 + 1, 3, none⟩ = some (.int .i64 s) := cell_at hT2 rfl
 have qhT2_4 : w3.cell? ⟨w.heap.size + 1 + 1, 4, none⟩ = some (.int .i64 f) := cell_at hT2 rfl
 have qhT2_5 : w3.cell? ⟨w.heap.size + 1 + 1, 5, none⟩ = some (.int .i64 i) := cell_at hT2 rfl
 clear hb
 have HG3 := Lib.hid hg3
 clear hg3
 cases b
 ·
   go_wp2_with fail
   refine (c18 _ hst).mono ?_
   rintro e wz ⟨rfl, hz⟩
   go_wp2
   go_ret
   exact ⟨rfl, hB3.call hz rfl⟩
 clear HE
 clear HM
 have hn30 : n ≤ 30 := (by first | exact HG1.out rfl | exact HG1.out trivial)
 have hp17 : np ≤ 17 := (by first | exact HG2.out rfl | exact HG2.out trivial)
 have h3 : ((md ≤ 5 ∨ md = 17) ∧ ∀ x, x ∈ dl → x.length ≤ 45) ∧ ((me ≤ 5 ∨ me = 17) ∧ ∀ x, x ∈ el → x.length ≤ 45) ∧ mk ≤ 30 := (by first | exact HG3.out rfl | exact HG3.out trivial)
 obtain ⟨⟨hd5, hd45⟩, _, _⟩ := h3
 have hd17 : md ≤ 17 := by omega
 have hl : n ≤ 1000000 := by omega
 have hp : np ≤ 1000000 := by omega
 obtain ⟨E1, E2, IM, TI, FL, iN, tN, fN, hz1, hz2, hiN, htN, hfN, k50, k51, k49, k52, k53, k54, k55, k56⟩ := img_calls c r n np md l un len most ps dl s f H.len HP.len HD.len hn30 hp17 hd17 hd45
 have HD45 := Lib.hid hd45
 have HZ1 := Lib.hid hz1
 have HZ2 := Lib.hid hz2
 have K50 := Lib.hid k50
 have K51 := Lib.hid k51
 have K49 := Lib.hid k49
 have K52 := Lib.hid k52
 have K53 := Lib.hid k53
 have K54 := Lib.hid k54
 have K55 := Lib.hid k55
 have K56 := Lib.hid k56
 clear hz1 hz2 k50 k51 k49 k52 k53 k54 k55 k56 HG1 HG2 HG3 hd45 hd5 hmd hme
 go_wp2_with fail
 refine wp_region_plan [(0, true), (2, true), (4, true), (5, true), (1, false), (3, false), (6, false), (7, false), (8, true), (9, true), (10, true), (11, true), (12, true)] w3.heap.size (by kernel_rfl) (by kernel_rfl) (Nat.le_refl _) (fun _ _ d _ _ h => by cases d <;> exact h) ?_
 have hC : Below w3.heap.size w3 w3 := Below.refl _ _
 have zhT0 : w.heap.size < w3.heap.size := (Array.getElem?_eq_some_iff.1 hT0).1
 have zhT1 : w.heap.size + 1 < w3.heap.size := (Array.getElem?_eq_some_iff.1 hT1).1
 have zhT2 : w.heap.size + 1 + 1 < w3.heap.size := (Array.getElem?_eq_some_iff.1 hT2).1
 repeat (first | (refine wpPlanA_skip _ rfl (by rfl) ?_; simp only [Act.put, List.setIfInBounds_toArray, List.set_cons_zero, List.set_cons_succ]) | (refine wpPlanA_soft _ ?_ rfl (by rfl) ?_ ?_; rotate_left; (intro wq hq hcq; go_simp; first | exact rfl | exact ⟨rfl, rfl⟩); simp only [Act.put, List.setIfInBounds_toArray, List.set_cons_zero, List.set_cons_succ]))
 refine wpPlanA_hard _ rfl (by rfl) (fun w4 hS K hK => ?_)
 go_simp
 refine (c20d c r A n cap l _ hl (H.below hS)).mono ?_
 rintro e w5 ⟨B1, cb1, rfl, hr1, hb⟩
 replace hS := hS.call hb rfl
 have hB5 := hB3.call hS rfl
 replace hC := hC.call hS rfl
 replace hT0 := blkb hT0 hS
 replace hT1 := blkb hT1 hS
 replace hT2 := blkb hT2 hS
 replace H := H.below hS
 replace HP := HP.below hS
 replace HD := HD.below hS
 replace hst := hst.below hS
 refine hK _ _ hC ?_
 clear hS hb hB3 hK K
 try simp only [Act.put, List.setIfInBounds_toArray, List.set_cons_zero, List.set_cons_succ]
 refine wpPlanA_hard _ rfl (by rfl) (fun w6 hS K hK => ?_)
 go_simp
 refine (c21d un len most P np capp ps _ hp (HP.below hS)).mono ?_
 rintro e w7 ⟨P2, pc2, rfl, ⟨hp2, hq2⟩, hb⟩
 replace hS := hS.call hb rfl
 have hB7 := hB5.call hS rfl
 replace hC := hC.call hS rfl
 replace hT0 := blkb hT0 hS
 replace hT1 := blkb hT1 hS
 replace hT2 := blkb hT2 hS
 replace H := H.below hS
 replace HP := HP.below hS
 replace HD := HD.below hS
 replace hst := hst.below hS
 replace hr1 := hr1.below hS
 refine hK _ _ hC ?_
 clear hS hb hB5 hK K
 try simp only [Act.put, List.setIfInBounds_toArray, List.set_cons_zero, List.set_cons_succ]
 refine wpPlanA_hard _ rfl (by rfl) (fun w8 hS K hK => ?_)
 go_simp
 refine (c33s D md cd dl _ hd17 HD45.out (HD.below hS)).mono ?_
 rintro e w9 ⟨F3, fc3, rfl, he3, hb⟩
 replace hS := hS.call hb rfl
 have hB9 := hB7.call hS rfl
 replace hC := hC.call hS rfl
 replace hT0 := blkb hT0 hS
 replace hT1 := blkb hT1 hS
 replace hT2 := blkb hT2 hS
 replace H := H.below hS
 replace HP := HP.below hS
 replace HD := HD.below hS
 replace hst := hst.below hS
 replace hr1 := hr1.below hS
 replace hp2 := hp2.below hS
 refine hK _ _ hC ?_
 clear hS hb hB7 hK K
 try simp only [Act.put, List.setIfInBounds_toArray, List.set_cons_zero, List.set_cons_succ]
 refine wpPlanA_hard _ rfl (by rfl) (fun w10 hS K hK => ?_)
 go_simp
 refine (K50.out _ _ _ _ _ _ _ hq2 (hst.below hS) (hr1.below hS) (hp2.below hS) (he3.below hS)).mono ?_
 rintro e w11 ⟨X1, xc1, rfl, hX1, hb⟩
 replace hS := hS.call hb rfl
 have hB11 := hB9.call hS rfl
 replace hC := hC.call hS rfl
 replace hT0 := blkb hT0 hS
 replace hT1 := blkb hT1 hS
 replace hT2 := blkb hT2 hS
 replace H := H.below hS
 replace HP := HP.below hS
 replace HD := HD.below hS
 replace hst := hst.below hS
 replace hr1 := hr1.below hS
 replace hp2 := hp2.below hS
 replace he3 := he3.below hS
 refine hK _ _ hC ?_
 clear hS hb hB9 hK K
 try simp only [Act.put, List.setIfInBounds_toArray, List.set_cons_zero, List.set_cons_succ]
 repeat (first | (refine wpPlanA_skip _ rfl (by rfl) ?_; simp only [Act.put, List.setIfInBounds_toArray, List.set_cons_zero, List.set_cons_succ]) | (refine wpPlanA_soft _ ?_ rfl (by rfl) ?_ ?_; rotate_left; (intro wq hq hcq; go_simp; first | exact rfl | exact ⟨rfl, rfl⟩); simp only [Act.put, List.setIfInBounds_toArray, List.set_cons_zero, List.set_cons_succ]))
 clear hr1
 clear hp2
 clear he3
 clear qhT0_0 qhT0_1 qhT0_2 qhT1_0 qhT1_1 qhT1_2 qhT1_3 qhT2_0 qhT2_1 qhT2_2 qhT2_3 qhT2_4 qhT2_5
 refine wpPlanA_nil (fun w12 hS => ?_)
 clear hC zhT0 zhT1 zhT2
 have hB12 := hB11.call hS rfl
 replace hT0 := blkb hT0 hS
 replace hT1 := blkb hT1 hS
 replace hT2 := blkb hT2 hS
 replace H := H.below hS
 replace HP := HP.below hS
 replace HD := HD.below hS
 replace hst := hst.below hS
 replace hX1 := hX1.below hS
 clear hS hB11
 have qhT0_0 : w12.cell? ⟨w.heap.size, 0, none⟩ = some (.int .i64 c) := cell_at hT0 rfl
 have qhT0_1 : w12.cell? ⟨w.heap.size, 1, none⟩ = some (.int .i64 r) := cell_at hT0 rfl
 have qhT0_2 : w12.cell? ⟨w.heap.size, 2, none⟩ = some (.slice A n cap) := cell_at hT0 rfl
 have qhT1_0 : w12.cell? ⟨w.heap.size + 1, 0, none⟩ = some (.int .i64 un) := cell_at hT1 rfl
 have qhT1_1 : w12.cell? ⟨w.heap.size + 1, 1, none⟩ = some (.int .i64 len) := cell_at hT1 rfl
 have qhT1_2 : w12.cell? ⟨w.heap.size + 1, 2, none⟩ = some (.int .i64 most) := cell_at hT1 rfl
 have qhT1_3 : w12.cell? ⟨w.heap.size + 1, 3, none⟩ = some (.slice P np capp) := cell_at hT1 rfl
 have qhT2_0 : w12.cell? ⟨w.heap.size + 1 + 1, 0, none⟩ = some (.slice D md cd) := cell_at hT2 rfl
 have qhT2_1 : w12.cell? ⟨w.heap.size + 1 + 1, 1, none⟩ = some (.slice E me ce) := cell_at hT2 rfl
 have qhT2_2 : w12.cell? ⟨w.heap.size + 1 + 1, 2, none⟩ = some (.slice M mk cm) := cell_at hT2 rfl
 have qhT2_3 : w12.cell? ⟨w.heap.size + 1 + 1, 3, none⟩ = some (.int .i64 s) := cell_at hT2 rfl
 have qhT2_4 : w12.cell? ⟨w.heap.size + 1 + 1, 4, none⟩ = some (.int .i64 f) := cell_at hT2 rfl
 have qhT2_5 : w12.cell? ⟨w.heap.size + 1 + 1, 5, none⟩ = some (.int .i64 i) := cell_at hT2 rfl
 go_wp2_with fail
 refine wp_region_plan [(0, true), (2, true), (4, true), (5, true), (7, true), (8, true), (1, false), (3, false), (6, false), (9, false), (10, true), (11, true), (12, true), (13, true), (14, true)] w12.heap.size (by kernel_rfl) (by kernel_rfl) (Nat.le_refl _) (fun _ _ d _ _ h => by cases d <;> exact h) ?_
 have hC : Below w12.heap.size w12 w12 := Below.refl _ _
 have zhT0 : w.heap.size < w12.heap.size := (Array.getElem?_eq_some_iff.1 hT0).1
 have zhT1 : w.heap.size + 1 < w12.heap.size := (Array.getElem?_eq_some_iff.1 hT1).1
 have zhT2 : w.heap.size + 1 + 1 < w12.heap.size := (Array.getElem?_eq_some_iff.1 hT2).1
 repeat (first | (refine wpPlanA_skip _ rfl (by rfl) ?_; simp only [Act.put, List.setIfInBounds_toArray, List.set_cons_zero, List.set_cons_succ]) | (refine wpPlanA_soft _ ?_ rfl (by rfl) ?_ ?_; rotate_left; (intro wq hq hcq; go_simp; first | exact rfl | exact ⟨rfl, rfl⟩); simp only [Act.put, List.setIfInBounds_toArray, List.set_cons_zero, List.set_cons_succ]))
 refine wpPlanA_hard _ rfl (by rfl) (fun w13 hS K hK => ?_)
 go_simp
 refine (c20d c r A n cap l _ hl (H.below hS)).mono ?_
 rintro e w14 ⟨B4, cb4, rfl, hr4, hb⟩
 replace hS := hS.call hb rfl
 have hB14 := hB12.call hS rfl
 replace hC := hC.call hS rfl
 replace hT0 := blkb hT0 hS
 replace hT1 := blkb hT1 hS
 replace hT2 := blkb hT2 hS
 replace H := H.below hS
 replace HP := HP.below hS
 replace HD := HD.below hS
 replace hst := hst.below hS
 replace hX1 := hX1.below hS
 refine hK _ _ hC ?_
 clear hS hb hB12 hK K
 try simp only [Act.put, List.setIfInBounds_toArray, List.set_cons_zero, List.set_cons_succ]
 refine wpPlanA_hard _ rfl (by rfl) (fun w15 hS K hK => ?_)
 go_simp
 refine (c21d un len most P np capp ps _ hp (HP.below hS)).mono ?_
 rintro e w16 ⟨P5, pc5, rfl, ⟨hp5, hq5⟩, hb⟩
 replace hS := hS.call hb rfl
 have hB16 := hB14.call hS rfl
 replace hC := hC.call hS rfl
 replace hT0 := blkb hT0 hS
 replace hT1 := blkb hT1 hS
 replace hT2 := blkb hT2 hS
 replace H := H.below hS
 replace HP := HP.below hS
 replace HD := HD.below hS
 replace hst := hst.below hS
 replace hX1 := hX1.below hS
 replace hr4 := hr4.below hS
 refine hK _ _ hC ?_
 clear hS hb hB14 hK K
 try simp only [Act.put, List.setIfInBounds_toArray, List.set_cons_zero, List.set_cons_succ]
 refine wpPlanA_hard _ rfl (by rfl) (fun w17 hS K hK => ?_)
 go_simp
 refine (c33s D md cd dl _ hd17 HD45.out (HD.below hS)).mono ?_
 rintro e w18 ⟨F6, fc6, rfl, he6, hb⟩
 replace hS := hS.call hb rfl
 have hB18 := hB16.call hS rfl
 replace hC := hC.call hS rfl
 replace hT0 := blkb hT0 hS
 replace hT1 := blkb hT1 hS
 replace hT2 := blkb hT2 hS
 replace H := H.below hS
 replace HP := HP.below hS
 replace HD := HD.below hS
 replace hst := hst.below hS
 replace hX1 := hX1.below hS
 replace hr4 := hr4.below hS
 replace hp5 := hp5.below hS
 refine hK _ _ hC ?_
 clear hS hb hB16 hK K
 try simp only [Act.put, List.setIfInBounds_toArray, List.set_cons_zero, List.set_cons_succ]
 refine wpPlanA_hard _ rfl (by rfl) (fun w19 hS K hK => ?_)
 go_simp
 refine (K51.out _ _ _ _ _ _ _ hq5 (hst.below hS) (hr4.below hS) (hp5.below hS) (he6.below hS)).mono ?_
 rintro e w20 ⟨X2, xc2, rfl, hX2, hb⟩
 replace hS := hS.call hb rfl
 have hB20 := hB18.call hS rfl
 replace hC := hC.call hS rfl
 replace hT0 := blkb hT0 hS
 replace hT1 := blkb hT1 hS
 replace hT2 := blkb hT2 hS
 replace H := H.below hS
 replace HP := HP.below hS
 replace HD := HD.below hS
 replace hst := hst.below hS
 replace hX1 := hX1.below hS
 replace hr4 := hr4.below hS
 replace hp5 := hp5.below hS
 replace he6 := he6.below hS
 refine hK _ _ hC ?_
 clear hS hb hB18 hK K
 try simp only [Act.put, List.setIfInBounds_toArray, List.set_cons_zero, List.set_cons_succ]
 repeat (first | (refine wpPlanA_skip _ rfl (by rfl) ?_; simp only [Act.put, List.setIfInBounds_toArray, List.set_cons_zero, List.set_cons_succ]) | (refine wpPlanA_soft _ ?_ rfl (by rfl) ?_ ?_; rotate_left; (intro wq hq hcq; go_simp; first | exact rfl | exact ⟨rfl, rfl⟩); simp only [Act.put, List.setIfInBounds_toArray, List.set_cons_zero, List.set_cons_succ]))
 clear hr4
 clear hp5
 clear he6
 clear qhT0_0 qhT0_1 qhT0_2 qhT1_0 qhT1_1 qhT1_2 qhT1_3 qhT2_0 qhT2_1 qhT2_2 qhT2_3 qhT2_4 qhT2_5
 refine wpPlanA_nil (fun w21 hS => ?_)
 clear hC zhT0 zhT1 zhT2
 have hB21 := hB20.call hS rfl
 replace hT0 := blkb hT0 hS
 replace hT1 := blkb hT1 hS
 replace hT2 := blkb hT2 hS
 replace H := H.below hS
 replace HP := HP.below hS
 replace HD := HD.below hS
 replace hst := hst.below hS
 replace hX1 := hX1.below hS
 replace hX2 := hX2.below hS
 clear hS hB20
 have qhT0_0 : w21.cell? ⟨w.heap.size, 0, none⟩ = some (.int .i64 c) := cell_at hT0 rfl
 have qhT0_1 : w21.cell? ⟨w.heap.size, 1, none⟩ = some (.int .i64 r) := cell_at hT0 rfl
 have qhT0_2 : w21.cell? ⟨w.heap.size, 2, none⟩ = some (.slice A n cap) := cell_at hT0 rfl
 have qhT1_0 : w21.cell? ⟨w.heap.size + 1, 0, none⟩ = some (.int .i64 un) := cell_at hT1 rfl
 have qhT1_1 : w21.cell? ⟨w.heap.size + 1, 1, none⟩ = some (.int .i64 len) := cell_at hT1 rfl
 have qhT1_2 : w21.cell? ⟨w.heap.size + 1, 2, none⟩ = some (.int .i64 most) := cell_at hT1 rfl
 have qhT1_3 : w21.cell? ⟨w.heap.size + 1, 3, none⟩ = some (.slice P np capp) := cell_at hT1 rfl
 have qhT2_0 : w21.cell? ⟨w.heap.size + 1 + 1, 0, none⟩ = some (.slice D md cd) := cell_at hT2 rfl
 have qhT2_1 : w21.cell? ⟨w.heap.size + 1 + 1, 1, none⟩ = some (.slice E me ce) := cell_at hT2 rfl
 have qhT2_2 : w21.cell? ⟨w.heap.size + 1 + 1, 2, none⟩ = some (.slice M mk cm) := cell_at hT2 rfl
 have qhT2_3 : w21.cell? ⟨w.heap.size + 1 + 1, 3, none⟩ = some (.int .i64 s) := cell_at hT2 rfl
 have qhT2_4 : w21.cell? ⟨w.heap.size + 1 + 1, 4, none⟩ = some (.int .i64 f) := cell_at hT2 rfl
 have qhT2_5 : w21.cell? ⟨w.heap.size + 1 + 1, 5, none⟩ = some (.int .i64 i) := cell_at hT2 rfl
 go_wp2_with fail
 refine wp_region_plan [(0, true), (2, true), (4, true), (5, true), (1, false), (3, false), (6, false), (7, false), (8, true), (9, true), (10, true), (11, true), (12, true)] w21.heap.size (by kernel_rfl) (by kernel_rfl) (Nat.le_refl _) (fun _ _ d _ _ h => by cases d <;> exact h) ?_
 have hC : Below w21.heap.size w21 w21 := Below.refl _ _
 have zhT0 : w.heap.size < w21.heap.size := (Array.getElem?_eq_some_iff.1 hT0).1
 have zhT1 : w.heap.size + 1 < w21.heap.size := (Array.getElem?_eq_some_iff.1 hT1).1
 have zhT2 : w.heap.size + 1 + 1 < w21.heap.size := (Array.getElem?_eq_some_iff.1 hT2).1
 repeat (first | (refine wpPlanA_skip _ rfl (by rfl) ?_; simp only [Act.put, List.setIfInBounds_toArray, List.set_cons_zero, List.set_cons_succ]) | (refine wpPlanA_soft _ ?_ rfl (by rfl) ?_ ?_; rotate_left; (intro wq hq hcq; go_simp; first | exact rfl | exact ⟨rfl, rfl⟩); simp only [Act.put, List.setIfInBounds_toArray, List.set_cons_zero, List.set_cons_succ]))
 refine wpPlanA_hard _ rfl (by rfl) (fun w22 hS K hK => ?_)
 go_simp
 refine (c20d c r A n cap l _ hl (H.below hS)).mono ?_
 rintro e w23 ⟨B7, cb7, rfl, hr7, hb⟩
 replace hS := hS.call hb rfl
 have hB23 := hB21.call hS rfl
 replace hC := hC.call hS rfl
 replace hT0 := blkb hT0 hS
 replace hT1 := blkb hT1 hS
 replace hT2 := blkb hT2 hS
 replace H := H.below hS
 replace HP := HP.below hS
 replace HD := HD.below hS
 replace hst := hst.below hS
 replace hX1 := hX1.below hS
 replace hX2 := hX2.below hS
 refine hK _ _ hC ?_
 clear hS hb hB21 hK K
 try simp only [Act.put, List.setIfInBounds_toArray, List.set_cons_zero, List.set_cons_succ]
 refine wpPlanA_hard _ rfl (by rfl) (fun w24 hS K hK => ?_)
 go_simp
 refine (c21d un len most P np capp ps _ hp (HP.below hS)).mono ?_
 rintro e w25 ⟨P8, pc8, rfl, ⟨hp8, hq8⟩, hb⟩
 replace hS := hS.call hb rfl
 have hB25 := hB23.call hS rfl
 replace hC := hC.call hS rfl
 replace hT0 := blkb hT0 hS
 replace hT1 := blkb hT1 hS
 replace hT2 := blkb hT2 hS
 replace H := H.below hS
 replace HP := HP.below hS
 replace HD := HD.below hS
 replace hst := hst.below hS
 replace hX1 := hX1.below hS
 replace hX2 := hX2.below hS
 replace hr7 := hr7.below hS
 refine hK _ _ hC ?_
 clear hS hb hB23 hK K
 try simp only [Act.put, List.setIfInBounds_toArray, List.set_cons_zero, List.set_cons_succ]
 refine wpPlanA_hard _ rfl (by rfl) (fun w26 hS K hK => ?_)
 go_simp
 refine (c33s D md cd dl _ hd17 HD45.out (HD.below hS)).mono ?_
 rintro e w27 ⟨F9, fc9, rfl, he9, hb⟩
 replace hS := hS.call hb rfl
 have hB27 := hB25.call hS rfl
 replace hC := hC.call hS rfl
 replace hT0 := blkb hT0 hS
 replace hT1 := blkb hT1 hS
 replace hT2 := blkb hT2 hS
 replace H := H.below hS
 replace HP := HP.below hS
 replace HD := HD.below hS
 replace hst := hst.below hS
 replace hX1 := hX1.below hS
 replace hX2 := hX2.below hS
 replace hr7 := hr7.below hS
 replace hp8 := hp8.below hS
 refine hK _ _ hC ?_
 clear hS hb hB25 hK K
 try simp only [Act.put, List.setIfInBounds_toArray, List.set_cons_zero, List.set_cons_succ]
 refine wpPlanA_hard _ rfl (by rfl) (fun w28 hS K hK => ?_)
 go_simp
 refine (K49.out _ _ _ _ _ _ _ (hr7.below hS) (hp8.below hS) (he9.below hS)).mono ?_
 rintro e w29 ⟨X3, xc3, rfl, hX3, hb⟩
 replace hS := hS.call hb rfl
 have hB29 := hB27.call hS rfl
 replace hC := hC.call hS rfl
 replace hT0 := blkb hT0 hS
 replace hT1 := blkb hT1 hS
 replace hT2 := blkb hT2 hS
 replace H := H.below hS
 replace HP := HP.below hS
 replace HD := HD.below hS
 replace hst := hst.below hS
 replace hX1 := hX1.below hS
 replace hX2 := hX2.below hS
 replace hr7 := hr7.below hS
 replace hp8 := hp8.below hS
 replace he9 := he9.below hS
 refine hK _ _ hC ?_
 clear hS hb hB27 hK K
 try simp only [Act.put, List.setIfInBounds_toArray, List.set_cons_zero, List.set_cons_succ]
 repeat (first | (refine wpPlanA_skip _ rfl (by rfl) ?_; simp only [Act.put, List.setIfInBounds_toArray, List.set_cons_zero, List.set_cons_succ]) | (refine wpPlanA_soft _ ?_ rfl (by rfl) ?_ ?_; rotate_left; (intro wq hq hcq; go_simp; first | exact rfl | exact ⟨rfl, rfl⟩); simp only [Act.put, List.setIfInBounds_toArray, List.set_cons_zero, List.set_cons_succ]))
 clear hr7
 clear hp8
 clear he9
 clear qhT0_0 qhT0_1 qhT0_2 qhT1_0 qhT1_1 qhT1_2 qhT1_3 qhT2_0 qhT2_1 qhT2_2 qhT2_3 qhT2_4 qhT2_5
 refine wpPlanA_nil (fun w30 hS => ?_)
 clear hC zhT0 zhT1 zhT2
 have hB30 := hB29.call hS rfl
 replace hT0 := blkb hT0 hS
 replace hT1 := blkb hT1 hS
 replace hT2 := blkb hT2 hS
 replace H := H.below hS
 replace HP := HP.below hS
 replace HD := HD.below hS
 replace hst := hst.below hS
 replace hX1 := hX1.below hS
 replace hX2 := hX2.below hS
 replace hX3 := hX3.below hS
 clear hS hB29
 have qhT0_0 : w30.cell? ⟨w.heap.size, 0, none⟩ = some (.int .i64 c) := cell_at hT0 rfl
 have qhT0_1 : w30.cell? ⟨w.heap.size, 1, none⟩ = some (.int .i64 r) := cell_at hT0 rfl
 have qhT0_2 : w30.cell? ⟨w.heap.size, 2, none⟩ = some (.slice A n cap) := cell_at hT0 rfl
 have qhT1_0 : w30.cell? ⟨w.heap.size + 1, 0, none⟩ = some (.int .i64 un) := cell_at hT1 rfl
 have qhT1_1 : w30.cell? ⟨w.heap.size + 1, 1, none⟩ = some (.int .i64 len) := cell_at hT1 rfl
 have qhT1_2 : w30.cell? ⟨w.heap.size + 1, 2, none⟩ = some (.int .i64 most) := cell_at hT1 rfl
 have qhT1_3 : w30.cell? ⟨w.heap.size + 1, 3, none⟩ = some (.slice P np capp) := cell_at hT1 rfl
 have qhT2_0 : w30.cell? ⟨w.heap.size + 1 + 1, 0, none⟩ = some (.slice D md cd) := cell_at hT2 rfl
 have qhT2_1 : w30.cell? ⟨w.heap.size + 1 + 1, 1, none⟩ = some (.slice E me ce) := cell_at hT2 rfl
 have qhT2_2 : w30.cell? ⟨w.heap.size + 1 + 1, 2, none⟩ = some (.slice M mk cm) := cell_at hT2 rfl
 have qhT2_3 : w30.cell? ⟨w.heap.size + 1 + 1, 3, none⟩ = some (.int .i64 s) := cell_at hT2 rfl
 have qhT2_4 : w30.cell? ⟨w.heap.size + 1 + 1, 4, none⟩ = some (.int .i64 f) := cell_at hT2 rfl
 have qhT2_5 : w30.cell? ⟨w.heap.size + 1 + 1, 5, none⟩ = some (.int .i64 i) := cell_at hT2 rfl
 go_wp2_with fail
 refine wp_region_plan [(0, true), (1, true), (2, true), (3, true), (5, true), (6, true), (7, true), (8, true), (9, true), (10, true), (4, false), (11, false), (12, true), (13, true)] w30.heap.size (by kernel_rfl) (by kernel_rfl) (Nat.le_refl _) (fun _ _ d _ _ h => by cases d <;> exact h) ?_
 have hC : Below w30.heap.size w30 w30 := Below.refl _ _
 have zhT0 : w.heap.size < w30.heap.size := (Array.getElem?_eq_some_iff.1 hT0).1
 have zhT1 : w.heap.size + 1 < w30.heap.size := (Array.getElem?_eq_some_iff.1 hT1).1
 have zhT2 : w.heap.size + 1 + 1 < w30.heap.size := (Array.getElem?_eq_some_iff.1 hT2).1
 repeat (first | (refine wpPlanA_skip _ rfl (by rfl) ?_; simp only [Act.put, List.setIfInBounds_toArray, List.set_cons_zero, List.set_cons_succ]) | (refine wpPlanA_soft _ ?_ rfl (by rfl) ?_ ?_; rotate_left; (intro wq hq hcq; go_simp; first | exact rfl | exact ⟨rfl, rfl⟩); simp only [Act.put, List.setIfInBounds_toArray, List.set_cons_zero, List.set_cons_succ]))
 refine wpPlanA_hard _ rfl (by rfl) (fun w31 hS K hK => ?_)
 go_simp
 refine (K52.out _ _ _ _ _ _ _ (H.below hS) (HP.below hS) (HD.below hS)).mono ?_
 rintro e w32 ⟨rfl, hb⟩
 replace hS := hS.call hb rfl
 have hB32 := hB30.call hS rfl
 replace hC := hC.call hS rfl
 replace hT0 := blkb hT0 hS
 replace hT1 := blkb hT1 hS
 replace hT2 := blkb hT2 hS
 replace H := H.below hS
 replace HP := HP.below hS
 replace HD := HD.below hS
 replace hst := hst.below hS
 replace hX1 := hX1.below hS
 replace hX2 := hX2.below hS
 replace hX3 := hX3.below hS
 refine hK _ _ hC ?_
 clear hS hb hB30 hK K
 try simp only [Act.put, List.setIfInBounds_toArray, List.set_cons_zero, List.set_cons_succ]
 repeat (first | (refine wpPlanA_skip _ rfl (by rfl) ?_; simp only [Act.put, List.setIfInBounds_toArray, List.set_cons_zero, List.set_cons_succ]) | (refine wpPlanA_soft _ ?_ rfl (by rfl) ?_ ?_; rotate_left; (intro wq hq hcq; go_simp; first | exact rfl | exact ⟨rfl, rfl⟩); simp only [Act.put, List.setIfInBounds_toArray, List.set_cons_zero, List.set_cons_succ]))
 refine wpPlanA_hard _ rfl (by rfl) (fun w33 hS K hK => ?_)
 go_simp
 refine (K53.out _ _ _ _ _ _ _ (H.below hS) (HP.below hS) (HD.below hS)).mono ?_
 rintro e w34 ⟨rfl, hb⟩
 replace hS := hS.call hb rfl
 have hB34 := hB32.call hS rfl
 replace hC := hC.call hS rfl
 replace hT0 := blkb hT0 hS
 replace hT1 := blkb hT1 hS
 replace hT2 := blkb hT2 hS
 replace H := H.below hS
 replace HP := HP.below hS
 replace HD := HD.below hS
 replace hst := hst.below hS
 replace hX1 := hX1.below hS
 replace hX2 := hX2.below hS
 replace hX3 := hX3.below hS
 refine hK _ _ hC ?_
 clear hS hb hB32 hK K
 try simp only [Act.put, List.setIfInBounds_toArray, List.set_cons_zero, List.set_cons_succ]
 repeat (first | (refine wpPlanA_skip _ rfl (by rfl) ?_; simp only [Act.put, List.setIfInBounds_toArray, List.set_cons_zero, List.set_cons_succ]) | (refine wpPlanA_soft _ ?_ rfl (by rfl) ?_ ?_; rotate_left; (intro wq hq hcq; go_simp; first | exact rfl | exact ⟨rfl, rfl⟩); simp only [Act.put, List.setIfInBounds_toArray, List.set_cons_zero, List.set_cons_succ]))
 clear qhT0_0 qhT0_1 qhT0_2 qhT1_0 qhT1_1 qhT1_2 qhT1_3 qhT2_0 qhT2_1 qhT2_2 qhT2_3 qhT2_4 qhT2_5
 refine wpPlanA_nil (fun w35 hS => ?_)
 clear hC zhT0 zhT1 zhT2
 have hB35 := hB34.call hS rfl
 replace hT0 := blkb hT0 hS
 replace hT1 := blkb hT1 hS
 replace hT2 := blkb hT2 hS
 replace H := H.below hS
 replace HP := HP.below hS
 replace HD := HD.below hS
 replace hst := hst.below hS
 replace hX1 := hX1.below hS
 replace hX2 := hX2.below hS
 replace hX3 := hX3.below hS
 clear hS hB34
 have qhT0_0 : w35.cell? ⟨w.heap.size, 0, none⟩ = some (.int .i64 c) := cell_at hT0 rfl
 have qhT0_1 : w35.cell? ⟨w.heap.size, 1, none⟩ = some (.int .i64 r) := cell_at hT0 rfl
 have qhT0_2 : w35.cell? ⟨w.heap.size, 2, none⟩ = some (.slice A n cap) := cell_at hT0 rfl
 have qhT1_0 : w35.cell? ⟨w.heap.size + 1, 0, none⟩ = some (.int .i64 un) := cell_at hT1 rfl
 have qhT1_1 : w35.cell? ⟨w.heap.size + 1, 1, none⟩ = some (.int .i64 len) := cell_at hT1 rfl
 have qhT1_2 : w35.cell? ⟨w.heap.size + 1, 2, none⟩ = some (.int .i64 most) := cell_at hT1 rfl
 have qhT1_3 : w35.cell? ⟨w.heap.size + 1, 3, none⟩ = some (.slice P np capp) := cell_at hT1 rfl
 have qhT2_0 : w35.cell? ⟨w.heap.size + 1 + 1, 0, none⟩ = some (.slice D md cd) := cell_at hT2 rfl
 have qhT2_1 : w35.cell? ⟨w.heap.size + 1 + 1, 1, none⟩ = some (.slice E me ce) := cell_at hT2 rfl
 have qhT2_2 : w35.cell? ⟨w.heap.size + 1 + 1, 2, none⟩ = some (.slice M mk cm) := cell_at hT2 rfl
 have qhT2_3 : w35.cell? ⟨w.heap.size + 1 + 1, 3, none⟩ = some (.int .i64 s) := cell_at hT2 rfl
 have qhT2_4 : w35.cell? ⟨w.heap.size + 1 + 1, 4, none⟩ = some (.int .i64 f) := cell_at hT2 rfl
 have qhT2_5 : w35.cell? ⟨w.heap.size + 1 + 1, 5, none⟩ = some (.int .i64 i) := cell_at hT2 rfl
 by_cases hE1 : E1 = 0
 rotate_left
 focus
   have hef : (E1 == 0) = false := by simpa using hE1
   obtain ⟨⟨rfl, rfl⟩, ⟨rfl, rfl⟩, hne⟩ := HZ1.out hE1
   have hef2 : (E2 == 0) = false := by simpa using hne
   obtain ⟨rfl, rfl⟩ := HZ2.out hne
   clear hE1 hne
   go_wp2_with fail
   have hY1 := rd_none w35
   have hY3 := rd_none w35
   have hY2 := rd_none w35
   clear qhT0_0 qhT0_1 qhT0_2 qhT1_0 qhT1_1 qhT1_2 qhT1_3 qhT2_0 qhT2_1 qhT2_2 qhT2_3 qhT2_4 qhT2_5
   obtain ⟨wM2, hwM⟩ : ∃ W, W = w35 := ⟨_, rfl⟩
   subst hwM
   have hBM2 := hB35
   clear hB35
 rotate_left
 focus
   subst hE1
   go_wp2_with fail
   refine wp_region_plan [(0, true), (1, true), (2, true), (3, true), (5, true), (6, true), (4, false), (7, false), (8, true), (9, true)] w35.heap.size (by kernel_rfl) (by kernel_rfl) (Nat.le_refl _) (fun _ _ d _ _ h => by cases d <;> exact h) ?_
   have hC : Below w35.heap.size w35 w35 := Below.refl _ _
   have zhT0 : w.heap.size < w35.heap.size := (Array.getElem?_eq_some_iff.1 hT0).1
   have zhT1 : w.heap.size + 1 < w35.heap.size := (Array.getElem?_eq_some_iff.1 hT1).1
   have zhT2 : w.heap.size + 1 + 1 < w35.heap.size := (Array.getElem?_eq_some_iff.1 hT2).1
   repeat (first | (refine wpPlanA_skip _ rfl (by rfl) ?_; simp only [Act.put, List.setIfInBounds_toArray, List.set_cons_zero, List.set_cons_succ]) | (refine wpPlanA_soft _ ?_ rfl (by rfl) ?_ ?_; rotate_left; (intro wq hq hcq; go_simp; first | exact rfl | exact ⟨rfl, rfl⟩); simp only [Act.put, List.setIfInBounds_toArray, List.set_cons_zero, List.set_cons_succ]))
   refine wpPlanA_hard _ rfl (by rfl) (fun w36 hS K hK => ?_)
   go_simp
   refine (K54.out (by first | rfl | trivial) _ _ _ _ _ _ _ (H.below hS) (HP.below hS) (HD.below hS)).mono ?_
   rintro e w37 ⟨Y1, yc1, rfl, hY1, hb⟩
   replace hS := hS.call hb rfl
   have hB37 := hB35.call hS rfl
   replace hC := hC.call hS rfl
   replace hT0 := blkb hT0 hS
   replace hT1 := blkb hT1 hS
   replace hT2 := blkb hT2 hS
   replace H := H.below hS
   replace HP := HP.below hS
   replace HD := HD.below hS
   replace hst := hst.below hS
   replace hX1 := hX1.below hS
   replace hX2 := hX2.below hS
   replace hX3 := hX3.below hS
   refine hK _ _ hC ?_
   clear hS hb hB35 hK K
   try simp only [Act.put, List.setIfInBounds_toArray, List.set_cons_zero, List.set_cons_succ]
   repeat (first | (refine wpPlanA_skip _ rfl (by rfl) ?_; simp only [Act.put, List.setIfInBounds_toArray, List.set_cons_zero, List.set_cons_succ]) | (refine wpPlanA_soft _ ?_ rfl (by rfl) ?_ ?_; rotate_left; (intro wq hq hcq; go_simp; first | exact rfl | exact ⟨rfl, rfl⟩); simp only [Act.put, List.setIfInBounds_toArray, List.set_cons_zero, List.set_cons_succ]))
   refine wpPlanA_hard _ rfl (by rfl) (fun w38 hS K hK => ?_)
   go_simp
   refine (K55.out (by first | rfl | trivial) _ _ _ (HD.below hS)).mono ?_
   rintro e w39 ⟨Y3, yc3, rfl, hY3, hb⟩
   replace hS := hS.call hb rfl
   have hB39 := hB37.call hS rfl
   replace hC := hC.call hS rfl
   replace hT0 := blkb hT0 hS
   replace hT1 := blkb hT1 hS
   replace hT2 := blkb hT2 hS
   replace H := H.below hS
   replace HP := HP.below hS
   replace HD := HD.below hS
   replace hst := hst.below hS
   replace hX1 := hX1.below hS
   replace hX2 := hX2.below hS
   replace hX3 := hX3.below hS
   replace hY1 := hY1.below hS
   refine hK _ _ hC ?_
   clear hS hb hB37 hK K
   try simp only [Act.put, List.setIfInBounds_toArray, List.set_cons_zero, List.set_cons_succ]
   repeat (first | (refine wpPlanA_skip _ rfl (by rfl) ?_; simp only [Act.put, List.setIfInBounds_toArray, List.set_cons_zero, List.set_cons_succ]) | (refine wpPlanA_soft _ ?_ rfl (by rfl) ?_ ?_; rotate_left; (intro wq hq hcq; go_simp; first | exact rfl | exact ⟨rfl, rfl⟩); simp only [Act.put, List.setIfInBounds_toArray, List.set_cons_zero, List.set_cons_succ]))
   clear qhT0_0 qhT0_1 qhT0_2 qhT1_0 qhT1_1 qhT1_2 qhT1_3 qhT2_0 qhT2_1 qhT2_2 qhT2_3 qhT2_4 qhT2_5
   refine wpPlanA_nil (fun w40 hS => ?_)
   clear hC zhT0 zhT1 zhT2
   have hB40 := hB39.call hS rfl
   replace hT0 := blkb hT0 hS
   replace hT1 := blkb hT1 hS
   replace hT2 := blkb hT2 hS
   replace H := H.below hS
   replace HP := HP.below hS
   replace HD := HD.below hS
   replace hst := hst.below hS
   replace hX1 := hX1.below hS
   replace hX2 := hX2.below hS
   replace hX3 := hX3.below hS
   replace hY1 := hY1.below hS
   replace hY3 := hY3.below hS
   clear hS hB39
   have qhT0_0 : w40.cell? ⟨w.heap.size, 0, none⟩ = some (.int .i64 c) := cell_at hT0 rfl
   have qhT0_1 : w40.cell? ⟨w.heap.size, 1, none⟩ = some (.int .i64 r) := cell_at hT0 rfl
   have qhT0_2 : w40.cell? ⟨w.heap.size, 2, none⟩ = some (.slice A n cap) := cell_at hT0 rfl
   have qhT1_0 : w40.cell? ⟨w.heap.size + 1, 0, none⟩ = some (.int .i64 un) := cell_at hT1 rfl
   have qhT1_1 : w40.cell? ⟨w.heap.size + 1, 1, none⟩ = some (.int .i64 len) := cell_at hT1 rfl
   have qhT1_2 : w40.cell? ⟨w.heap.size + 1, 2, none⟩ = some (.int .i64 most) := cell_at hT1 rfl
   have qhT1_3 : w40.cell? ⟨w.heap.size + 1, 3, none⟩ = some (.slice P np capp) := cell_at hT1 rfl
   have qhT2_0 : w40.cell? ⟨w.heap.size + 1 + 1, 0, none⟩ = some (.slice D md cd) := cell_at hT2 rfl
   have qhT2_1 : w40.cell? ⟨w.heap.size + 1 + 1, 1, none⟩ = some (.slice E me ce) := cell_at hT2 rfl
   have qhT2_2 : w40.cell? ⟨w.heap.size + 1 + 1, 2, none⟩ = some (.slice M mk cm) := cell_at hT2 rfl
   have qhT2_3 : w40.cell? ⟨w.heap.size + 1 + 1, 3, none⟩ = some (.int .i64 s) := cell_at hT2 rfl
   have qhT2_4 : w40.cell? ⟨w.heap.size + 1 + 1, 4, none⟩ = some (.int .i64 f) := cell_at hT2 rfl
   have qhT2_5 : w40.cell? ⟨w.heap.size + 1 + 1, 5, none⟩ = some (.int .i64 i) := cell_at hT2 rfl
   by_cases hE2 : E2 = 0
   focus
     subst hE2
     go_wp2_with fail
     refine (K56.out (by first | rfl | trivial) _ _ _ _ _ _ _ H HP HD).mono ?_
     rintro e w41 ⟨Y2, yc2, rfl, hY2, hb⟩
     clear qhT0_0 qhT0_1 qhT0_2 qhT1_0 qhT1_1 qhT1_2 qhT1_3 qhT2_0 qhT2_1 qhT2_2 qhT2_3 qhT2_4 qhT2_5
     have hS := hb
     have hB41 := hB40.call hS rfl
     replace hT0 := blkb hT0 hS
     replace hT1 := blkb hT1 hS
     replace hT2 := blkb hT2 hS
     replace H := H.below hS
     replace HP := HP.below hS
     replace HD := HD.below hS
     replace hst := hst.below hS
     replace hX1 := hX1.below hS
     replace hX2 := hX2.below hS
     replace hX3 := hX3.below hS
     replace hY1 := hY1.below hS
     replace hY3 := hY3.below hS
     clear hS hB40
     have qhT0_0 : w41.cell? ⟨w.heap.size, 0, none⟩ = some (.int .i64 c) := cell_at hT0 rfl
     have qhT0_1 : w41.cell? ⟨w.heap.size, 1, none⟩ = some (.int .i64 r) := cell_at hT0 rfl
     have qhT0_2 : w41.cell? ⟨w.heap.size, 2, none⟩ = some (.slice A n cap) := cell_at hT0 rfl
     have qhT1_0 : w41.cell? ⟨w.heap.size + 1, 0, none⟩ = some (.int .i64 un) := cell_at hT1 rfl
     have qhT1_1 : w41.cell? ⟨w.heap.size + 1, 1, none⟩ = some (.int .i64 len) := cell_at hT1 rfl
     have qhT1_2 : w41.cell? ⟨w.heap.size + 1, 2, none⟩ = some (.int .i64 most) := cell_at hT1 rfl
     have qhT1_3 : w41.cell? ⟨w.heap.size + 1, 3, none⟩ = some (.slice P np capp) := cell_at hT1 rfl
     have qhT2_0 : w41.cell? ⟨w.heap.size + 1 + 1, 0, none⟩ = some (.slice D md cd) := cell_at hT2 rfl
     have qhT2_1 : w41.cell? ⟨w.heap.size + 1 + 1, 1, none⟩ = some (.slice E me ce) := cell_at hT2 rfl
     have qhT2_2 : w41.cell? ⟨w.heap.size + 1 + 1, 2, none⟩ = some (.slice M mk cm) := cell_at hT2 rfl
     have qhT2_3 : w41.cell? ⟨w.heap.size + 1 + 1, 3, none⟩ = some (.int .i64 s) := cell_at hT2 rfl
     have qhT2_4 : w41.cell? ⟨w.heap.size + 1 + 1, 4, none⟩ = some (.int .i64 f) := cell_at hT2 rfl
     have qhT2_5 : w41.cell? ⟨w.heap.size + 1 + 1, 5, none⟩ = some (.int .i64 i) := cell_at hT2 rfl
     clear hb
     go_wp2_with fail
     clear qhT0_0 qhT0_1 qhT0_2 qhT1_0 qhT1_1 qhT1_2 qhT1_3 qhT2_0 qhT2_1 qhT2_2 qhT2_3 qhT2_4 qhT2_5
     obtain ⟨wM2, hwM⟩ : ∃ W, W = w41 := ⟨_, rfl⟩
     subst hwM
     have hBM2 := hB41
     clear hB41
   rotate_left
   focus
     have hef2 : (E2 == 0) = false := by simpa using hE2
     obtain ⟨rfl, rfl⟩ := HZ2.out hE2
     clear hE2
     go_wp2_with fail
     have hY2 := rd_none w40
     clear qhT0_0 qhT0_1 qhT0_2 qhT1_0 qhT1_1 qhT1_2 qhT1_3 qhT2_0 qhT2_1 qhT2_2 qhT2_3 qhT2_4 qhT2_5
     obtain ⟨wM2, hwM⟩ : ∃ W, W = w40 := ⟨_, rfl⟩
     subst hwM
     have hBM2 := hB40
     clear hB40
   rotate_left
 all_goals
  obtain ⟨w200, hww⟩ : ∃ W, W = wM2 := ⟨_, rfl⟩
  subst hww
  have hB200 := hBM2
  clear hBM2
  have qhT0_0 : w200.cell? ⟨w.heap.size, 0, none⟩ = some (.int .i64 c) := cell_at hT0 rfl
  have qhT0_1 : w200.cell? ⟨w.heap.size, 1, none⟩ = some (.int .i64 r) := cell_at hT0 rfl
  have qhT0_2 : w200.cell? ⟨w.heap.size, 2, none⟩ = some (.slice A n cap) := cell_at hT0 rfl
  have qhT1_0 : w200.cell? ⟨w.heap.size + 1, 0, none⟩ = some (.int .i64 un) := cell_at hT1 rfl
  have qhT1_1 : w200.cell? ⟨w.heap.size + 1, 1, none⟩ = some (.int .i64 len) := cell_at hT1 rfl
  have qhT1_2 : w200.cell? ⟨w.heap.size + 1, 2, none⟩ = some (.int .i64 most) := cell_at hT1 rfl
  have qhT1_3 : w200.cell? ⟨w.heap.size + 1, 3, none⟩ = some (.slice P np capp) := cell_at hT1 rfl
  have qhT2_0 : w200.cell? ⟨w.heap.size + 1 + 1, 0, none⟩ = some (.slice D md cd) := cell_at hT2 rfl
  have qhT2_1 : w200.cell? ⟨w.heap.size + 1 + 1, 1, none⟩ = some (.slice E me ce) := cell_at hT2 rfl
  have qhT2_2 : w200.cell? ⟨w.heap.size + 1 + 1, 2, none⟩ = some (.slice M mk cm) := cell_at hT2 rfl
  have qhT2_3 : w200.cell? ⟨w.heap.size + 1 + 1, 3, none⟩ = some (.int .i64 s) := cell_at hT2 rfl
  have qhT2_4 : w200.cell? ⟨w.heap.size + 1 + 1, 4, none⟩ = some (.int .i64 f) := cell_at hT2 rfl
  have qhT2_5 : w200.cell? ⟨w.heap.size + 1 + 1, 5, none⟩ = some (.int .i64 i) := cell_at hT2 rfl
  go_wp2_with fail
  refine (c30q hiN hX1 hY1).mono ?_
  rintro e w201 ⟨rfl, hb⟩
  clear qhT0_0 qhT0_1 qhT0_2 qhT1_0 qhT1_1 qhT1_2 qhT1_3 qhT2_0 qhT2_1 qhT2_2 qhT2_3 qhT2_4 qhT2_5
  have hS := hb
  have hB201 := hB200.call hS rfl
  replace hT0 := blkb hT0 hS
  replace hT1 := blkb hT1 hS
  replace hT2 := blkb hT2 hS
  replace H := H.below hS
  replace HP := HP.below hS
  replace HD := HD.below hS
  replace hst := hst.below hS
  replace hX1 := hX1.below hS
  replace hX2 := hX2.below hS
  replace hX3 := hX3.below hS
  replace hY1 := hY1.below hS
  replace hY2 := hY2.below hS
  replace hY3 := hY3.below hS
  clear hS hB200
  have qhT0_0 : w201.cell? ⟨w.heap.size, 0, none⟩ = some (.int .i64 c) := cell_at hT0 rfl
  have qhT0_1 : w201.cell? ⟨w.heap.size, 1, none⟩ = some (.int .i64 r) := cell_at hT0 rfl
  have qhT0_2 : w201.cell? ⟨w.heap.size, 2, none⟩ = some (.slice A n cap) := cell_at hT0 rfl
  have qhT1_0 : w201.cell? ⟨w.heap.size + 1, 0, none⟩ = some (.int .i64 un) := cell_at hT1 rfl
  have qhT1_1 : w201.cell? ⟨w.heap.size + 1, 1, none⟩ = some (.int .i64 len) := cell_at hT1 rfl
  have qhT1_2 : w201.cell? ⟨w.heap.size + 1, 2, none⟩ = some (.int .i64 most) := cell_at hT1 rfl
  have qhT1_3 : w201.cell? ⟨w.heap.size + 1, 3, none⟩ = some (.slice P np capp) := cell_at hT1 rfl
  have qhT2_0 : w201.cell? ⟨w.heap.size + 1 + 1, 0, none⟩ = some (.slice D md cd) := cell_at hT2 rfl
  have qhT2_1 : w201.cell? ⟨w.heap.size + 1 + 1, 1, none⟩ = some (.slice E me ce) := cell_at hT2 rfl
  have qhT2_2 : w201.cell? ⟨w.heap.size + 1 + 1, 2, none⟩ = some (.slice M mk cm) := cell_at hT2 rfl
  have qhT2_3 : w201.cell? ⟨w.heap.size + 1 + 1, 3, none⟩ = some (.int .i64 s) := cell_at hT2 rfl
  have qhT2_4 : w201.cell? ⟨w.heap.size + 1 + 1, 4, none⟩ = some (.int .i64 f) := cell_at hT2 rfl
  have qhT2_5 : w201.cell? ⟨w.heap.size + 1 + 1, 5, none⟩ = some (.int .i64 i) := cell_at hT2 rfl
  clear hb
  go_wp2_with fail
  refine (c30q htN hX2 hY2).mono ?_
  rintro e w202 ⟨rfl, hb⟩
  clear qhT0_0 qhT0_1 qhT0_2 qhT1_0 qhT1_1 qhT1_2 qhT1_3 qhT2_0 qhT2_1 qhT2_2 qhT2_3 qhT2_4 qhT2_5
  have hS := hb
  have hB202 := hB201.call hS rfl
  replace hT0 := blkb hT0 hS
  replace hT1 := blkb hT1 hS
  replace hT2 := blkb hT2 hS
  replace H := H.below hS
  replace HP := HP.below hS
  replace HD := HD.below hS
  replace hst := hst.below hS
  replace hX1 := hX1.below hS
  replace hX2 := hX2.below hS
  replace hX3 := hX3.below hS
  replace hY1 := hY1.below hS
  replace hY2 := hY2.below hS
  replace hY3 := hY3.below hS
  clear hS hB201
  have qhT0_0 : w202.cell? ⟨w.heap.size, 0, none⟩ = some (.int .i64 c) := cell_at hT0 rfl
  have qhT0_1 : w202.cell? ⟨w.heap.size, 1, none⟩ = some (.int .i64 r) := cell_at hT0 rfl
  have qhT0_2 : w202.cell? ⟨w.heap.size, 2, none⟩ = some (.slice A n cap) := cell_at hT0 rfl
  have qhT1_0 : w202.cell? ⟨w.heap.size + 1, 0, none⟩ = some (.int .i64 un) := cell_at hT1 rfl
  have qhT1_1 : w202.cell? ⟨w.heap.size + 1, 1, none⟩ = some (.int .i64 len) := cell_at hT1 rfl
  have qhT1_2 : w202.cell? ⟨w.heap.size + 1, 2, none⟩ = some (.int .i64 most) := cell_at hT1 rfl
  have qhT1_3 : w202.cell? ⟨w.heap.size + 1, 3, none⟩ = some (.slice P np capp) := cell_at hT1 rfl
  have qhT2_0 : w202.cell? ⟨w.heap.size + 1 + 1, 0, none⟩ = some (.slice D md cd) := cell_at hT2 rfl
  have qhT2_1 : w202.cell? ⟨w.heap.size + 1 + 1, 1, none⟩ = some (.slice E me ce) := cell_at hT2 rfl
  have qhT2_2 : w202.cell? ⟨w.heap.size + 1 + 1, 2, none⟩ = some (.slice M mk cm) := cell_at hT2 rfl
  have qhT2_3 : w202.cell? ⟨w.heap.size + 1 + 1, 3, none⟩ = some (.int .i64 s) := cell_at hT2 rfl
  have qhT2_4 : w202.cell? ⟨w.heap.size + 1 + 1, 4, none⟩ = some (.int .i64 f) := cell_at hT2 rfl
  have qhT2_5 : w202.cell? ⟨w.heap.size + 1 + 1, 5, none⟩ = some (.int .i64 i) := cell_at hT2 rfl
  clear hb
  go_wp2_with fail
  refine (c30q hfN hX3 hY3).mono ?_
  rintro e w203 ⟨rfl, hb⟩
  clear qhT0_0 qhT0_1 qhT0_2 qhT1_0 qhT1_1 qhT1_2 qhT1_3 qhT2_0 qhT2_1 qhT2_2 qhT2_3 qhT2_4 qhT2_5
  have hS := hb
  have hB203 := hB202.call hS rfl
  replace hT0 := blkb hT0 hS
  replace hT1 := blkb hT1 hS
  replace hT2 := blkb hT2 hS
  replace H := H.below hS
  replace HP := HP.below hS
  replace HD := HD.below hS
  replace hst := hst.below hS
  replace hX1 := hX1.below hS
  replace hX2 := hX2.below hS
  replace hX3 := hX3.below hS
  replace hY1 := hY1.below hS
  replace hY2 := hY2.below hS
  replace hY3 := hY3.below hS
  clear hS hB202
  have qhT0_0 : w203.cell? ⟨w.heap.size, 0, none⟩ = some (.int .i64 c) := cell_at hT0 rfl
  have qhT0_1 : w203.cell? ⟨w.heap.size, 1, none⟩ = some (.int .i64 r) := cell_at hT0 rfl
  have qhT0_2 : w203.cell? ⟨w.heap.size, 2, none⟩ = some (.slice A n cap) := cell_at hT0 rfl
  have qhT1_0 : w203.cell? ⟨w.heap.size + 1, 0, none⟩ = some (.int .i64 un) := cell_at hT1 rfl
  have qhT1_1 : w203.cell? ⟨w.heap.size + 1, 1, none⟩ = some (.int .i64 len) := cell_at hT1 rfl
  have qhT1_2 : w203.cell? ⟨w.heap.size + 1, 2, none⟩ = some (.int .i64 most) := cell_at hT1 rfl
  have qhT1_3 : w203.cell? ⟨w.heap.size + 1, 3, none⟩ = some (.slice P np capp) := cell_at hT1 rfl
  have qhT2_0 : w203.cell? ⟨w.heap.size + 1 + 1, 0, none⟩ = some (.slice D md cd) := cell_at hT2 rfl
  have qhT2_1 : w203.cell? ⟨w.heap.size + 1 + 1, 1, none⟩ = some (.slice E me ce) := cell_at hT2 rfl
  have qhT2_2 : w203.cell? ⟨w.heap.size + 1 + 1, 2, none⟩ = some (.slice M mk cm) := cell_at hT2 rfl
  have qhT2_3 : w203.cell? ⟨w.heap.size + 1 + 1, 3, none⟩ = some (.int .i64 s) := cell_at hT2 rfl
  have qhT2_4 : w203.cell? ⟨w.heap.size + 1 + 1, 4, none⟩ = some (.int .i64 f) := cell_at hT2 rfl
  have qhT2_5 : w203.cell? ⟨w.heap.size + 1 + 1, 5, none⟩ = some (.int .i64 i) := cell_at hT2 rfl
  clear hb
  go_wp2_with fail
  refine (c18 _ hst).mono ?_
  rintro e w204 ⟨rfl, hb⟩
  clear qhT0_0 qhT0_1 qhT0_2 qhT1_0 qhT1_1 qhT1_2 qhT1_3 qhT2_0 qhT2_1 qhT2_2 qhT2_3 qhT2_4 qhT2_5
  have hS := hb
  have hB204 := hB203.call hS rfl
  replace hT0 := blkb hT0 hS
  replace hT1 := blkb hT1 hS
  replace hT2 := blkb hT2 hS
  replace H := H.below hS
  replace HP := HP.below hS
  replace HD := HD.below hS
  replace hst := hst.below hS
  replace hX1 := hX1.below hS
  replace hX2 := hX2.below hS
  replace hX3 := hX3.below hS
  replace hY1 := hY1.below hS
  replace hY2 := hY2.below hS
  replace hY3 := hY3.below hS
  clear hS hB203
  have qhT0_0 : w204.cell? ⟨w.heap.size, 0, none⟩ = some (.int .i64 c) := cell_at hT0 rfl
  have qhT0_1 : w204.cell? ⟨w.heap.size, 1, none⟩ = some (.int .i64 r) := cell_at hT0 rfl
  have qhT0_2 : w204.cell? ⟨w.heap.size, 2, none⟩ = some (.slice A n cap) := cell_at hT0 rfl
  have qhT1_0 : w204.cell? ⟨w.heap.size + 1, 0, none⟩ = some (.int .i64 un) := cell_at hT1 rfl
  have qhT1_1 : w204.cell? ⟨w.heap.size + 1, 1, none⟩ = some (.int .i64 len) := cell_at hT1 rfl
  have qhT1_2 : w204.cell? ⟨w.heap.size + 1, 2, none⟩ = some (.int .i64 most) := cell_at hT1 rfl
  have qhT1_3 : w204.cell? ⟨w.heap.size + 1, 3, none⟩ = some (.slice P np capp) := cell_at hT1 rfl
  have qhT2_0 : w204.cell? ⟨w.heap.size + 1 + 1, 0, none⟩ = some (.slice D md cd) := cell_at hT2 rfl
  have qhT2_1 : w204.cell? ⟨w.heap.size + 1 + 1, 1, none⟩ = some (.slice E me ce) := cell_at hT2 rfl
  have qhT2_2 : w204.cell? ⟨w.heap.size + 1 + 1, 2, none⟩ = some (.slice M mk cm) := cell_at hT2 rfl
  have qhT2_3 : w204.cell? ⟨w.heap.size + 1 + 1, 3, none⟩ = some (.int .i64 s) := cell_at hT2 rfl
  have qhT2_4 : w204.cell? ⟨w.heap.size + 1 + 1, 4, none⟩ = some (.int .i64 f) := cell_at hT2 rfl
  have qhT2_5 : w204.cell? ⟨w.heap.size + 1 + 1, 5, none⟩ = some (.int .i64 i) := cell_at hT2 rfl
  clear hb
  go_wp2
  go_ret
  exact ⟨rfl, hB204⟩

end Go.Proofs.YtdimmlljjmmdbaaGreatDoor
