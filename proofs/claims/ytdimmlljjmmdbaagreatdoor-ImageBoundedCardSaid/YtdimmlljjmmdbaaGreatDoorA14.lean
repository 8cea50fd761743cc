/- A part of the proofs about chapter 7 (image): contracts of functions and plain laws (V66, V67, V68). -/
import Derived.Test.YtdimmlljjmmdbaaGreatDoorA10
import Derived.Test.YtdimmlljjmmdbaaGreatDoorA11
import Derived.Test.YtdimmlljjmmdbaaGreatDoorA07
import Derived.Test.YtdimmlljjmmdbaaGreatDoorA05
set_option linter.all false
namespace Go.Proofs.YtdimmlljjmmdbaaGreatDoor
open Go.RowKit Go.Shelf
set_option maxHeartbeats 8000000
set_option maxRecDepth 100000
theorem first_two (a b c : Int) : Mo.first [Mo.first [a, b], c] = Mo.first [a, b, c] := by
  by_cases ha : a = 0
  · subst ha; simp [Mo.first]
    by_cases hb : b = 0
    · subst hb; simp
    · simp [hb]
  · simp [Mo.first, ha]
theorem first_mdl (a b : Int) : Mo.first [a, b] = if a ≠ 0 then a else b := by
  by_cases ha : a = 0
  · subst ha; simp [Mo.first]
    intro h; exact h.symm
  · simp [Mo.first, ha]

theorem c23 (c r : Int) (A : Option Addr) (n cap : Nat) (l : List Int) (un len most : Int) (P : Option Addr) (np capp : Nat) (ps : List Pr) (M : Option Addr) (m capm : Nat) (ms : List Int) (w : World) (hl : n ≤ 1000000) (hp : np ≤ 1000000) (hm : m ≤ 1000000) (H : RdI w A n l) (HP : RdP w P np ps) (HM : RdI w M m ms) :
   Calls Tryz.prog 23 #[.agg #[.int .i64 c, .int .i64 r, .slice A n cap], .agg #[.int .i64 un, .int .i64 len, .int .i64 most, .slice P np capp], .slice M m capm] w fun en w' => en = .returned (.int .i64 (Mo.mdl c r l un len most ps ms)) ∧ Below w.heap.size w w' := by
  have HLN := Lib.hid H.len
  have HMN := Lib.hid HM.len
  obtain ⟨X, hX⟩ : ∃ X, X = Mo.mdl c r l un len most ps ms := ⟨_, rfl⟩
  rw [← hX]
  have HX : Hid (X = if Mo.surv c r l un len most ps ≠ 0 then Mo.surv c r l un len most ps else Mo.first [Mo.when ((m : Int) != (n : Int)) 2, Mo.allw ms (-1000) 1000]) := Lib.hid (by rw [hX]; unfold Mo.mdl; rw [first_mdl, HMN.out, HLN.out])
  clear hX
  obtain ⟨w0, hW⟩ : ∃ W, W = (w.alloc (Obj.cells #[.int .i64 c, .int .i64 r, .slice A n cap] 24)).alloc (Obj.cells #[.int .i64 un, .int .i64 len, .int .i64 most, .slice P np capp] 27) := ⟨_, rfl⟩
  have hT0 : w0.heap[w.heap.size]? = some (.cells #[.int .i64 c, .int .i64 r, .slice A n cap] 24 (0, 0)) := by rw [hW]; exact heap_old (by simp <;> omega) (heap_new (by simp))
  have hT1 : w0.heap[w.heap.size + 1]? = some (.cells #[.int .i64 un, .int .i64 len, .int .i64 most, .slice P np capp] 27 (0, 0)) := by rw [hW]; exact heap_new (by simp)
  have hB0 : Below w.heap.size w w0 := by rw [hW]; exact (((Below.refl _ _).alloc (by first | omega | (simp <;> omega)) _).alloc (by first | omega | (simp <;> omega)) _)
  replace H := H.below hB0
  replace HP := HP.below hB0
  replace HM := HM.below hB0
  go_enter Tryz.func23, Tryz.ntmps23
  go_wp2_with fail
  rw [← hW]
  clear hW
  have qhT0_0 : w0.cell? ⟨w.heap.size, 0, none⟩ = some (.int .i64 c) := cell_at hT0 rfl
  have qhT0_1 : w0.cell? ⟨w.heap.size, 1, none⟩ = some (.int .i64 r) := cell_at hT0 rfl
  have qhT0_2 : w0.cell? ⟨w.heap.size, 2, none⟩ = some (.slice A n cap) := cell_at hT0 rfl
  have qhT1_0 : w0.cell? ⟨w.heap.size + 1, 0, none⟩ = some (.int .i64 un) := cell_at hT1 rfl
  have qhT1_1 : w0.cell? ⟨w.heap.size + 1, 1, none⟩ = some (.int .i64 len) := cell_at hT1 rfl
  have qhT1_2 : w0.cell? ⟨w.heap.size + 1, 2, none⟩ = some (.int .i64 most) := cell_at hT1 rfl
  have qhT1_3 : w0.cell? ⟨w.heap.size + 1, 3, none⟩ = some (.slice P np capp) := cell_at hT1 rfl
  go_wp2_with fail
  refine (c26 c r A n cap l un len most P np capp ps _ hl hp H HP).mono ?_
  rintro e w1 ⟨rfl, hb⟩
  clear qhT0_0 qhT0_1 qhT0_2 qhT1_0 qhT1_1 qhT1_2 qhT1_3
  have hS := hb
  have hB1 := hB0.call hS rfl
  replace hT0 := blkb hT0 hS
  replace hT1 := blkb hT1 hS
  replace H := H.below hS
  replace HP := HP.below hS
  replace HM := HM.below hS
  clear hS hB0
  have qhT0_0 : w1.cell? ⟨w.heap.size, 0, none⟩ = some (.int .i64 c) := cell_at hT0 rfl
  have qhT0_1 : w1.cell? ⟨w.heap.size, 1, none⟩ = some (.int .i64 r) := cell_at hT0 rfl
  have qhT0_2 : w1.cell? ⟨w.heap.size, 2, none⟩ = some (.slice A n cap) := cell_at hT0 rfl
  have qhT1_0 : w1.cell? ⟨w.heap.size + 1, 0, none⟩ = some (.int .i64 un) := cell_at hT1 rfl
  have qhT1_1 : w1.cell? ⟨w.heap.size + 1, 1, none⟩ = some (.int .i64 len) := cell_at hT1 rfl
  have qhT1_2 : w1.cell? ⟨w.heap.size + 1, 2, none⟩ = some (.int .i64 most) := cell_at hT1 rfl
  have qhT1_3 : w1.cell? ⟨w.heap.size + 1, 3, none⟩ = some (.slice P np capp) := cell_at hT1 rfl
  clear hb
  obtain ⟨E, hE⟩ : ∃ E, E = Mo.surv c r l un len most ps := ⟨_, rfl⟩
  rw [← hE]
  have HE := Lib.hid hE
  clear hE
  by_cases hE0 : E = 0
  rotate_left
  ·
      have hef : (E != 0) = true := by simpa using hE0
      have HV : Hid (X = E) := Lib.hid (by rw [HX.out, ← HE.out, if_pos hE0])
      clear hE0
      go_wp2
      go_ret
      exact ⟨ret_int HV.out.symm, hB1⟩
  have hef : (E != 0) = false := by simp [hE0]
  have HV : Hid (X = Mo.first [Mo.when ((m : Int) != (n : Int)) 2, Mo.allw ms (-1000) 1000]) := Lib.hid (by rw [HX.out, ← HE.out, if_neg (by simp [hE0])])
  clear hE0
  by_cases hmn : m = n
  rotate_left
  ·
      have hne : ((m : Int) != (n : Int)) = true := by simp; omega
      have HW : Hid (X = 2) := Lib.hid (by rw [HV.out, hne]; exact Mo.first_nz (by decide) _)
      clear hmn
      go_wp2
      go_ret
      exact ⟨ret_int HW.out.symm, hB1⟩
  have hne : ((m : Int) != (n : Int)) = false := by simp; omega
  have HW : Hid (X = Mo.allw ms (-1000) 1000) := Lib.hid (by rw [HV.out, hne]; show Mo.first [0, _] = _; rw [Mo.first_z rfl, Mo.first_one])
  clear hmn
  go_wp2_with fail
  refine (c92 M m capm ms _ _ _ hm HM).mono ?_
  rintro e w' ⟨rfl, rfl⟩
  rw [← HW.out]
  go_wp2
  go_ret
  exact ⟨rfl, hB1⟩

theorem c36 (c r : Int) (A : Option Addr) (n cap : Nat) (l : List Int) (un len most : Int) (P : Option Addr) (np capp : Nat) (ps : List Pr) (M : Option Addr) (m capm : Nat) (ms : List Int) (D : Option Addr) (md capd : Nat) (d : List (List Int)) (w : World) (hl : n ≤ 1000000) (hp : np ≤ 1000000) (hm : m ≤ 1000000) (hd : md ≤ 1000000) (hdl : ∀ x, x ∈ d → x.length ≤ 1000000) (H : RdI w A n l) (HP : RdP w P np ps) (HM : RdI w M m ms) (HD : RdD w D md d) :
   Calls Tryz.prog 36 #[.agg #[.int .i64 c, .int .i64 r, .slice A n cap], .agg #[.int .i64 un, .int .i64 len, .int .i64 most, .slice P np capp], .slice M m capm, .slice D md capd] w fun en w' => en = .returned (.int .i64 (Mo.fit c r l un len most ps ms d)) ∧ Below w.heap.size w w' := by
  have HDL := Lib.hid hdl
  obtain ⟨X, hX⟩ : ∃ X, X = Mo.fit c r l un len most ps ms d := ⟨_, rfl⟩
  rw [← hX]
  have HX : Hid (X = if Mo.mdl c r l un len most ps ms ≠ 0 then Mo.mdl c r l un len most ps ms else Mo.dat len ps d) := Lib.hid (by rw [hX]; unfold Mo.fit; rw [← first_two]; exact first_mdl _ _)
  clear hX hdl
  obtain ⟨w0, hW⟩ : ∃ W, W = (w.alloc (Obj.cells #[.int .i64 c, .int .i64 r, .slice A n cap] 24)).alloc (Obj.cells #[.int .i64 un, .int .i64 len, .int .i64 most, .slice P np capp] 27) := ⟨_, rfl⟩
  have hT0 : w0.heap[w.heap.size]? = some (.cells #[.int .i64 c, .int .i64 r, .slice A n cap] 24 (0, 0)) := by rw [hW]; exact heap_old (by simp <;> omega) (heap_new (by simp))
  have hT1 : w0.heap[w.heap.size + 1]? = some (.cells #[.int .i64 un, .int .i64 len, .int .i64 most, .slice P np capp] 27 (0, 0)) := by rw [hW]; exact heap_new (by simp)
  have hB0 : Below w.heap.size w w0 := by rw [hW]; exact (((Below.refl _ _).alloc (by first | omega | (simp <;> omega)) _).alloc (by first | omega | (simp <;> omega)) _)
  replace H := H.below hB0
  replace HP := HP.below hB0
  replace HM := HM.below hB0
  replace HD := HD.below hB0
  go_enter Tryz.func36, Tryz.ntmps36
  go_wp2_with fail
  rw [← hW]
  clear hW
  have qhT0_0 : w0.cell? ⟨w.heap.size, 0, none⟩ = some (.int .i64 c) := cell_at hT0 rfl
  have qhT0_1 : w0.cell? ⟨w.heap.size, 1, none⟩ = some (.int .i64 r) := cell_at hT0 rfl
  have qhT0_2 : w0.cell? ⟨w.heap.size, 2, none⟩ = some (.slice A n cap) := cell_at hT0 rfl
  have qhT1_0 : w0.cell? ⟨w.heap.size + 1, 0, none⟩ = some (.int .i64 un) := cell_at hT1 rfl
  have qhT1_1 : w0.cell? ⟨w.heap.size + 1, 1, none⟩ = some (.int .i64 len) := cell_at hT1 rfl
  have qhT1_2 : w0.cell? ⟨w.heap.size + 1, 2, none⟩ = some (.int .i64 most) := cell_at hT1 rfl
  have qhT1_3 : w0.cell? ⟨w.heap.size + 1, 3, none⟩ = some (.slice P np capp) := cell_at hT1 rfl
  go_wp2_with fail
  refine (c23 c r A n cap l un len most P np capp ps M m capm ms _ hl hp hm H HP HM).mono ?_
  rintro e w1 ⟨rfl, hb⟩
  clear qhT0_0 qhT0_1 qhT0_2 qhT1_0 qhT1_1 qhT1_2 qhT1_3
  have hS := hb
  have hB1 := hB0.call hS rfl
  replace hT0 := blkb hT0 hS
  replace hT1 := blkb hT1 hS
  replace H := H.below hS
  replace HP := HP.below hS
  replace HM := HM.below hS
  replace HD := HD.below hS
  clear hS hB0
  have qhT0_0 : w1.cell? ⟨w.heap.size, 0, none⟩ = some (.int .i64 c) := cell_at hT0 rfl
  have qhT0_1 : w1.cell? ⟨w.heap.size, 1, none⟩ = some (.int .i64 r) := cell_at hT0 rfl
  have qhT0_2 : w1.cell? ⟨w.heap.size, 2, none⟩ = some (.slice A n cap) := cell_at hT0 rfl
  have qhT1_0 : w1.cell? ⟨w.heap.size + 1, 0, none⟩ = some (.int .i64 un) := cell_at hT1 rfl
  have qhT1_1 : w1.cell? ⟨w.heap.size + 1, 1, none⟩ = some (.int .i64 len) := cell_at hT1 rfl
  have qhT1_2 : w1.cell? ⟨w.heap.size + 1, 2, none⟩ = some (.int .i64 most) := cell_at hT1 rfl
  have qhT1_3 : w1.cell? ⟨w.heap.size + 1, 3, none⟩ = some (.slice P np capp) := cell_at hT1 rfl
  clear hb
  obtain ⟨E, hE⟩ : ∃ E, E = Mo.mdl c r l un len most ps ms := ⟨_, rfl⟩
  rw [← hE]
  have HE := Lib.hid hE
  clear hE
  by_cases hE0 : E = 0
  rotate_left
  ·
      have hef : (E != 0) = true := by simpa using hE0
      have HV : Hid (X = E) := Lib.hid (by rw [HX.out, ← HE.out, if_pos hE0])
      clear hE0
      go_wp2
      go_ret
      exact ⟨ret_int HV.out.symm, hB1⟩
  have hef : (E != 0) = false := by simp [hE0]
  have HV : Hid (X = Mo.dat len ps d) := Lib.hid (by rw [HX.out, ← HE.out, if_neg (by simp [hE0])])
  clear hE0
  go_wp2_with fail
  refine (c110 un len most P np capp ps D md capd d _ hp hd HDL.out HP HD).mono ?_
  rintro e w2 ⟨rfl, hb⟩
  clear qhT0_0 qhT0_1 qhT0_2 qhT1_0 qhT1_1 qhT1_2 qhT1_3
  have hS := hb
  have hB2 := hB1.call hS rfl
  replace hT0 := blkb hT0 hS
  replace hT1 := blkb hT1 hS
  replace H := H.below hS
  replace HP := HP.below hS
  replace HM := HM.below hS
  replace HD := HD.below hS
  clear hS hB1
  have qhT0_0 : w2.cell? ⟨w.heap.size, 0, none⟩ = some (.int .i64 c) := cell_at hT0 rfl
  have qhT0_1 : w2.cell? ⟨w.heap.size, 1, none⟩ = some (.int .i64 r) := cell_at hT0 rfl
  have qhT0_2 : w2.cell? ⟨w.heap.size, 2, none⟩ = some (.slice A n cap) := cell_at hT0 rfl
  have qhT1_0 : w2.cell? ⟨w.heap.size + 1, 0, none⟩ = some (.int .i64 un) := cell_at hT1 rfl
  have qhT1_1 : w2.cell? ⟨w.heap.size + 1, 1, none⟩ = some (.int .i64 len) := cell_at hT1 rfl
  have qhT1_2 : w2.cell? ⟨w.heap.size + 1, 2, none⟩ = some (.int .i64 most) := cell_at hT1 rfl
  have qhT1_3 : w2.cell? ⟨w.heap.size + 1, 3, none⟩ = some (.slice P np capp) := cell_at hT1 rfl
  clear hb
  rw [← HV.out]
  go_wp2
  go_ret
  exact ⟨rfl, hB2⟩

theorem c46 (c r : Int) (A : Option Addr) (n cap : Nat) (l : List Int) (un len most : Int) (P : Option Addr) (np capp : Nat) (ps : List Pr) (D : Option Addr) (md capd : Nat) (d : List (List Int)) (F : Option Addr) (me cape : Nat) (e : List (List Int)) (w : World) (hl : n ≤ 1000000) (hp : np ≤ 1000000) (hd : md ≤ 1000000) (hdl : ∀ x, x ∈ d → x.length ≤ 1000000) (he : me ≤ 1000000) (hel : ∀ x, x ∈ e → x.length ≤ 1000000) (H : RdI w A n l) (HP : RdP w P np ps) (HD : RdD w D md d) (HF : RdD w F me e) :
   Calls Tryz.prog 46 #[.agg #[.int .i64 c, .int .i64 r, .slice A n cap], .agg #[.int .i64 un, .int .i64 len, .int .i64 most, .slice P np capp], .slice D md capd, .slice F me cape] w fun en w' => en = .returned (.int .i64 (Mo.bth c r l un len most ps d e)) ∧ Below w.heap.size w w' := by
  have HDL := Lib.hid hdl
  have HEL := Lib.hid hel
  obtain ⟨X, hX⟩ : ∃ X, X = Mo.bth c r l un len most ps d e := ⟨_, rfl⟩
  rw [← hX]
  have HX : Hid (X = if Mo.dta c r l un len most ps d ≠ 0 then Mo.dta c r l un len most ps d else Mo.dat len ps e) := Lib.hid (by rw [hX]; unfold Mo.bth; exact first_mdl _ _)
  clear hX hdl hel
  obtain ⟨w0, hW⟩ : ∃ W, W = (w.alloc (Obj.cells #[.int .i64 c, .int .i64 r, .slice A n cap] 24)).alloc (Obj.cells #[.int .i64 un, .int .i64 len, .int .i64 most, .slice P np capp] 27) := ⟨_, rfl⟩
  have hT0 : w0.heap[w.heap.size]? = some (.cells #[.int .i64 c, .int .i64 r, .slice A n cap] 24 (0, 0)) := by rw [hW]; exact heap_old (by simp <;> omega) (heap_new (by simp))
  have hT1 : w0.heap[w.heap.size + 1]? = some (.cells #[.int .i64 un, .int .i64 len, .int .i64 most, .slice P np capp] 27 (0, 0)) := by rw [hW]; exact heap_new (by simp)
  have hB0 : Below w.heap.size w w0 := by rw [hW]; exact (((Below.refl _ _).alloc (by first | omega | (simp <;> omega)) _).alloc (by first | omega | (simp <;> omega)) _)
  replace H := H.below hB0
  replace HP := HP.below hB0
  replace HD := HD.below hB0
  replace HF := HF.below hB0
  go_enter Tryz.func46, Tryz.ntmps46
  go_wp2_with fail
  rw [← hW]
  clear hW
  have qhT0_0 : w0.cell? ⟨w.heap.size, 0, none⟩ = some (.int .i64 c) := cell_at hT0 rfl
  have qhT0_1 : w0.cell? ⟨w.heap.size, 1, none⟩ = some (.int .i64 r) := cell_at hT0 rfl
  have qhT0_2 : w0.cell? ⟨w.heap.size, 2, none⟩ = some (.slice A n cap) := cell_at hT0 rfl
  have qhT1_0 : w0.cell? ⟨w.heap.size + 1, 0, none⟩ = some (.int .i64 un) := cell_at hT1 rfl
  have qhT1_1 : w0.cell? ⟨w.heap.size + 1, 1, none⟩ = some (.int .i64 len) := cell_at hT1 rfl
  have qhT1_2 : w0.cell? ⟨w.heap.size + 1, 2, none⟩ = some (.int .i64 most) := cell_at hT1 rfl
  have qhT1_3 : w0.cell? ⟨w.heap.size + 1, 3, none⟩ = some (.slice P np capp) := cell_at hT1 rfl
  go_wp2_with fail
  refine (c52 c r A n cap l un len most P np capp ps D md capd d _ hl hp hd HDL.out HP HD H).mono ?_
  rintro e w1 ⟨rfl, hb⟩
  clear qhT0_0 qhT0_1 qhT0_2 qhT1_0 qhT1_1 qhT1_2 qhT1_3
  have hS := hb
  have hB1 := hB0.call hS rfl
  replace hT0 := blkb hT0 hS
  replace hT1 := blkb hT1 hS
  replace H := H.below hS
  replace HP := HP.below hS
  replace HD := HD.below hS
  replace HF := HF.below hS
  clear hS hB0
  have qhT0_0 : w1.cell? ⟨w.heap.size, 0, none⟩ = some (.int .i64 c) := cell_at hT0 rfl
  have qhT0_1 : w1.cell? ⟨w.heap.size, 1, none⟩ = some (.int .i64 r) := cell_at hT0 rfl
  have qhT0_2 : w1.cell? ⟨w.heap.size, 2, none⟩ = some (.slice A n cap) := cell_at hT0 rfl
  have qhT1_0 : w1.cell? ⟨w.heap.size + 1, 0, none⟩ = some (.int .i64 un) := cell_at hT1 rfl
  have qhT1_1 : w1.cell? ⟨w.heap.size + 1, 1, none⟩ = some (.int .i64 len) := cell_at hT1 rfl
  have qhT1_2 : w1.cell? ⟨w.heap.size + 1, 2, none⟩ = some (.int .i64 most) := cell_at hT1 rfl
  have qhT1_3 : w1.cell? ⟨w.heap.size + 1, 3, none⟩ = some (.slice P np capp) := cell_at hT1 rfl
  clear hb
  obtain ⟨E, hE⟩ : ∃ E, E = Mo.dta c r l un len most ps d := ⟨_, rfl⟩
  rw [← hE]
  have HE := Lib.hid hE
  clear hE
  by_cases hE0 : E = 0
  rotate_left
  ·
      have hef : (E != 0) = true := by simpa using hE0
      have HV : Hid (X = E) := Lib.hid (by rw [HX.out, ← HE.out, if_pos hE0])
      clear hE0
      go_wp2
      go_ret
      exact ⟨ret_int HV.out.symm, hB1⟩
  have hef : (E != 0) = false := by simp [hE0]
  have HV : Hid (X = Mo.dat len ps e) := Lib.hid (by rw [HX.out, ← HE.out, if_neg (by simp [hE0])])
  clear hE0
  go_wp2_with fail
  refine (c110 un len most P np capp ps F me cape e _ hp he HEL.out HP HF).mono ?_
  rintro e w2 ⟨rfl, hb⟩
  clear qhT0_0 qhT0_1 qhT0_2 qhT1_0 qhT1_1 qhT1_2 qhT1_3
  have hS := hb
  have hB2 := hB1.call hS rfl
  replace hT0 := blkb hT0 hS
  replace hT1 := blkb hT1 hS
  replace H := H.below hS
  replace HP := HP.below hS
  replace HD := HD.below hS
  replace HF := HF.below hS
  clear hS hB1
  have qhT0_0 : w2.cell? ⟨w.heap.size, 0, none⟩ = some (.int .i64 c) := cell_at hT0 rfl
  have qhT0_1 : w2.cell? ⟨w.heap.size, 1, none⟩ = some (.int .i64 r) := cell_at hT0 rfl
  have qhT0_2 : w2.cell? ⟨w.heap.size, 2, none⟩ = some (.slice A n cap) := cell_at hT0 rfl
  have qhT1_0 : w2.cell? ⟨w.heap.size + 1, 0, none⟩ = some (.int .i64 un) := cell_at hT1 rfl
  have qhT1_1 : w2.cell? ⟨w.heap.size + 1, 1, none⟩ = some (.int .i64 len) := cell_at hT1 rfl
  have qhT1_2 : w2.cell? ⟨w.heap.size + 1, 2, none⟩ = some (.int .i64 most) := cell_at hT1 rfl
  have qhT1_3 : w2.cell? ⟨w.heap.size + 1, 3, none⟩ = some (.slice P np capp) := cell_at hT1 rfl
  clear hb
  rw [← HV.out]
  go_wp2
  go_ret
  exact ⟨rfl, hB2⟩

theorem c49_bad (c r : Int) (A : Option Addr) (n cap : Nat) (l : List Int) (un len most : Int) (P : Option Addr) (np capp : Nat) (ps : List Pr) (D : Option Addr) (md capd : Nat) (d : List (List Int)) (w : World) (hl : n ≤ 1000000) (hp : np ≤ 1000000) (hd : md ≤ 1000000) (hdl : ∀ x, x ∈ d → x.length ≤ 1000000) (H : RdI w A n l) (HP : RdP w P np ps) (HD : RdD w D md d) (hE : Mo.dta c r l un len most ps d ≠ 0) :
   Calls Tryz.prog 49 #[.agg #[.int .i64 c, .int .i64 r, .slice A n cap], .agg #[.int .i64 un, .int .i64 len, .int .i64 most, .slice P np capp], .slice D md capd] w fun en w' => en = .returned (.tuple #[.slice none 0 0, .int .i64 (Mo.dta c r l un len most ps d)]) ∧ Below w.heap.size w w' := by
  have HDL := Lib.hid hdl
  obtain ⟨E, hE1⟩ : ∃ E, E = Mo.first [Mo.surv c r l un len most ps, Mo.dat len ps d] := ⟨_, rfl⟩
  have hE2 : Mo.dta c r l un len most ps d = E := by rw [hE1]; rfl
  rw [hE2] at hE ⊢
  have HE := Lib.hid hE1
  have hef : (E != 0) = true := by simpa using hE
  clear hE hE1 hE2 hdl
  obtain ⟨w0, hW⟩ : ∃ W, W = (w.alloc (Obj.cells #[.int .i64 c, .int .i64 r, .slice A n cap] 35)).alloc (Obj.cells #[.int .i64 un, .int .i64 len, .int .i64 most, .slice P np capp] 39) := ⟨_, rfl⟩
  have hT0 : w0.heap[w.heap.size]? = some (.cells #[.int .i64 c, .int .i64 r, .slice A n cap] 35 (0, 0)) := by rw [hW]; exact heap_old (by simp <;> omega) (heap_new (by simp))
  have hT1 : w0.heap[w.heap.size + 1]? = some (.cells #[.int .i64 un, .int .i64 len, .int .i64 most, .slice P np capp] 39 (0, 0)) := by rw [hW]; exact heap_new (by simp)
  have hB0 : Below w.heap.size w w0 := by rw [hW]; exact (((Below.refl _ _).alloc (by first | omega | (simp <;> omega)) _).alloc (by first | omega | (simp <;> omega)) _)
  replace H := H.below hB0
  replace HP := HP.below hB0
  replace HD := HD.below hB0
  go_enter Tryz.func49, Tryz.ntmps49
  go_wp2_with fail
  rw [← hW]
  clear hW
  have qhT0_0 : w0.cell? ⟨w.heap.size, 0, none⟩ = some (.int .i64 c) := cell_at hT0 rfl
  have qhT0_1 : w0.cell? ⟨w.heap.size, 1, none⟩ = some (.int .i64 r) := cell_at hT0 rfl
  have qhT0_2 : w0.cell? ⟨w.heap.size, 2, none⟩ = some (.slice A n cap) := cell_at hT0 rfl
  have qhT1_0 : w0.cell? ⟨w.heap.size + 1, 0, none⟩ = some (.int .i64 un) := cell_at hT1 rfl
  have qhT1_1 : w0.cell? ⟨w.heap.size + 1, 1, none⟩ = some (.int .i64 len) := cell_at hT1 rfl
  have qhT1_2 : w0.cell? ⟨w.heap.size + 1, 2, none⟩ = some (.int .i64 most) := cell_at hT1 rfl
  have qhT1_3 : w0.cell? ⟨w.heap.size + 1, 3, none⟩ = some (.slice P np capp) := cell_at hT1 rfl
  go_wp2_with fail
  refine (c102 c r A n cap l un len most P np capp ps D md capd d _ hl hp hd HDL.out HP HD H).mono ?_
  rintro e w1 ⟨rfl, hb⟩
  clear qhT0_0 qhT0_1 qhT0_2 qhT1_0 qhT1_1 qhT1_2 qhT1_3
  have hS := hb
  have hB1 := hB0.call hS rfl
  replace hT0 := blkb hT0 hS
  replace hT1 := blkb hT1 hS
  replace H := H.below hS
  replace HP := HP.below hS
  replace HD := HD.below hS
  clear hS hB0
  have qhT0_0 : w1.cell? ⟨w.heap.size, 0, none⟩ = some (.int .i64 c) := cell_at hT0 rfl
  have qhT0_1 : w1.cell? ⟨w.heap.size, 1, none⟩ = some (.int .i64 r) := cell_at hT0 rfl
  have qhT0_2 : w1.cell? ⟨w.heap.size, 2, none⟩ = some (.slice A n cap) := cell_at hT0 rfl
  have qhT1_0 : w1.cell? ⟨w.heap.size + 1, 0, none⟩ = some (.int .i64 un) := cell_at hT1 rfl
  have qhT1_1 : w1.cell? ⟨w.heap.size + 1, 1, none⟩ = some (.int .i64 len) := cell_at hT1 rfl
  have qhT1_2 : w1.cell? ⟨w.heap.size + 1, 2, none⟩ = some (.int .i64 most) := cell_at hT1 rfl
  have qhT1_3 : w1.cell? ⟨w.heap.size + 1, 3, none⟩ = some (.slice P np capp) := cell_at hT1 rfl
  clear hb
  rw [← HE.out]
  go_wp2
  go_ret2
  exact ⟨rfl, hB1⟩

theorem c49_ok (c r : Int) (A : Option Addr) (n cap : Nat) (l : List Int) (un len most : Int) (P : Option Addr) (np capp : Nat) (ps : List Pr) (D : Option Addr) (md capd : Nat) (d : List (List Int)) (w : World) (hl : n ≤ 1000000) (hp : np ≤ 1000000) (hd : md ≤ 100) (hdl : ∀ x, x ∈ d → x.length ≤ 1000) (H : RdI w A n l) (HP : RdP w P np ps) (HD : RdD w D md d) (hE : Mo.dta c r l un len most ps d = 0) :
   Calls Tryz.prog 49 #[.agg #[.int .i64 c, .int .i64 r, .slice A n cap], .agg #[.int .i64 un, .int .i64 len, .int .i64 most, .slice P np capp], .slice D md capd] w fun en w' => ∃ F capf, en = .returned (.tuple #[.slice F d.flatten.length capf, .int .i64 0]) ∧ RdI w' F d.flatten.length d.flatten ∧ Below w.heap.size w w' := by
  have HDL := Lib.hid hdl
  have HDL2 : Hid (∀ x, x ∈ d → x.length ≤ 1000000) := Lib.hid (fun x hx => Nat.le_trans (hdl x hx) (by decide))
  obtain ⟨N, hN⟩ : ∃ N, d.flatten.length = N := ⟨_, rfl⟩
  rw [hN]
  have HE : Hid (Mo.first [Mo.surv c r l un len most ps, Mo.dat len ps d] = 0) := Lib.hid hE
  clear hE hdl
  obtain ⟨w0, hW⟩ : ∃ W, W = (w.alloc (Obj.cells #[.int .i64 c, .int .i64 r, .slice A n cap] 35)).alloc (Obj.cells #[.int .i64 un, .int .i64 len, .int .i64 most, .slice P np capp] 39) := ⟨_, rfl⟩
  have hT0 : w0.heap[w.heap.size]? = some (.cells #[.int .i64 c, .int .i64 r, .slice A n cap] 35 (0, 0)) := by rw [hW]; exact heap_old (by simp <;> omega) (heap_new (by simp))
  have hT1 : w0.heap[w.heap.size + 1]? = some (.cells #[.int .i64 un, .int .i64 len, .int .i64 most, .slice P np capp] 39 (0, 0)) := by rw [hW]; exact heap_new (by simp)
  have hB0 : Below w.heap.size w w0 := by rw [hW]; exact (((Below.refl _ _).alloc (by first | omega | (simp <;> omega)) _).alloc (by first | omega | (simp <;> omega)) _)
  replace H := H.below hB0
  replace HP := HP.below hB0
  replace HD := HD.below hB0
  go_enter Tryz.func49, Tryz.ntmps49
  go_wp2_with fail
  rw [← hW]
  clear hW
  have qhT0_0 : w0.cell? ⟨w.heap.size, 0, none⟩ = some (.int .i64 c) := cell_at hT0 rfl
  have qhT0_1 : w0.cell? ⟨w.heap.size, 1, none⟩ = some (.int .i64 r) := cell_at hT0 rfl
  have qhT0_2 : w0.cell? ⟨w.heap.size, 2, none⟩ = some (.slice A n cap) := cell_at hT0 rfl
  have qhT1_0 : w0.cell? ⟨w.heap.size + 1, 0, none⟩ = some (.int .i64 un) := cell_at hT1 rfl
  have qhT1_1 : w0.cell? ⟨w.heap.size + 1, 1, none⟩ = some (.int .i64 len) := cell_at hT1 rfl
  have qhT1_2 : w0.cell? ⟨w.heap.size + 1, 2, none⟩ = some (.int .i64 most) := cell_at hT1 rfl
  have qhT1_3 : w0.cell? ⟨w.heap.size + 1, 3, none⟩ = some (.slice P np capp) := cell_at hT1 rfl
  go_wp2_with fail
  refine (c102 c r A n cap l un len most P np capp ps D md capd d _ hl hp (by omega) HDL2.out HP HD H).mono ?_
  rintro e w1 ⟨rfl, hb⟩
  clear qhT0_0 qhT0_1 qhT0_2 qhT1_0 qhT1_1 qhT1_2 qhT1_3
  have hS := hb
  have hB1 := hB0.call hS rfl
  replace hT0 := blkb hT0 hS
  replace hT1 := blkb hT1 hS
  replace H := H.below hS
  replace HP := HP.below hS
  replace HD := HD.below hS
  clear hS hB0
  have qhT0_0 : w1.cell? ⟨w.heap.size, 0, none⟩ = some (.int .i64 c) := cell_at hT0 rfl
  have qhT0_1 : w1.cell? ⟨w.heap.size, 1, none⟩ = some (.int .i64 r) := cell_at hT0 rfl
  have qhT0_2 : w1.cell? ⟨w.heap.size, 2, none⟩ = some (.slice A n cap) := cell_at hT0 rfl
  have qhT1_0 : w1.cell? ⟨w.heap.size + 1, 0, none⟩ = some (.int .i64 un) := cell_at hT1 rfl
  have qhT1_1 : w1.cell? ⟨w.heap.size + 1, 1, none⟩ = some (.int .i64 len) := cell_at hT1 rfl
  have qhT1_2 : w1.cell? ⟨w.heap.size + 1, 2, none⟩ = some (.int .i64 most) := cell_at hT1 rfl
  have qhT1_3 : w1.cell? ⟨w.heap.size + 1, 3, none⟩ = some (.slice P np capp) := cell_at hT1 rfl
  clear hb
  rw [HE.out]
  go_wp2_with fail
  refine (c106n D md capd d N _ hd HDL.out HD hN).mono ?_
  rintro e w2 ⟨F, capf, rfl, hrf, hb⟩
  clear qhT0_0 qhT0_1 qhT0_2 qhT1_0 qhT1_1 qhT1_2 qhT1_3
  have hS := hb
  have hB2 := hB1.call hS rfl
  replace hT0 := blkb hT0 hS
  replace hT1 := blkb hT1 hS
  replace H := H.below hS
  replace HP := HP.below hS
  replace HD := HD.below hS
  clear hS hB1
  have qhT0_0 : w2.cell? ⟨w.heap.size, 0, none⟩ = some (.int .i64 c) := cell_at hT0 rfl
  have qhT0_1 : w2.cell? ⟨w.heap.size, 1, none⟩ = some (.int .i64 r) := cell_at hT0 rfl
  have qhT0_2 : w2.cell? ⟨w.heap.size, 2, none⟩ = some (.slice A n cap) := cell_at hT0 rfl
  have qhT1_0 : w2.cell? ⟨w.heap.size + 1, 0, none⟩ = some (.int .i64 un) := cell_at hT1 rfl
  have qhT1_1 : w2.cell? ⟨w.heap.size + 1, 1, none⟩ = some (.int .i64 len) := cell_at hT1 rfl
  have qhT1_2 : w2.cell? ⟨w.heap.size + 1, 2, none⟩ = some (.int .i64 most) := cell_at hT1 rfl
  have qhT1_3 : w2.cell? ⟨w.heap.size + 1, 3, none⟩ = some (.slice P np capp) := cell_at hT1 rfl
  clear hb
  go_wp2
  go_ret2
  exact ⟨F, capf, rfl, hrf, hB2⟩

end Go.Proofs.YtdimmlljjmmdbaaGreatDoor
namespace Go.Proofs.YtdimmlljjmmdbaaGreatDoor
open Go.RowKit Go.Shelf
set_option maxHeartbeats 8000000
set_option maxRecDepth 100000
theorem c48s (D : Option Addr) (m capd : Nat) (d : List (List Int)) (w : World) (hd : m ≤ 9223372036854775807) (HD : RdD w D m d) :
   Calls Tryz.prog 48 #[.slice D m capd] w fun en w' => ShP ((m ≤ 5 ∨ m = 17) ∧ ∀ x, x ∈ d → x.length ≤ 45) en ∧ ((m ≤ 5 ∧ ∀ x, x ∈ d → x.length ≤ 45) → en = .returned (.bool true)) ∧ Below w.heap.size w w' := by
  have HDN := Lib.hid HD.len
  go_enter Tryz.func48, Tryz.ntmps48
  go_wp2
  go_loopw [3] (fun i wr => ∃ k : Nat, k ≤ m ∧ i = .int .i64 k ∧ Hid (∀ (j : Nat) (x : List Int), j < k → d[j]? = some x → x.length ≤ 45) ∧ Below w.heap.size w wr) (fun i _ => m - (intOf i).toNat)
  case atStart => exact ⟨0, Nat.zero_le _, rfl, Lib.hid (fun j _ h => absurd h (Nat.not_lt_zero j)), Below.refl _ _⟩
  case round =>
    obtain ⟨k, hk, rfl, HC, hB⟩ := hrel
    by_cases hlt : k < m
    · have hwk : IntKind.i64.wrap ((k : Int) + 1) = ((k + 1 : Nat) : Int) := by rw [wrapI (by omega)]; simp
      have hkm2 : (k : Int) < (m : Int) := by omega
      have hk02 : (0 : Int) ≤ (k : Int) := by omega
      obtain ⟨db, doff, x, xa, xc, rfl, hx, hdb, hdc, hrx⟩ := (HD.below hB).at hlt
      have HX := Lib.hid hx
      clear hx hrx
      by_cases hx45 : x.length ≤ 45
      · have hd1 : decide ((45 : Int) < (x.length : Int)) = false := by simp; omega
        have HC2 : Hid (∀ (j : Nat) (y : List Int), j < k + 1 → d[j]? = some y → y.length ≤ 45) := Lib.hid (fun j y hj hy => by
          by_cases h : j = k
          · subst h; rw [HX.out] at hy; cases hy; exact hx45
          · exact HC.out j y (by omega) hy)
        go_wp2
        go_roundw
        case rel => exact ⟨k + 1, by omega, rfl, HC2, hB⟩
        case measure => simp [intOf]; omega
      · have hd1 : decide ((45 : Int) < (x.length : Int)) = true := by simp; omega
        have HXM := Lib.hid (List.mem_of_getElem? HX.out)
        go_wp2
        go_ret
        exact ⟨⟨false, rfl, fun h => by cases h⟩, fun h => absurd (h.2 _ HXM.out) hx45, hB⟩
    · obtain rfl : m = k := by omega
      have HA : Hid (∀ x, x ∈ d → x.length ≤ 45) := Lib.hid (fun x hx => by
        obtain ⟨j, hj, hxj⟩ := List.getElem_of_mem hx
        exact HC.out j x (by rw [← HDN.out]; exact hj) (by rw [← hxj]; exact List.getElem?_eq_getElem hj))
      by_cases h5 : m ≤ 5
      · have hd5 : decide ((m : Int) ≤ 5) = true := by simp; omega
        go_wp2
        all_goals go_ret
        all_goals exact ⟨⟨_, rfl, fun _ => ⟨.inl h5, HA.out⟩⟩, fun _ => rfl, hB⟩
      · have hd5 : decide ((m : Int) ≤ 5) = false := by simp; omega
        by_cases h17 : m = 17
        · have hd17 : ((m : Int) == 17) = true := by simp; omega
          have H17 := Lib.hid h17
          clear h17
          go_wp2
          all_goals go_ret
          all_goals exact ⟨⟨_, rfl, fun _ => ⟨.inr H17.out, HA.out⟩⟩, fun h => absurd h.1 h5, hB⟩
        · have hd17 : ((m : Int) == 17) = false := by simp; omega
          go_wp2
          all_goals go_ret
          all_goals exact ⟨⟨_, rfl, fun h => by cases h⟩, fun h => absurd h.1 h5, hB⟩
theorem c31s (D E M : Option Addr) (n m k cd ce cm : Nat) (dl el : List (List Int)) (s f x : Int) (w : World) (hn : n ≤ 9223372036854775807) (hm : m ≤ 9223372036854775807) (HD : RdD w D n dl) (HE : RdD w E m el) :
   Calls Tryz.prog 31 #[.agg #[.slice D n cd, .slice E m ce, .slice M k cm, .int .i64 s, .int .i64 f, .int .i64 x]] w fun en w' => ShP (((n ≤ 5 ∨ n = 17) ∧ ∀ x, x ∈ dl → x.length ≤ 45) ∧ ((m ≤ 5 ∨ m = 17) ∧ ∀ x, x ∈ el → x.length ≤ 45) ∧ k ≤ 30) en ∧ Below w.heap.size w w' := by
  obtain ⟨w0, hW⟩ : ∃ W, W = w.alloc (Obj.cells #[.slice D n cd, .slice E m ce, .slice M k cm, .int .i64 s, .int .i64 f, .int .i64 x] 55) := ⟨_, rfl⟩
  have hT0 : w0.heap[w.heap.size]? = some (.cells #[.slice D n cd, .slice E m ce, .slice M k cm, .int .i64 s, .int .i64 f, .int .i64 x] 55 (0, 0)) := by rw [hW]; exact heap_new (by simp)
  have hB0 : Below w.heap.size w w0 := by rw [hW]; exact (Below.refl _ _).alloc (Nat.le_refl _) _
  have H1 := HD.below hB0
  have H2 := HE.below hB0
  clear HD HE
  go_enter Tryz.func31, Tryz.ntmps31
  go_wp2_with fail
  rw [← hW]
  clear hW
  have q0 : w0.cell? ⟨w.heap.size, 0, none⟩ = some (.slice D n cd) := cell_at hT0 rfl
  have q1 : w0.cell? ⟨w.heap.size, 1, none⟩ = some (.slice E m ce) := cell_at hT0 rfl
  have q2 : w0.cell? ⟨w.heap.size, 2, none⟩ = some (.slice M k cm) := cell_at hT0 rfl
  have z2 := cell_lt q2
  go_wp2_with fail
  refine (c48s D n cd dl _ hn H1).mono ?_
  rintro e w1 ⟨⟨b1, rfl, hP1⟩, _, hb⟩
  have hB1 := hB0.call hb rfl
  replace hT0 := blkb hT0 hb
  replace H2 := H2.below hb
  clear hb q0 q1 q2 z2 hB0
  have q1 : w1.cell? ⟨w.heap.size, 1, none⟩ = some (.slice E m ce) := cell_at hT0 rfl
  have q2 : w1.cell? ⟨w.heap.size, 2, none⟩ = some (.slice M k cm) := cell_at hT0 rfl
  have z2 := cell_lt q2
  have HP1 := Lib.hid hP1
  clear hP1
  cases b1
  · go_wp2
    go_ret
    exact ⟨⟨_, rfl, fun h => by simp at h⟩, hB1⟩
  go_wp2_with fail
  refine (c48s E m ce el _ hm H2).mono ?_
  rintro e w2 ⟨⟨b2, rfl, hP2⟩, _, hb⟩
  have hB2 := hB1.call hb rfl
  replace hT0 := blkb hT0 hb
  clear hb q1 q2 z2 hB1
  have q2 : w2.cell? ⟨w.heap.size, 2, none⟩ = some (.slice M k cm) := cell_at hT0 rfl
  have z2 := cell_lt q2
  have HP2 := Lib.hid hP2
  clear hP2
  cases b2
  · go_wp2
    go_ret
    exact ⟨⟨_, rfl, fun h => by simp at h⟩, hB2⟩
  go_wp2
  all_goals go_ret
  all_goals exact ⟨⟨_, rfl, fun h => ⟨HP1.out trivial, HP2.out trivial, by simp at h <;> omega⟩⟩, hB2⟩
/-- the pairs' holes and samples -/
noncomputable def prs (c : Nat) (l : List Int) (un : Int) (ln : Nat) (most : Int) (ps : List Pr) : List (Bool × List Int) := ps.map fun p => (p.h, dlp c l un ln most p)
theorem prs_snd (c : Nat) (l : List Int) (un : Int) (ln : Nat) (most : Int) (ps : List Pr) : (prs c l un ln most ps).map (·.2) = ps.map (dlp c l un ln most) := by simp [prs, Function.comp_def]
theorem prs_traces (c : Nat) (l : List Int) (un : Int) (ln : Nat) (most : Int) (ms : List Int) (ps : List Pr) : Im.traces ln (prs c l un ln most ps) ms = trcs c l un ln most ms ps := by
  unfold Im.traces prs trcs
  rw [List.map_map]
  refine List.map_congr_left fun p _ => ?_
  simp [trc]
theorem at0_mem {l : List Int} {x : Int} (h : x ∈ l) : ∃ k, k < l.length ∧ Im.at0 l k = x := by
  obtain ⟨k, hk, e⟩ := List.getElem_of_mem h
  exact ⟨k, hk, by simp [Im.at0, List.getD_eq_getElem?_getD, hk, e]⟩
theorem mem_at0 {l : List Int} {k : Nat} (h : k < l.length) : Im.at0 l k ∈ l := by
  simp [Im.at0, List.getD_eq_getElem?_getD, h]
theorem dlp_d {c : Nat} {l : List Int} {un : Int} {ln : Nat} {most : Int} {p : Pr} (hln : 1 ≤ ln) : ∀ d, d ∈ dlp c l un ln most p → d < (ln : Int) := by
  intro d hd
  obtain ⟨k, hk, rfl⟩ := at0_mem hd
  rw [dlp_len] at hk
  by_cases h0 : 0 ≤ Im.at0 (dlp c l un ln most p) k
  · exact dlp_lt hk h0
  · omega
theorem dlp_h {c : Nat} {l : List Int} {un : Int} {ln : Nat} {most : Int} {p : Pr} (hp : p.h = true) : ∀ d, d ∈ dlp c l un ln most p → d = -1 := by
  intro d hd
  obtain ⟨k, hk, rfl⟩ := at0_mem hd
  rw [dlp_len] at hk
  unfold dlp dlL
  rw [hp, Im.delays_at hk, Im.dly_hole]
theorem fits_of {c : Nat} {l : List Int} {un : Int} {ln : Nat} {most : Int} (hln : 1 ≤ ln) : ∀ {ps : List Pr} {d : List (List Int)}, d.length = ps.length → Mo.Shp ln ps d → Im.Fits ln l.length (prs c l un ln most ps) d
  | [], [], _, _ => trivial
  | [], _ :: _, h, _ => by simp at h
  | _ :: _, [], h, _ => by simp at h
  | p :: ps, x :: d, h, hs => by
    have h0 := hs 0 p x rfl rfl
    refine ⟨dlp_len _ _ _ _ _ _, ?_, fits_of hln (by simpa using h) (fun j q y h1 h2 => hs (j + 1) q y (by simpa using h1) (by simpa using h2))⟩
    unfold Mo.okT at h0
    by_cases hp : p.h = true
    · rw [if_pos hp] at h0
      simp only [hp, if_true]
      exact ⟨List.length_eq_zero_iff.1 h0, dlp_h hp⟩
    · rw [if_neg hp] at h0
      have hp' : p.h = false := by simpa using hp
      simp only [hp', Bool.false_eq_true, if_false]
      exact ⟨by omega, dlp_d hln⟩
/-- the traces of a model are valid traces -/
theorem trcs_shp (c : Nat) (l : List Int) (un : Int) (ln : Nat) (most : Int) (ms : List Int) (ps : List Pr) : Mo.Shp ln ps (trcs c l un ln most ms ps) := by
  intro j p x hp hx
  unfold trcs at hx
  rw [List.getElem?_map, hp] at hx
  simp only [Option.map_some, Option.some.injEq] at hx
  subst hx
  unfold Mo.okT trc
  by_cases h : p.h = true
  · simp [h]
  · rw [if_neg h, if_neg h, Im.trace_len]
theorem trcs_len (c : Nat) (l : List Int) (un : Int) (ln : Nat) (most : Int) (ms : List Int) (ps : List Pr) : (trcs c l un ln most ms ps).length = ps.length := by simp [trcs]
theorem trc_le {c : Nat} {l : List Int} {un : Int} {ln : Nat} {most : Int} {ms : List Int} {p : Pr} (hl : ms.length = l.length) (h30 : l.length ≤ 30) (hm : ∀ k, k < ms.length → -1000 ≤ Im.at0 ms k ∧ Im.at0 ms k ≤ 1000) : ∀ y, y ∈ trc c l un ln most ms p → -30000 ≤ y ∧ y ≤ 30000 := by
  intro y hy
  unfold trc at hy
  split at hy
  · simp at hy
  · obtain ⟨k, hk, rfl⟩ := at0_mem hy
    have hd : (dlp c l un ln most p).length = ms.length := by rw [dlp_len, hl]
    rw [← Im.trk_full (j := ms.length) hd rfl]
    have h := Im.trk_le (len := ln) (B := 1000) (by decide) hm hd ms.length (by omega) k
    omega
theorem trcs_dat {c : Nat} {l : List Int} {un : Int} {ln : Nat} {most : Int} {ms : List Int} {ps : List Pr} (hl : ms.length = l.length) (h30 : l.length ≤ 30) (hm : ∀ k, k < ms.length → -1000 ≤ Im.at0 ms k ∧ Im.at0 ms k ≤ 1000) : Mo.dat ln ps (trcs c l un ln most ms ps) = 0 := by
  rw [Mo.dat_ok (trcs_len _ _ _ _ _ _ _) (trcs_shp _ _ _ _ _ _ _)]
  refine Mo.first_all ?_
  intro e he
  obtain ⟨x, hx, rfl⟩ := List.mem_map.1 he
  obtain ⟨p, _, rfl⟩ := List.mem_map.1 hx
  refine Mo.allw_ok.2 fun y hy => ?_
  have := trc_le hl h30 hm y hy
  omega
theorem misfit_self : ∀ x : List Int, Im.misfit x x = 0
  | [] => rfl
  | a :: x => by simp [Im.misfit, misfit_self x]
/-- a cell's part: what the amplitude says -/
theorem low_eq (a : Int) (n : Nat) (hn : 0 < n) : 1 ≤ Mo.lowd a n ∧ Mo.lowd a n ≤ n ∧ Mo.lown a n * n = a * Mo.lowd a n := by
  unfold Mo.lown Mo.lowd
  have hg : 0 < Nat.gcd a.natAbs n := Nat.gcd_pos_of_pos_right _ hn
  obtain ⟨u, hu⟩ := Nat.gcd_dvd_right a.natAbs n
  obtain ⟨v, hv⟩ : (Nat.gcd a.natAbs n : Int) ∣ a := Int.ofNat_dvd_left.2 (Nat.gcd_dvd_left _ _)
  generalize Nat.gcd a.natAbs n = g at hg hu hv
  subst hu
  have hgi : (g : Int) ≠ 0 := by omega
  have h1 : g * u / g = u := Nat.mul_div_cancel_left u hg
  have h2 : a.tdiv (g : Int) = v := by rw [hv]; exact Int.mul_tdiv_cancel_left v hgi
  have hu0 : 0 < u := by
    rcases Nat.eq_zero_or_pos u with h | h
    · subst h; simp at hn
    · exact h
  have hug : u ≤ g * u := Nat.le_mul_of_pos_left u hg
  rw [h1, h2]
  refine ⟨by omega, by exact_mod_cast hug, ?_⟩
  rw [hv]
  push_cast
  rw [Int.mul_comm (g : Int) v, Int.mul_assoc]
end Go.Proofs.YtdimmlljjmmdbaaGreatDoor
namespace Go.Proofs.YtdimmlljjmmdbaaGreatDoor
open Go.RowKit Go.Shelf
set_option maxHeartbeats 8000000
set_option maxRecDepth 100000
theorem inner_all0 : ∀ (x y : List Int), (∀ z, z ∈ y → z = 0) → Im.inner x y = 0
  | [], _, _ => by simp [Im.inner]
  | _ :: _, [], _ => by simp [Im.inner]
  | a :: x, b :: y, h => by
    have hb : b = 0 := h b (by simp)
    subst hb
    simp [Im.inner, inner_all0 x y (fun z hz => h z (by simp [hz]))]
section
variable {c : Nat} {l : List Int} {un : Int} {ln : Nat} {most : Int} {ps : List Pr} {ms : List Int} {d e : List (List Int)}
theorem fits_trcs (hln : 1 ≤ ln) (hd : d.length = ps.length) (hds : Mo.Shp ln ps d) : Im.Fits ln l.length (prs c l un ln most ps) (trcs c l un ln most ms ps) := by
  rw [← prs_traces]
  exact Im.traces_fits_len (fits_of hln hd hds)
theorem mis_iff (hln : 1 ≤ ln) (hd : d.length = ps.length) (hds : Mo.Shp ln ps d) : Im.misfit (trcs c l un ln most ms ps).flatten d.flatten = 0 ↔ trcs c l un ln most ms ps = d := by
  have F1 := fits_of (c := c) (l := l) (un := un) (most := most) hln hd hds
  have F2 := fits_trcs (c := c) (l := l) (un := un) (most := most) (ms := ms) hln hd hds
  rw [Im.misfit_zero (Im.flat_len F2 F1)]
  exact ⟨fun h => Im.flat_inj F2 F1 h, fun h => by rw [h]⟩
theorem bnd_le2 (hln : 1 ≤ ln) (hd : d.length = ps.length) (hds : Mo.Shp ln ps d) (he : e.length = ps.length) (hes : Mo.Shp ln ps e) (hm : ms.length = l.length)
    (hz : ∀ z, z ∈ Im.image l.length (ps.map (dlp c l un ln most)) e → z = 0) : 2 * Im.inner e.flatten d.flatten - Im.inner e.flatten e.flatten ≤ Im.misfit (trcs c l un ln most ms ps).flatten d.flatten := by
  have F1 := fits_of (c := c) (l := l) (un := un) (most := most) hln hd hds
  have F3 := fits_of (c := c) (l := l) (un := un) (most := most) hln he hes
  have F2 := fits_trcs (c := c) (l := l) (un := un) (most := most) (ms := ms) hln hd hds
  have h1 := Im.bound_le (a := (trcs c l un ln most ms ps).flatten) (b := d.flatten) (y := e.flatten) (Im.flat_len F2 F1) (Im.flat_len F3 F1)
  have h2 := Im.adj hm F3
  rw [prs_traces, prs_snd, inner_all0 _ _ hz, Im.inner_comm] at h2
  omega
theorem row_len {x y : List Int} {p : Pr} (h1 : Mo.okT ln p x) (h2 : Mo.okT ln p y) : x.length = y.length := by
  unfold Mo.okT at h1 h2
  split at h1 <;> simp_all <;> omega
theorem rows_len (hd : d.length = ps.length) (hds : Mo.Shp ln ps d) (he : e.length = ps.length) (hes : Mo.Shp ln ps e) {B : Nat} (h : ∀ x, x ∈ d → x.length ≤ B) : ∀ x, x ∈ e → x.length ≤ B := by
  intro x hx
  obtain ⟨j, hj, e1⟩ := List.getElem_of_mem hx
  have hjp : j < ps.length := by omega
  have hjd : j < d.length := by omega
  have h1 := hes j ps[j] x (List.getElem?_eq_getElem hjp) (by rw [← e1]; exact List.getElem?_eq_getElem hj)
  have h2 := hds j ps[j] d[j] (List.getElem?_eq_getElem hjp) (List.getElem?_eq_getElem hjd)
  rw [row_len h1 h2]
  exact h _ (List.getElem_mem hjd)
theorem flat_le {B : Nat} : ∀ {d : List (List Int)}, (∀ x, x ∈ d → x.length ≤ B) → d.flatten.length ≤ d.length * B
  | [], _ => by simp
  | x :: d, h => by
    have h1 := flat_le (d := d) (fun y hy => h y (by simp [hy]))
    have h2 := h x (by simp)
    rw [List.flatten_cons, List.length_append, List.length_cons, Nat.add_mul]
    omega
end
def TW2 (V E : Int) (w : World) : Ending → World → Prop := fun en w' => en = .returned (.tuple #[.int .i64 V, .int .i64 E]) ∧ Below w.heap.size w w'
/-- all that the law asks the program for, at a valid ground, survey, traces, dual traces, model and cell -/
theorem bnd_calls (c r n np i : Nat) (l : List Int) (un : Int) (ln : Nat) (most : Int) (ps : List Pr) (ms : List Int) (d e : List (List Int)) (hc : c ≤ 16) (hr : r ≤ 16) (g : Im.Gr c r l) (hn : l.length = n) (hn30 : n ≤ 30) (hnp : ps.length = np) (hi : i < n)
    (hfit : Mo.fit c r l un ln most ps ms d = 0) (hbth : Mo.bth c r l un ln most ps d e = 0) (hd5 : d.length ≤ 5 ∨ d.length = 17) (hd45 : ∀ x, x ∈ d → x.length ≤ 45) :
    ∃ (T : List (List Int)) (MIS BV BE ENE AE NUM DEN : Int) (N many : Nat) (ef IMG : List Int) (DS : Nat → List Int),
      np ≤ 5 ∧ (∀ x, x ∈ T → x.length ≤ 45) ∧ (∀ x, x ∈ d → x.length ≤ 45) ∧ (∀ x, x ∈ e → x.length ≤ 45) ∧ 0 ≤ MIS ∧ (MIS = 0 ↔ T = d) ∧ (BE = 0 ∧ BV ≤ MIS ∨ BE = 19) ∧
      many = Mo.cnt ((List.range np).map DS) i ∧ (many = 0 → AE = 17) ∧ (0 < many → AE = 0 ∧ 1 ≤ DEN ∧ DEN ≤ many ∧ NUM * many = Im.at0 IMG i * DEN ∧ -1000000000 ≤ Im.at0 IMG i * DEN ∧ Im.at0 IMG i * DEN ≤ 1000000000) ∧
      (∀ (B M P : Option Addr) (cb mc pc : Nat) (W : World), np ≤ pc → RdI W B n l → RdP W P np ps → RdI W M n ms → Steps W → Calls Tryz.prog 19 #[.agg #[.int .i64 c, .int .i64 r, .slice B n cb], .agg #[.int .i64 un, .int .i64 (ln : Nat), .int .i64 most, .slice P np pc], .slice M n mc] W fun en w' => ∃ go, en = .returned (.tuple #[.slice (some ⟨go, 0, none⟩) np np, .int .i64 0]) ∧ RdD w' (some ⟨go, 0, none⟩) np T ∧ Below W.heap.size W w') ∧
      (∀ (B M P D : Option Addr) (cb mc pc dc : Nat) (W : World), np ≤ pc → RdI W B n l → RdP W P np ps → RdI W M n ms → RdD W D np d → Steps W → Calls Tryz.prog 32 #[.agg #[.int .i64 c, .int .i64 r, .slice B n cb], .agg #[.int .i64 un, .int .i64 (ln : Nat), .int .i64 most, .slice P np pc], .slice M n mc, .slice D np dc] W (TW2 MIS 0 W)) ∧
      (∀ (B M P D : Option Addr) (cb mc pc dc : Nat) (W : World), np ≤ pc → RdI W B n l → RdP W P np ps → RdI W M n ms → RdD W D np T → Steps W → Calls Tryz.prog 32 #[.agg #[.int .i64 c, .int .i64 r, .slice B n cb], .agg #[.int .i64 un, .int .i64 (ln : Nat), .int .i64 most, .slice P np pc], .slice M n mc, .slice D np dc] W (TW2 0 0 W)) ∧
      (∀ (B P D F : Option Addr) (cb pc dc fc : Nat) (W : World), np ≤ pc → RdI W B n l → RdP W P np ps → RdD W D np d → RdD W F np e → Steps W → Calls Tryz.prog 34 #[.agg #[.int .i64 c, .int .i64 r, .slice B n cb], .agg #[.int .i64 un, .int .i64 (ln : Nat), .int .i64 most, .slice P np pc], .slice D np dc, .slice F np fc] W (TW2 BV BE W)) ∧
      (BE = 0 → ∀ (B P D F : Option Addr) (cb pc dc fc : Nat) (W : World), np ≤ pc → RdI W B n l → RdP W P np ps → RdD W D np e → RdD W F np e → Steps W → Calls Tryz.prog 34 #[.agg #[.int .i64 c, .int .i64 r, .slice B n cb], .agg #[.int .i64 un, .int .i64 (ln : Nat), .int .i64 most, .slice P np pc], .slice D np dc, .slice F np fc] W (TW2 ENE 0 W)) ∧
      N ≤ 1000000 ∧
      (∀ (B P D : Option Addr) (cb pc dc : Nat) (W : World), RdI W B n l → RdP W P np ps → RdD W D np e → Calls Tryz.prog 49 #[.agg #[.int .i64 c, .int .i64 r, .slice B n cb], .agg #[.int .i64 un, .int .i64 (ln : Nat), .int .i64 most, .slice P np pc], .slice D np dc] W fun en w' => ∃ F fc, en = .returned (.tuple #[.slice F N fc, .int .i64 0]) ∧ RdI w' F N ef ∧ Below W.heap.size W w') ∧
      (∀ (A B : Option Addr) (ca cb : Nat) (W : World), RdI W A N ef → RdI W B N ef → Calls Tryz.prog 40 #[.slice A N ca, .slice B N cb] W (TW2 ENE 0 W)) ∧
      (∀ (B P D : Option Addr) (cb pc dc : Nat) (W : World), np ≤ pc → RdI W B n l → RdP W P np ps → RdD W D np d → Steps W → Calls Tryz.prog 50 #[.agg #[.int .i64 c, .int .i64 r, .slice B n cb], .agg #[.int .i64 un, .int .i64 (ln : Nat), .int .i64 most, .slice P np pc], .slice D np dc] W fun en w' => ∃ F fc, en = .returned (.tuple #[.slice F n fc, .int .i64 0]) ∧ RdI w' F n IMG ∧ Below W.heap.size W w') ∧
      (∀ (j : Nat), j < np → ∀ (B P : Option Addr) (cb pc : Nat) (W : World), RdI W B n l → RdP W P np ps → Steps W → Calls Tryz.prog 28 #[.agg #[.int .i64 c, .int .i64 r, .slice B n cb], .agg #[.int .i64 un, .int .i64 (ln : Nat), .int .i64 most, .slice P np pc], .int .i64 j] W fun en w' => ∃ F fc, en = .returned (.tuple #[.slice F n fc, .int .i64 0]) ∧ RdI w' F n (DS j) ∧ Below W.heap.size W w') ∧
      (∀ (B P D : Option Addr) (cb pc dc : Nat) (W : World), np ≤ pc → RdI W B n l → RdP W P np ps → RdD W D np d → Steps W → Calls Tryz.prog 35 #[.agg #[.int .i64 c, .int .i64 r, .slice B n cb], .agg #[.int .i64 un, .int .i64 (ln : Nat), .int .i64 most, .slice P np pc], .slice D np dc, .int .i64 i] W fun en w' => en = .returned (.tuple #[.agg #[.int .i64 NUM, .int .i64 DEN], .int .i64 AE]) ∧ Below W.heap.size W w') := by
  have hmdl := (Mo.fit_zero hfit).1
  have hdta := (Mo.fit_zero hfit).2
  obtain ⟨hS, hml, hmb⟩ := Mo.mdl_zero hmdl
  obtain ⟨_, hdl, hds, hdb⟩ := Mo.dta_zero hdta
  have hdate : Mo.dat ln ps e = 0 := Mo.first_zero hbth (Mo.dat ln ps e) (by simp)
  have hdtae : Mo.dta c r l un ln most ps e = 0 := by unfold Mo.dta; exact first2 hS hdate
  obtain ⟨_, hel, hes, heb⟩ := Mo.dta_zero hdtae
  obtain ⟨_, hu, hlnb, _, h16, hpr⟩ := surv_ok hS
  have hln1 : 1 ≤ ln := by omega
  have hnp5 : np ≤ 5 := by omega
  have hT45 := rows_len (e := trcs c l un ln most ms ps) hdl hds (trcs_len _ _ _ _ _ _ _) (trcs_shp _ _ _ _ _ _ _) hd45
  have he45 := rows_len hdl hds hel hes hd45
  have hfitT : Mo.fit c r l un ln most ps ms (trcs c l un ln most ms ps) = 0 := by
    unfold Mo.fit
    refine first3 hS ?_ (trcs_dat hml (by omega) hmb)
    exact Mo.first_zero hfit _ (by simp)
  have hbthe : Mo.bth c r l un ln most ps e e = 0 := by unfold Mo.bth; exact first2 hdtae hdate
  have hds' : (List.range np).map (fun j => ((ps.map (dlp c l un ln most)).getD j [])) = ps.map (dlp c l un ln most) := by
    apply List.ext_getElem (by simp [hnp])
    intro j h1 h2
    simp [List.getD_eq_getElem?_getD, List.getElem?_eq_getElem (by simpa using h2 : j < ps.length)]
  have hamp : Mo.ampE c r l un ln most ps d i = 0 := by unfold Mo.ampE; exact first2 hdta (Mo.cell_ok.2 (by omega))
  have hil := image_le (n := n) (dss := ps.map (dlp c l un ln most)) (data := d) (by intro ds hds; obtain ⟨p, _, rfl⟩ := List.mem_map.1 hds; rw [dlp_len, hn]) hdb (by simp [hdl]) (by simp; omega) hi
  have hcm : Mo.cnt (ps.map (dlp c l un ln most)) i ≤ 16 := by
    unfold Mo.cnt
    exact Nat.le_trans (List.countP_le_length) (by simp; omega)
  have hfl : e.flatten.length ≤ 4096 := by
    have := flat_le he45
    have h2 : e.length * 45 ≤ 5 * 45 := Nat.mul_le_mul_right _ (by omega)
    omega
  refine ⟨trcs c l un ln most ms ps, Im.misfit (trcs c l un ln most ms ps).flatten d.flatten, (Mo.bndR (Im.image n (ps.map (dlp c l un ln most)) e) d.flatten e.flatten).1, (Mo.bndR (Im.image n (ps.map (dlp c l un ln most)) e) d.flatten e.flatten).2, Im.inner e.flatten e.flatten,
    (Mo.ampR (Im.image n (ps.map (dlp c l un ln most)) d) (Mo.cnt (ps.map (dlp c l un ln most)) i) i).2, (Mo.ampR (Im.image n (ps.map (dlp c l un ln most)) d) (Mo.cnt (ps.map (dlp c l un ln most)) i) i).1.1, (Mo.ampR (Im.image n (ps.map (dlp c l un ln most)) d) (Mo.cnt (ps.map (dlp c l un ln most)) i) i).1.2,
    e.flatten.length, Mo.cnt (ps.map (dlp c l un ln most)) i, e.flatten, Im.image n (ps.map (dlp c l un ln most)) d, fun j => ((ps.map (dlp c l un ln most)).getD j []),
    hnp5, hT45, hd45, he45, Im.misfit_nonneg _ _, mis_iff hln1 hdl hds, ?_, by rw [hds'], ?_, ?_, ?_, ?_, ?_, ?_, ?_, by omega, ?_, ?_, ?_, ?_, ?_⟩
  · unfold Mo.bndR
    by_cases hz : ∀ z ∈ Im.image n (ps.map (dlp c l un ln most)) e, z = 0
    · rw [if_pos hz]
      exact .inl ⟨rfl, bnd_le2 hln1 hdl hds hel hes hml (by rw [hn]; exact hz)⟩
    · rw [if_neg hz]; exact .inr rfl
  · intro h; unfold Mo.ampR; rw [if_pos h]
  · intro h
    unfold Mo.ampR
    rw [if_neg (by omega)]
    obtain ⟨h1, h2, h3⟩ := low_eq (Im.at0 (Im.image n (ps.map (dlp c l un ln most)) d) i) _ h
    refine ⟨rfl, h1, h2, h3, ?_, ?_⟩
    · generalize Mo.lowd _ _ = q at h1 h2 ⊢
      generalize Im.at0 _ _ = a at hil ⊢
      have := Int.mul_le_mul_of_nonneg_right hil.1 (show 0 ≤ q by omega)
      dsimp only
      omega
    · generalize Mo.lowd _ _ = q at h1 h2 ⊢
      generalize Im.at0 _ _ = a at hil ⊢
      have := Int.mul_le_mul_of_nonneg_right hil.2 (show 0 ≤ q by omega)
      dsimp only
      omega
  · intro B M P cb mc pc W h1 h2 h3 h4 h5
    refine (c19_ok c r B n cb l un ln most P np pc ps M mc ms W g hc hr h1 h2 h3 h4 h5 hmdl).mono ?_
    rintro en w' ⟨go, e1, _, hom, hb⟩
    exact ⟨go, e1, hom.rd (by rw [trcs_len, hnp]), hb⟩
  · intro B M P D cb mc pc dc W h1 h2 h3 h4 h5 h6
    exact c32_ok c r B n cb l un ln most P np pc ps M mc ms D dc d W g hc hr h1 h2 h3 h4 h5 h6 hfit
  · intro B M P D cb mc pc dc W h1 h2 h3 h4 h5 h6
    have h := c32_ok c r B n cb l un ln most P np pc ps M mc ms D dc _ W g hc hr h1 h2 h3 h4 h5 h6 hfitT
    rw [misfit_self] at h
    exact h
  · intro B P D F cb pc dc fc W h1 h2 h3 h4 h5 h6
    exact c34_ok c r B n cb l un ln most P np pc ps D dc d F fc e W g hc hr h1 h2 h3 h4 h5 h6 hbth
  · intro hbe B P D F cb pc dc fc W h1 h2 h3 h4 h5 h6
    have h := c34_ok c r B n cb l un ln most P np pc ps D dc e F fc e W g hc hr h1 h2 h3 h4 h5 h6 hbthe
    unfold Mo.bndR at h hbe
    by_cases hz : ∀ z ∈ Im.image n (ps.map (dlp c l un ln most)) e, z = 0
    · rw [if_pos hz] at h
      have e2 : 2 * Im.inner e.flatten e.flatten - Im.inner e.flatten e.flatten = Im.inner e.flatten e.flatten := by omega
      dsimp only at h
      rw [e2] at h
      exact h
    · rw [if_neg hz] at hbe; simp at hbe
  · intro B P D cb pc dc W h2 h3 h4
    exact c49_ok c r B n cb l un ln most P np pc ps D np dc e W (by omega) (by omega) (by omega) (fun x hx => Nat.le_trans (he45 x hx) (by decide)) h2 h3 h4 hdtae
  · intro A B ca cb W h1 h2
    have hE : Mo.innE e.flatten e.flatten = 0 := by
      have hb : Mo.allw e.flatten (-16777216) 16777216 = 0 := Mo.allw_ok.2 (fun x hx => by
        obtain ⟨y, hy, hx⟩ := List.mem_flatten.1 hx
        have := heb y hy x hx
        omega)
      unfold Mo.innE
      refine first2 ?_ (first2 hb hb)
      unfold Mo.innA
      refine first2 ((Mo.when_zero (by decide)).2 (by simp)) ((Mo.when_zero (by decide)).2 (by simp; rw [List.length_flatten] at hfl; omega))
    have h := c40 A B e.flatten.length e.flatten.length ca cb e.flatten e.flatten W (by omega) (by omega) h1 h2
    unfold Mo.innV at h
    rw [hE, if_pos rfl] at h
    exact h
  · intro B P D cb pc dc W h1 h2 h3 h4 h5
    refine (c50_ok c r B n cb l un ln most P np pc ps D dc d W g hc hr h1 h2 h3 h4 h5 hdta).mono ?_
    rintro en w' ⟨v, e1, ho, hb⟩
    obtain ⟨A', cap', rfl, hr', _⟩ := own_form ho
    exact ⟨A', cap', e1, hr', hb⟩
  · intro j hj B P cb pc W h1 h2 h3
    have hjl : j < ps.length := by omega
    have hpj : ps[j]? = some ps[j] := List.getElem?_eq_getElem hjl
    obtain ⟨⟨hs0, hs1⟩, hr0, hr1⟩ := hpr ps[j] (List.getElem_mem hjl)
    have hpe : ps[j]? = some ⟨((ps[j].s.toNat : Nat) : Int), ((ps[j].r.toNat : Nat) : Int), ps[j].h⟩ := by
      rw [hpj]
      have e1 : ((ps[j].s.toNat : Nat) : Int) = ps[j].s := Int.toNat_of_nonneg hs0
      have e2 : ((ps[j].r.toNat : Nat) : Int) = ps[j].r := Int.toNat_of_nonneg hr0
      rw [e1, e2]
    refine (c28_ok c r B n cb l un ln most P np pc ps j _ _ _ W g hc hr hu (by omega) hS hpe (by omega) (by omega) h1 h2 h3).mono ?_
    rintro en w' ⟨v, e1, ho, hb⟩
    obtain ⟨A', cap', rfl, hr', _⟩ := own_form ho
    refine ⟨A', cap', e1, ?_, hb⟩
    have e3 : (ps.map (dlp c l un ln most)).getD j [] = dlL c l un ln most ps[j].s.toNat ps[j].r.toNat ps[j].h := by
      simp [List.getD_eq_getElem?_getD, hjl, dlp]
    show RdI w' A' n ((ps.map (dlp c l un ln most)).getD j [])
    rw [e3]
    exact hr'
  · intro B P D cb pc dc W h1 h2 h3 h4 h5
    exact c35_ok c r B n cb l un ln most P np pc ps D dc d i W g hc hr h1 h2 h3 h4 h5 hamp
end Go.Proofs.YtdimmlljjmmdbaaGreatDoor
