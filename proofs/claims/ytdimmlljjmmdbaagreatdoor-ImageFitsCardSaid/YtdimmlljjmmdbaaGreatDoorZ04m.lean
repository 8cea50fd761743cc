/- A part of the proofs about chapter 7 (image): contracts of functions and plain laws (V86, V87). -/
import Derived.Test.YtdimmlljjmmdbaaGreatDoorZ04k
import Derived.Test.YtdimmlljjmmdbaaGreatDoorZ04l
set_option linter.all false
namespace Go.Proofs.YtdimmlljjmmdbaaGreatDoor
open Go.RowKit Go.Shelf
set_option maxHeartbeats 8000000
set_option maxRecDepth 100000
theorem inner_le {a b : List Int} {n : Nat} (ha : a.length = n) (hb : b.length = n) (hn : n ≤ 4096) (h1 : ∀ x, x ∈ a → -1048576 ≤ x ∧ x ≤ 1048576) (h2 : ∀ x, x ∈ b → -1048576 ≤ x ∧ x ≤ 1048576) : -4503599627370496 ≤ Im.inner a b ∧ Im.inner a b ≤ 4503599627370496 := by
 have h := Im.innK_le (a := a) (b := b) (C := 1048576) (by omega) (at0_le (by omega) h1) (at0_le (by omega) h2) n
 rw [Im.innK_full ha hb] at h
 have hk4 : (n : Int) * (1048576 * 1048576) ≤ 4096 * (1048576 * 1048576) := Int.mul_le_mul_of_nonneg_right (by omega) (by omega)
 omega
theorem c38_bad (c r : Int) (A : Option Addr) (n cap : Nat) (l : List Int) (un len most : Int) (P : Option Addr) (np capp : Nat) (ps : List Pr) (D : Option Addr) (md capd : Nat) (d : List (List Int)) (F : Option Addr) (me cape : Nat) (e : List (List Int)) (w : World) (hl : n ≤ 1000000) (hp : np ≤ 1000000) (hd : md ≤ 1000000) (hdl : ∀ x, x ∈ d → x.length ≤ 1000000) (he : me ≤ 1000000) (hel : ∀ x, x ∈ e → x.length ≤ 1000000) (H : RdI w A n l) (HP : RdP w P np ps) (HD : RdD w D md d) (HF : RdD w F me e) (hE : Mo.bth c r l un len most ps d e ≠ 0) :
  Calls Tryz.prog 38 #[.agg #[.int .i64 c, .int .i64 r, .slice A n cap], .agg #[.int .i64 un, .int .i64 len, .int .i64 most, .slice P np capp], .slice D md capd, .slice F me cape] w fun en w' => en = .returned (.tuple #[.int .i64 0, .int .i64 (Mo.bth c r l un len most ps d e)]) ∧ Below w.heap.size w w' := by
 have HDL := Lib.hid hdl
 have HEL := Lib.hid hel
 obtain ⟨E, hE0⟩ : ∃ E, E = Mo.bth c r l un len most ps d e := ⟨_, rfl⟩
 have HE := Lib.hid hE0
 rw [← hE0] at hE ⊢
 have hef : (E != 0) = true := by simpa using hE
 clear hE0 hE hdl hel
 obtain ⟨w0, hW⟩ : ∃ W, W = (w.alloc (Obj.cells #[.int .i64 c, .int .i64 r, .slice A n cap] 24)).alloc (Obj.cells #[.int .i64 un, .int .i64 len, .int .i64 most, .slice P np capp] 27) := ⟨_, rfl⟩
 have hT0 : w0.heap[w.heap.size]? = some (.cells #[.int .i64 c, .int .i64 r, .slice A n cap] 24 (0, 0)) := by rw [hW]; exact heap_old (by simp <;> omega) (heap_new (by simp))
 have hT1 : w0.heap[w.heap.size + 1]? = some (.cells #[.int .i64 un, .int .i64 len, .int .i64 most, .slice P np capp] 27 (0, 0)) := by rw [hW]; exact heap_new (by simp)
 have hB0 : Below w.heap.size w w0 := by rw [hW]; exact (((Below.refl _ _).alloc (by first | omega | (simp <;> omega)) _).alloc (by first | omega | (simp <;> omega)) _)
 replace H := H.below hB0
 replace HP := HP.below hB0
 replace HD := HD.below hB0
 replace HF := HF.below hB0
 go_enter Tryz.func38, Tryz.ntmps38
 go_wp2_with fail
 rw [← hW]
 clear hW
 have qhT0_0 : w0.cell? ⟨w.heap.size, 0, none⟩ = some (.int .i64 c) := cell_at hT0 rfl
 have qhT0_1 : w0.cell? ⟨w.heap.size, 1, none⟩ = some (.int .i64 r) := cell_at hT0 rfl
 have qhT0_2 : w0.cell? ⟨w.heap.size, 2, none⟩ = some (.slice A n cap) := cell_at hT0 rfl
 have qhT1_0 : w0.cell? ⟨w.heap.size + 1, 0, none⟩ = some (.int .i64 un) := cell_at hT1 rfl
 have qhT1_1 : w0.cell? ⟨w.heap.size + 1, 1, none⟩ = some (.int .i64 len) := cell_at hT1 rfl
 have qhT1_2 : w0.cell? ⟨w.heap.size + 1, 2, none⟩ = some (.int .i64 most) := cell_at hT1 rfl
 have qhT1_3 : w0.cell? ⟨w.heap.size + 1, 3, none⟩ = some (.slice P np capp) := cell_at hT1 rfl
 go_wp2_with fail
 refine (c46 c r A n cap l un len most P np capp ps D md capd d F me cape e _ hl hp hd HDL.out he HEL.out H HP HD HF).mono ?_
 rintro e w1 ⟨rfl, hb⟩
 clear qhT0_0 qhT0_1 qhT0_2 qhT1_0 qhT1_1 qhT1_2 qhT1_3
 have hS := hb
 have hB1 := hB0.call hS rfl
 replace hT0 := blkb hT0 hS
 replace hT1 := blkb hT1 hS
 replace H := H.below hS
 replace HP := HP.below hS
 replace HD := HD.below hS
 replace HF := HF.below hS
 clear hS hB0
 have qhT0_0 : w1.cell? ⟨w.heap.size, 0, none⟩ = some (.int .i64 c) := cell_at hT0 rfl
 have qhT0_1 : w1.cell? ⟨w.heap.size, 1, none⟩ = some (.int .i64 r) := cell_at hT0 rfl
 have qhT0_2 : w1.cell? ⟨w.heap.size, 2, none⟩ = some (.slice A n cap) := cell_at hT0 rfl
 have qhT1_0 : w1.cell? ⟨w.heap.size + 1, 0, none⟩ = some (.int .i64 un) := cell_at hT1 rfl
 have qhT1_1 : w1.cell? ⟨w.heap.size + 1, 1, none⟩ = some (.int .i64 len) := cell_at hT1 rfl
 have qhT1_2 : w1.cell? ⟨w.heap.size + 1, 2, none⟩ = some (.int .i64 most) := cell_at hT1 rfl
 have qhT1_3 : w1.cell? ⟨w.heap.size + 1, 3, none⟩ = some (.slice P np capp) := cell_at hT1 rfl
 clear hb
 rw [← HE.out]
 go_wp2
 go_ret2
 exact ⟨rfl, hB1⟩
theorem c38_ok (c r : Nat) (A : Option Addr) (n cap : Nat) (l : List Int) (un : Int) (ln : Nat) (most : Int) (P : Option Addr) (np capp : Nat) (ps : List Pr) (D : Option Addr) (capd : Nat) (d : List (List Int)) (F : Option Addr) (cape : Nat) (e : List (List Int)) (w : World) (g : Im.Gr c r l) (hc : c ≤ 16) (hr : r ≤ 16) (H : RdI w A n l) (HP : RdP w P np ps) (HD : RdD w D np d) (HF : RdD w F np e) (hE : Mo.bth c r l un ln most ps d e = 0) :
  Calls Tryz.prog 38 #[.agg #[.int .i64 c, .int .i64 r, .slice A n cap], .agg #[.int .i64 un, .int .i64 (ln : Nat), .int .i64 most, .slice P np capp], .slice D np capd, .slice F np cape] w fun en w' => en = .returned (.tuple #[.int .i64 (Mo.bndR (Im.image n (ps.map (dlp c l un ln most)) e) d.flatten e.flatten).1, .int .i64 (Mo.bndR (Im.image n (ps.map (dlp c l un ln most)) e) d.flatten e.flatten).2]) ∧ Below w.heap.size w w' := by
 have hz := Mo.first_zero hE
 have hE1 : Mo.dta c r l un ln most ps d = 0 := hz _ List.mem_cons_self
 have hdt := Mo.dta_zero hE1
 have hsv := surv_ok hdt.1
 have hde := Mo.dat_zero (hz (Mo.dat ln ps e) (by simp))
 have hln := H.len
 have hpl := HP.len
 have hn256 : n ≤ 256 := by have := g.len; have : c * r ≤ 16 * 16 := Nat.mul_le_mul hc hr; omega
 have HSV := Lib.hid hsv
 have HLN := Lib.hid hln
 have HPL := Lib.hid hpl
 have hl : n ≤ 1000000 := by omega
 have hp : np ≤ 1000000 := by have := hsv.2.2.2.2.1; omega
 have hrl : ∀ x, x ∈ d → x.length ≤ 256 := fun x hx => by have := Mo.shp_len hdt.2.1 hdt.2.2.1 x hx; have := hsv.2.2.1; omega
 have hre : ∀ x, x ∈ e → x.length ≤ 256 := fun x hx => by have := Mo.shp_len hde.1 hde.2.1 x hx; have := hsv.2.2.1; omega
 have HDL : Hid (∀ x, x ∈ d → x.length ≤ 1000000) := Lib.hid (fun x hx => Nat.le_trans (hrl x hx) (by decide))
 have HEL : Hid (∀ x, x ∈ e → x.length ≤ 1000000) := Lib.hid (fun x hx => Nat.le_trans (hre x hx) (by decide))
 have hln1 : 1 ≤ ln := by have := hsv.2.2.1; omega
 have F1 := fits_of (c := c) (l := l) (un := un) (most := most) hln1 hdt.2.1 hdt.2.2.1
 have F2 := fits_of (c := c) (l := l) (un := un) (most := most) hln1 hde.1 hde.2.1
 have hfl := Im.flat_len F2 F1
 have htf : d.flatten.length ≤ 4096 := by
  have h1 := flat_le2 hrl
  have h2 : d.length * 256 ≤ 16 * 256 := Nat.mul_le_mul_right 256 (by have := hsv.2.2.2.2.1; have := hdt.2.1; omega)
  omega
 have hb1 : ∀ x, x ∈ d.flatten → -1048576 ≤ x ∧ x ≤ 1048576 := by
  intro x hx
  obtain ⟨row, hrow, hx⟩ := List.mem_flatten.1 hx
  exact hdt.2.2.2 row hrow x hx
 have hb2 : ∀ x, x ∈ e.flatten → -1048576 ≤ x ∧ x ≤ 1048576 := by
  intro x hx
  obtain ⟨row, hrow, hx⟩ := List.mem_flatten.1 hx
  exact hde.2.2 row hrow x hx
 have HSHE := Lib.hid hde.2
 obtain ⟨N, hN⟩ : ∃ N, d.flatten.length = N := ⟨_, rfl⟩
 have hi1 := inner_le (hfl.trans hN) hN (by omega) hb2 hb1
 have hi2 := inner_le (hfl.trans hN) (hfl.trans hN) (by omega) hb2 hb2
 have K111 : Hid (∀ (X Y : Option Addr) (xc yc : Nat) (W : World), RdI W X N e.flatten → RdI W Y N d.flatten → Calls Tryz.prog 111 #[.slice X N xc, .slice Y N yc] W fun en w' => en = .returned (.int .i64 (Im.inner e.flatten d.flatten)) ∧ Below W.heap.size W w') := Lib.hid (fun X Y xc yc W h1 h2 => c111z X Y N xc yc _ _ W (by omega) h1 h2 (fun x hx => by have := hb2 x hx; omega) (fun x hx => by have := hb1 x hx; omega))
 have K111e : Hid (∀ (X Y : Option Addr) (xc yc : Nat) (W : World), RdI W X N e.flatten → RdI W Y N e.flatten → Calls Tryz.prog 111 #[.slice X N xc, .slice Y N yc] W fun en w' => en = .returned (.int .i64 (Im.inner e.flatten e.flatten)) ∧ Below W.heap.size W w') := Lib.hid (fun X Y xc yc W h1 h2 => c111z X Y N xc yc _ _ W (by omega) h1 h2 (fun x hx => by have := hb2 x hx; omega) (fun x hx => by have := hb2 x hx; omega))
 have K55 : Hid (∀ (X : Option Addr) (xc : Nat) (W : World), RdD W X np e → Calls Tryz.prog 55 #[.slice X np xc] W fun en w' => ∃ Y yc, en = .returned (.slice Y N yc) ∧ RdI w' Y N e.flatten ∧ Below W.heap.size W w') := Lib.hid (fun X xc W h => (c55 X np xc e W hp (by omega) h).mono (by
  rintro en w' ⟨v, rfl, ho, hb⟩
  rw [hfl, hN] at ho
  obtain ⟨Y, yc, rfl, hY⟩ := own_rdI ho
  exact ⟨Y, yc, rfl, hY, hb⟩))
 have K55d : Hid (∀ (X : Option Addr) (xc : Nat) (W : World), RdD W X np d → Calls Tryz.prog 55 #[.slice X np xc] W fun en w' => ∃ Y yc, en = .returned (.slice Y N yc) ∧ RdI w' Y N d.flatten ∧ Below W.heap.size W w') := Lib.hid (fun X xc W h => (c55 X np xc d W hp (by omega) h).mono (by
  rintro en w' ⟨v, rfl, ho, hb⟩
  rw [hN] at ho
  obtain ⟨Y, yc, rfl, hY⟩ := own_rdI ho
  exact ⟨Y, yc, rfl, hY, hb⟩))
 have HE : Hid (Mo.bth c r l un ln most ps d e = 0) := Lib.hid hE
 obtain ⟨IM, hIM⟩ : ∃ x, x = Im.image n (ps.map (dlp c l un ln most)) e := ⟨_, rfl⟩
 obtain ⟨RR, hRR⟩ : ∃ x, x = Mo.bndR IM d.flatten e.flatten := ⟨_, rfl⟩
 rw [← hIM, ← hRR]
 have HIM := Lib.hid hIM
 have HRR : Hid ((∀ z ∈ IM, z = 0) → RR = (2 * Im.inner e.flatten d.flatten - Im.inner e.flatten e.flatten, 0)) := Lib.hid (fun h => by rw [hRR]; unfold Mo.bndR; rw [if_pos h])
 have HRN : Hid ((¬ ∀ z ∈ IM, z = 0) → RR = (0, 19)) := Lib.hid (fun h => by rw [hRR]; unfold Mo.bndR; rw [if_neg h])
 generalize Im.inner e.flatten d.flatten = V1 at hi1 K111 HRR
 generalize Im.inner e.flatten e.flatten = V2 at hi2 K111e HRR
 have hw1 : IntKind.i64.wrap (2 * V1) = 2 * V1 := wrapI (by omega)
 have hw2 : IntKind.i64.wrap (2 * V1 - V2) = 2 * V1 - V2 := wrapI (by omega)
 have HG := Lib.hid g
 have hdn : np ≤ 1000000 := hp
 clear hz hE hE1 hdt hsv hde hln hpl hrl hre hln1 F1 F2 hfl htf hb1 hb2 hN hIM hRR hi1 hi2
 obtain ⟨w0, hW⟩ : ∃ W, W = (w.alloc (Obj.cells #[.int .i64 c, .int .i64 r, .slice A n cap] 24)).alloc (Obj.cells #[.int .i64 un, .int .i64 (ln : Nat), .int .i64 most, .slice P np capp] 27) := ⟨_, rfl⟩
 have hT0 : w0.heap[w.heap.size]? = some (.cells #[.int .i64 c, .int .i64 r, .slice A n cap] 24 (0, 0)) := by rw [hW]; exact heap_old (by simp <;> omega) (heap_new (by simp))
 have hT1 : w0.heap[w.heap.size + 1]? = some (.cells #[.int .i64 un, .int .i64 (ln : Nat), .int .i64 most, .slice P np capp] 27 (0, 0)) := by rw [hW]; exact heap_new (by simp)
 have hB0 : Below w.heap.size w w0 := by rw [hW]; exact (((Below.refl _ _).alloc (by first | omega | (simp <;> omega)) _).alloc (by first | omega | (simp <;> omega)) _)
 replace H := H.below hB0
 replace HP := HP.below hB0
 replace HD := HD.below hB0
 replace HF := HF.below hB0
 go_enter Tryz.func38, Tryz.ntmps38
 go_wp2_with fail
 rw [← hW]
 clear hW
 have qhT0_0 : w0.cell? ⟨w.heap.size, 0, none⟩ = some (.int .i64 c) := cell_at hT0 rfl
 have qhT0_1 : w0.cell? ⟨w.heap.size, 1, none⟩ = some (.int .i64 r) := cell_at hT0 rfl
 have qhT0_2 : w0.cell? ⟨w.heap.size, 2, none⟩ = some (.slice A n cap) := cell_at hT0 rfl
 have qhT1_0 : w0.cell? ⟨w.heap.size + 1, 0, none⟩ = some (.int .i64 un) := cell_at hT1 rfl
 have qhT1_1 : w0.cell? ⟨w.heap.size + 1, 1, none⟩ = some (.int .i64 (ln : Nat)) := cell_at hT1 rfl
 have qhT1_2 : w0.cell? ⟨w.heap.size + 1, 2, none⟩ = some (.int .i64 most) := cell_at hT1 rfl
 have qhT1_3 : w0.cell? ⟨w.heap.size + 1, 3, none⟩ = some (.slice P np capp) := cell_at hT1 rfl
 go_wp2_with fail
 refine (c46 c r A n cap l un ln most P np capp ps D np capd d F np cape e _ hl hp hp HDL.out hp HEL.out H HP HD HF).mono ?_
 rintro e w1 ⟨rfl, hb⟩
 clear qhT0_0 qhT0_1 qhT0_2 qhT1_0 qhT1_1 qhT1_2 qhT1_3
 have hS := hb
 have hB1 := hB0.call hS rfl
 replace hT0 := blkb hT0 hS
 replace hT1 := blkb hT1 hS
 replace H := H.below hS
 replace HP := HP.below hS
 replace HD := HD.below hS
 replace HF := HF.below hS
 clear hS hB0
 have qhT0_0 : w1.cell? ⟨w.heap.size, 0, none⟩ = some (.int .i64 c) := cell_at hT0 rfl
 have qhT0_1 : w1.cell? ⟨w.heap.size, 1, none⟩ = some (.int .i64 r) := cell_at hT0 rfl
 have qhT0_2 : w1.cell? ⟨w.heap.size, 2, none⟩ = some (.slice A n cap) := cell_at hT0 rfl
 have qhT1_0 : w1.cell? ⟨w.heap.size + 1, 0, none⟩ = some (.int .i64 un) := cell_at hT1 rfl
 have qhT1_1 : w1.cell? ⟨w.heap.size + 1, 1, none⟩ = some (.int .i64 (ln : Nat)) := cell_at hT1 rfl
 have qhT1_2 : w1.cell? ⟨w.heap.size + 1, 2, none⟩ = some (.int .i64 most) := cell_at hT1 rfl
 have qhT1_3 : w1.cell? ⟨w.heap.size + 1, 3, none⟩ = some (.slice P np capp) := cell_at hT1 rfl
 clear hb
 rw [HE.out]
 go_wp2_with fail
 refine (c54 c r A n cap l un ln most P np capp ps F cape e _ HG.out hc hr HSV.out.2.1 (by have := HSV.out.2.2.1; omega) (by have := HSV.out.2.2.2.2.1; have := HPL.out; omega) (fun p hp => by have := HSV.out.2.2.2.2.2 p hp; have := HLN.out; omega) HSHE.out.1 HSHE.out.2 H HP HF).mono ?_
 rintro e w2 ⟨go, rfl, hrow, hb⟩
 clear qhT0_0 qhT0_1 qhT0_2 qhT1_0 qhT1_1 qhT1_2 qhT1_3
 have hS := hb
 have hB2 := hB1.call hS rfl
 replace hT0 := blkb hT0 hS
 replace hT1 := blkb hT1 hS
 replace H := H.below hS
 replace HP := HP.below hS
 replace HD := HD.below hS
 replace HF := HF.below hS
 clear hS hB1
 have qhT0_0 : w2.cell? ⟨w.heap.size, 0, none⟩ = some (.int .i64 c) := cell_at hT0 rfl
 have qhT0_1 : w2.cell? ⟨w.heap.size, 1, none⟩ = some (.int .i64 r) := cell_at hT0 rfl
 have qhT0_2 : w2.cell? ⟨w.heap.size, 2, none⟩ = some (.slice A n cap) := cell_at hT0 rfl
 have qhT1_0 : w2.cell? ⟨w.heap.size + 1, 0, none⟩ = some (.int .i64 un) := cell_at hT1 rfl
 have qhT1_1 : w2.cell? ⟨w.heap.size + 1, 1, none⟩ = some (.int .i64 (ln : Nat)) := cell_at hT1 rfl
 have qhT1_2 : w2.cell? ⟨w.heap.size + 1, 2, none⟩ = some (.int .i64 most) := cell_at hT1 rfl
 have qhT1_3 : w2.cell? ⟨w.heap.size + 1, 3, none⟩ = some (.slice P np capp) := cell_at hT1 rfl
 clear hb
 rw [← HIM.out] at hrow
 clear H
 clear HP
 have HILN := Lib.hid hrow.len
 go_wp2_with fail
 go_loopw [12] (fun i wr => ∃ k : Nat, k ≤ n ∧ i = .int .i64 k ∧ Hid (∀ j, j < k → Im.at0 IM j = 0) ∧ Below w2.heap.size w2 wr) (fun i _ => n - (intOf i).toNat)
 case atStart => exact ⟨0, Nat.zero_le _, rfl, Lib.hid (fun j h => absurd h (Nat.not_lt_zero j)), Below.refl _ _⟩
 case round =>
  obtain ⟨k, hk, rfl, HZ, hbr⟩ := hrel
  obtain ⟨w3, hww⟩ : ∃ W, W = wr := ⟨_, rfl⟩
  subst hww
  have hB3 := hB2.call hbr rfl
  replace hT0 := blkb hT0 hbr
  replace hT1 := blkb hT1 hbr
  replace HD := HD.below hbr
  replace HF := HF.below hbr
  replace hrow := hrow.below hbr
  clear hB2
  have qhT0_0 : w3.cell? ⟨w.heap.size, 0, none⟩ = some (.int .i64 c) := cell_at hT0 rfl
  have qhT0_1 : w3.cell? ⟨w.heap.size, 1, none⟩ = some (.int .i64 r) := cell_at hT0 rfl
  have qhT0_2 : w3.cell? ⟨w.heap.size, 2, none⟩ = some (.slice A n cap) := cell_at hT0 rfl
  have qhT1_0 : w3.cell? ⟨w.heap.size + 1, 0, none⟩ = some (.int .i64 un) := cell_at hT1 rfl
  have qhT1_1 : w3.cell? ⟨w.heap.size + 1, 1, none⟩ = some (.int .i64 (ln : Nat)) := cell_at hT1 rfl
  have qhT1_2 : w3.cell? ⟨w.heap.size + 1, 2, none⟩ = some (.int .i64 most) := cell_at hT1 rfl
  have qhT1_3 : w3.cell? ⟨w.heap.size + 1, 3, none⟩ = some (.slice P np capp) := cell_at hT1 rfl
  have hwk : IntKind.i64.wrap ((k : Int) + 1) = ((k + 1 : Nat) : Int) := by rw [wrapI (by omega)]; simp
  by_cases hlt : k < n
  ·
    have hlt2 : (k : Int) < (n : Int) := by omega
    have hk0 : (0 : Int) ≤ (k : Int) := by omega
    have qi := (hrow.cell hlt).1
    have zi := (hrow.cell hlt).2.2
    by_cases hx : Im.at0 IM k = 0
    ·rw [hx] at qi
     have HZ2 : Hid (∀ j, j < k + 1 → Im.at0 IM j = 0) := Lib.hid (fun j hj => by
      by_cases e : j = k
      ·rw [e]; exact hx
      ·exact HZ.out j (by omega))
     have HBN := Lib.hid hbr
     clear hx hbr
     go_wp2
     go_roundw
     case rel => exact ⟨k + 1, by omega, by go_num, HZ2, HBN.out⟩
     case measure => simp [intOf]; omega
    ·have HRV : Hid (RR = (0, 19)) := Lib.hid (HRN.out (fun h => hx (by
      have hkl : k < IM.length := by rw [HILN.out]; exact hlt
      have := h IM[k] (List.getElem_mem hkl)
      simp [Im.at0, List.getD_eq_getElem?_getD, hkl, this])))
     generalize Im.at0 IM k = x at qi hx
     have hxf : (x != 0) = true := by simpa using hx
     clear hx hbr
     go_wp2
     go_ret2
     exact ⟨by rw [HRV.out]; rfl, hB3⟩
  obtain rfl : n = k := by omega
  have HRV := Lib.hid (HRR.out (fun z hz => by
   obtain ⟨j, hj, e⟩ := List.getElem_of_mem hz
   have h := HZ.out j (by rw [← HILN.out]; exact hj)
   simp only [Im.at0, List.getD_eq_getElem?_getD, List.getElem?_eq_getElem hj, Option.getD_some] at h
   rw [← e]; exact h))
  clear hlt hk hwk hbr
  clear hrow
  go_wp2_with fail
  refine (K55.out _ _ _ HF).mono ?_
  rintro e w4 ⟨Y1, yc1, rfl, hY1, hb⟩
  clear qhT0_0 qhT0_1 qhT0_2 qhT1_0 qhT1_1 qhT1_2 qhT1_3
  have hS := hb
  have hB4 := hB3.call hS rfl
  replace hT0 := blkb hT0 hS
  replace hT1 := blkb hT1 hS
  replace HD := HD.below hS
  replace HF := HF.below hS
  clear hS hB3
  have qhT0_0 : w4.cell? ⟨w.heap.size, 0, none⟩ = some (.int .i64 c) := cell_at hT0 rfl
  have qhT0_1 : w4.cell? ⟨w.heap.size, 1, none⟩ = some (.int .i64 r) := cell_at hT0 rfl
  have qhT0_2 : w4.cell? ⟨w.heap.size, 2, none⟩ = some (.slice A n cap) := cell_at hT0 rfl
  have qhT1_0 : w4.cell? ⟨w.heap.size + 1, 0, none⟩ = some (.int .i64 un) := cell_at hT1 rfl
  have qhT1_1 : w4.cell? ⟨w.heap.size + 1, 1, none⟩ = some (.int .i64 (ln : Nat)) := cell_at hT1 rfl
  have qhT1_2 : w4.cell? ⟨w.heap.size + 1, 2, none⟩ = some (.int .i64 most) := cell_at hT1 rfl
  have qhT1_3 : w4.cell? ⟨w.heap.size + 1, 3, none⟩ = some (.slice P np capp) := cell_at hT1 rfl
  clear hb
  go_wp2_with fail
  refine (K55d.out _ _ _ HD).mono ?_
  rintro e w5 ⟨Y2, yc2, rfl, hY2, hb⟩
  clear qhT0_0 qhT0_1 qhT0_2 qhT1_0 qhT1_1 qhT1_2 qhT1_3
  have hS := hb
  have hB5 := hB4.call hS rfl
  replace hT0 := blkb hT0 hS
  replace hT1 := blkb hT1 hS
  replace HD := HD.below hS
  replace HF := HF.below hS
  replace hY1 := hY1.below hS
  clear hS hB4
  have qhT0_0 : w5.cell? ⟨w.heap.size, 0, none⟩ = some (.int .i64 c) := cell_at hT0 rfl
  have qhT0_1 : w5.cell? ⟨w.heap.size, 1, none⟩ = some (.int .i64 r) := cell_at hT0 rfl
  have qhT0_2 : w5.cell? ⟨w.heap.size, 2, none⟩ = some (.slice A n cap) := cell_at hT0 rfl
  have qhT1_0 : w5.cell? ⟨w.heap.size + 1, 0, none⟩ = some (.int .i64 un) := cell_at hT1 rfl
  have qhT1_1 : w5.cell? ⟨w.heap.size + 1, 1, none⟩ = some (.int .i64 (ln : Nat)) := cell_at hT1 rfl
  have qhT1_2 : w5.cell? ⟨w.heap.size + 1, 2, none⟩ = some (.int .i64 most) := cell_at hT1 rfl
  have qhT1_3 : w5.cell? ⟨w.heap.size + 1, 3, none⟩ = some (.slice P np capp) := cell_at hT1 rfl
  clear hb
  go_wp2_with fail
  refine (K111.out _ _ _ _ _ hY1 hY2).mono ?_
  rintro e w6 ⟨rfl, hb⟩
  clear qhT0_0 qhT0_1 qhT0_2 qhT1_0 qhT1_1 qhT1_2 qhT1_3
  have hS := hb
  have hB6 := hB5.call hS rfl
  replace hT0 := blkb hT0 hS
  replace hT1 := blkb hT1 hS
  replace HD := HD.below hS
  replace HF := HF.below hS
  replace hY1 := hY1.below hS
  replace hY2 := hY2.below hS
  clear hS hB5
  have qhT0_0 : w6.cell? ⟨w.heap.size, 0, none⟩ = some (.int .i64 c) := cell_at hT0 rfl
  have qhT0_1 : w6.cell? ⟨w.heap.size, 1, none⟩ = some (.int .i64 r) := cell_at hT0 rfl
  have qhT0_2 : w6.cell? ⟨w.heap.size, 2, none⟩ = some (.slice A n cap) := cell_at hT0 rfl
  have qhT1_0 : w6.cell? ⟨w.heap.size + 1, 0, none⟩ = some (.int .i64 un) := cell_at hT1 rfl
  have qhT1_1 : w6.cell? ⟨w.heap.size + 1, 1, none⟩ = some (.int .i64 (ln : Nat)) := cell_at hT1 rfl
  have qhT1_2 : w6.cell? ⟨w.heap.size + 1, 2, none⟩ = some (.int .i64 most) := cell_at hT1 rfl
  have qhT1_3 : w6.cell? ⟨w.heap.size + 1, 3, none⟩ = some (.slice P np capp) := cell_at hT1 rfl
  clear hb
  clear hY1
  clear hY2
  go_wp2_with fail
  refine (K55.out _ _ _ HF).mono ?_
  rintro e w7 ⟨Y3, yc3, rfl, hY3, hb⟩
  clear qhT0_0 qhT0_1 qhT0_2 qhT1_0 qhT1_1 qhT1_2 qhT1_3
  have hS := hb
  have hB7 := hB6.call hS rfl
  replace hT0 := blkb hT0 hS
  replace hT1 := blkb hT1 hS
  replace HD := HD.below hS
  replace HF := HF.below hS
  clear hS hB6
  have qhT0_0 : w7.cell? ⟨w.heap.size, 0, none⟩ = some (.int .i64 c) := cell_at hT0 rfl
  have qhT0_1 : w7.cell? ⟨w.heap.size, 1, none⟩ = some (.int .i64 r) := cell_at hT0 rfl
  have qhT0_2 : w7.cell? ⟨w.heap.size, 2, none⟩ = some (.slice A n cap) := cell_at hT0 rfl
  have qhT1_0 : w7.cell? ⟨w.heap.size + 1, 0, none⟩ = some (.int .i64 un) := cell_at hT1 rfl
  have qhT1_1 : w7.cell? ⟨w.heap.size + 1, 1, none⟩ = some (.int .i64 (ln : Nat)) := cell_at hT1 rfl
  have qhT1_2 : w7.cell? ⟨w.heap.size + 1, 2, none⟩ = some (.int .i64 most) := cell_at hT1 rfl
  have qhT1_3 : w7.cell? ⟨w.heap.size + 1, 3, none⟩ = some (.slice P np capp) := cell_at hT1 rfl
  clear hb
  go_wp2_with fail
  refine (K55.out _ _ _ HF).mono ?_
  rintro e w8 ⟨Y4, yc4, rfl, hY4, hb⟩
  clear qhT0_0 qhT0_1 qhT0_2 qhT1_0 qhT1_1 qhT1_2 qhT1_3
  have hS := hb
  have hB8 := hB7.call hS rfl
  replace hT0 := blkb hT0 hS
  replace hT1 := blkb hT1 hS
  replace HD := HD.below hS
  replace HF := HF.below hS
  replace hY3 := hY3.below hS
  clear hS hB7
  have qhT0_0 : w8.cell? ⟨w.heap.size, 0, none⟩ = some (.int .i64 c) := cell_at hT0 rfl
  have qhT0_1 : w8.cell? ⟨w.heap.size, 1, none⟩ = some (.int .i64 r) := cell_at hT0 rfl
  have qhT0_2 : w8.cell? ⟨w.heap.size, 2, none⟩ = some (.slice A n cap) := cell_at hT0 rfl
  have qhT1_0 : w8.cell? ⟨w.heap.size + 1, 0, none⟩ = some (.int .i64 un) := cell_at hT1 rfl
  have qhT1_1 : w8.cell? ⟨w.heap.size + 1, 1, none⟩ = some (.int .i64 (ln : Nat)) := cell_at hT1 rfl
  have qhT1_2 : w8.cell? ⟨w.heap.size + 1, 2, none⟩ = some (.int .i64 most) := cell_at hT1 rfl
  have qhT1_3 : w8.cell? ⟨w.heap.size + 1, 3, none⟩ = some (.slice P np capp) := cell_at hT1 rfl
  clear hb
  go_wp2_with fail
  refine (K111e.out _ _ _ _ _ hY3 hY4).mono ?_
  rintro e w9 ⟨rfl, hb⟩
  clear qhT0_0 qhT0_1 qhT0_2 qhT1_0 qhT1_1 qhT1_2 qhT1_3
  have hS := hb
  have hB9 := hB8.call hS rfl
  replace hT0 := blkb hT0 hS
  replace hT1 := blkb hT1 hS
  replace HD := HD.below hS
  replace HF := HF.below hS
  replace hY3 := hY3.below hS
  replace hY4 := hY4.below hS
  clear hS hB8
  have qhT0_0 : w9.cell? ⟨w.heap.size, 0, none⟩ = some (.int .i64 c) := cell_at hT0 rfl
  have qhT0_1 : w9.cell? ⟨w.heap.size, 1, none⟩ = some (.int .i64 r) := cell_at hT0 rfl
  have qhT0_2 : w9.cell? ⟨w.heap.size, 2, none⟩ = some (.slice A n cap) := cell_at hT0 rfl
  have qhT1_0 : w9.cell? ⟨w.heap.size + 1, 0, none⟩ = some (.int .i64 un) := cell_at hT1 rfl
  have qhT1_1 : w9.cell? ⟨w.heap.size + 1, 1, none⟩ = some (.int .i64 (ln : Nat)) := cell_at hT1 rfl
  have qhT1_2 : w9.cell? ⟨w.heap.size + 1, 2, none⟩ = some (.int .i64 most) := cell_at hT1 rfl
  have qhT1_3 : w9.cell? ⟨w.heap.size + 1, 3, none⟩ = some (.slice P np capp) := cell_at hT1 rfl
  clear hb
  go_wp2
  go_ret2
  exact ⟨by rw [HRV.out]; rfl, hB9⟩
theorem c39_bad (c r : Int) (A : Option Addr) (n cap : Nat) (l : List Int) (un len most : Int) (P : Option Addr) (np capp : Nat) (ps : List Pr) (D : Option Addr) (md capd : Nat) (d : List (List Int)) (i : Int) (w : World) (hl : n ≤ 1000000) (hp : np ≤ 1000000) (hd : md ≤ 1000000) (hdl : ∀ x, x ∈ d → x.length ≤ 1000000) (HP : RdP w P np ps) (HD : RdD w D md d) (H : RdI w A n l) (hE : Mo.ampE c r l un len most ps d i ≠ 0) :
  Calls Tryz.prog 39 #[.agg #[.int .i64 c, .int .i64 r, .slice A n cap], .agg #[.int .i64 un, .int .i64 len, .int .i64 most, .slice P np capp], .slice D md capd, .int .i64 i] w fun en w' => en = .returned (.tuple #[.agg #[.int .i64 0, .int .i64 0], .int .i64 (Mo.ampE c r l un len most ps d i)]) ∧ Below w.heap.size w w' := by
 have HDL := Lib.hid hdl
 obtain ⟨E, hE0⟩ : ∃ E, E = Mo.ampE c r l un len most ps d i := ⟨_, rfl⟩
 obtain ⟨E1, hE1⟩ : ∃ E, E = Mo.dta c r l un len most ps d := ⟨_, rfl⟩
 have HA : Hid (E = Mo.first [E1, Mo.cell n i]) := Lib.hid (by rw [hE0, hE1]; unfold Mo.ampE; rw [H.len])
 have HE := Lib.hid hE1
 have HNE : Hid (E ≠ 0) := Lib.hid (by rw [hE0]; exact hE)
 rw [← hE0]
 clear hE0 hE hdl hE1
 obtain ⟨w0, hW⟩ : ∃ W, W = ((w.alloc (Obj.cells #[.int .i64 c, .int .i64 r, .slice A n cap] 24)).alloc (Obj.cells #[.int .i64 un, .int .i64 len, .int .i64 most, .slice P np capp] 27)).alloc (Obj.cells #[.int .i64 0, .int .i64 0] 61) := ⟨_, rfl⟩
 have hT0 : w0.heap[w.heap.size]? = some (.cells #[.int .i64 c, .int .i64 r, .slice A n cap] 24 (0, 0)) := by rw [hW]; exact heap_old (by simp <;> omega) (heap_old (by simp <;> omega) (heap_new (by simp)))
 have hT1 : w0.heap[w.heap.size + 1]? = some (.cells #[.int .i64 un, .int .i64 len, .int .i64 most, .slice P np capp] 27 (0, 0)) := by rw [hW]; exact heap_old (by simp <;> omega) (heap_new (by simp))
 have hT2 : w0.heap[w.heap.size + 1 + 1]? = some (.cells #[.int .i64 0, .int .i64 0] 61 (0, 0)) := by rw [hW]; exact heap_new (by simp)
 have hB0 : Below w.heap.size w w0 := by rw [hW]; exact ((((Below.refl _ _).alloc (by first | omega | (simp <;> omega)) _).alloc (by first | omega | (simp <;> omega)) _).alloc (by first | omega | (simp <;> omega)) _)
 replace H := H.below hB0
 replace HP := HP.below hB0
 replace HD := HD.below hB0
 go_enter Tryz.func39, Tryz.ntmps39
 go_wp2_with fail
 rw [← hW]
 clear hW
 have qhT0_0 : w0.cell? ⟨w.heap.size, 0, none⟩ = some (.int .i64 c) := cell_at hT0 rfl
 have qhT0_1 : w0.cell? ⟨w.heap.size, 1, none⟩ = some (.int .i64 r) := cell_at hT0 rfl
 have qhT0_2 : w0.cell? ⟨w.heap.size, 2, none⟩ = some (.slice A n cap) := cell_at hT0 rfl
 have qhT1_0 : w0.cell? ⟨w.heap.size + 1, 0, none⟩ = some (.int .i64 un) := cell_at hT1 rfl
 have qhT1_1 : w0.cell? ⟨w.heap.size + 1, 1, none⟩ = some (.int .i64 len) := cell_at hT1 rfl
 have qhT1_2 : w0.cell? ⟨w.heap.size + 1, 2, none⟩ = some (.int .i64 most) := cell_at hT1 rfl
 have qhT1_3 : w0.cell? ⟨w.heap.size + 1, 3, none⟩ = some (.slice P np capp) := cell_at hT1 rfl
 have qhT2_0 : w0.cell? ⟨w.heap.size + 1 + 1, 0, none⟩ = some (.int .i64 0) := cell_at hT2 rfl
 have qhT2_1 : w0.cell? ⟨w.heap.size + 1 + 1, 1, none⟩ = some (.int .i64 0) := cell_at hT2 rfl
 go_wp2_with fail
 refine (c52 c r A n cap l un len most P np capp ps D md capd d _ hl hp hd HDL.out HP HD H).mono ?_
 rintro e w1 ⟨rfl, hb⟩
 clear qhT0_0 qhT0_1 qhT0_2 qhT1_0 qhT1_1 qhT1_2 qhT1_3 qhT2_0 qhT2_1
 have hS := hb
 have hB1 := hB0.call hS rfl
 replace hT0 := blkb hT0 hS
 replace hT1 := blkb hT1 hS
 replace hT2 := blkb hT2 hS
 replace H := H.below hS
 replace HP := HP.below hS
 replace HD := HD.below hS
 clear hS hB0
 have qhT0_0 : w1.cell? ⟨w.heap.size, 0, none⟩ = some (.int .i64 c) := cell_at hT0 rfl
 have qhT0_1 : w1.cell? ⟨w.heap.size, 1, none⟩ = some (.int .i64 r) := cell_at hT0 rfl
 have qhT0_2 : w1.cell? ⟨w.heap.size, 2, none⟩ = some (.slice A n cap) := cell_at hT0 rfl
 have qhT1_0 : w1.cell? ⟨w.heap.size + 1, 0, none⟩ = some (.int .i64 un) := cell_at hT1 rfl
 have qhT1_1 : w1.cell? ⟨w.heap.size + 1, 1, none⟩ = some (.int .i64 len) := cell_at hT1 rfl
 have qhT1_2 : w1.cell? ⟨w.heap.size + 1, 2, none⟩ = some (.int .i64 most) := cell_at hT1 rfl
 have qhT1_3 : w1.cell? ⟨w.heap.size + 1, 3, none⟩ = some (.slice P np capp) := cell_at hT1 rfl
 have qhT2_0 : w1.cell? ⟨w.heap.size + 1 + 1, 0, none⟩ = some (.int .i64 0) := cell_at hT2 rfl
 have qhT2_1 : w1.cell? ⟨w.heap.size + 1 + 1, 1, none⟩ = some (.int .i64 0) := cell_at hT2 rfl
 clear hb
 rw [← HE.out]
 by_cases h1 : E1 = 0
 rotate_left
 ·
   have hef : (E1 != 0) = true := by simpa using h1
   obtain rfl : E = E1 := HA.out.trans (by unfold Mo.first; rw [if_pos h1])
   clear h1
   have f0 : w1.frozen? ⟨w.heap.size + 1 + 1, 0, none⟩ = false := free_at hT2
   have f1 : w1.frozen? ⟨w.heap.size + 1 + 1, 1, none⟩ = false := free_at hT2
   have hTs := set_blk (i := 1) (set_blk (i := 0) hT2 (.int .i64 (0))) (.int .i64 (0))
   have hbs := (hB1.setCell (p := ⟨w.heap.size + 1 + 1, 0, none⟩) (by show _ ≤ w.heap.size + 1 + 1; omega) (.int .i64 (0))).setCell (p := ⟨w.heap.size + 1 + 1, 1, none⟩) (by show _ ≤ w.heap.size + 1 + 1; omega) (.int .i64 (0))
   have HTS := Lib.hid hTs
   have HBS := Lib.hid hbs
   clear hTs hbs hT2 hB1
   go_wp2_with fail
   exact bodyPost_ret (results_blk_tmp rfl rfl HTS.out _ Tryz.underlying61 rfl (by kernel_rfl)) rfl ⟨rfl, HBS.out⟩
 subst h1
 have hee : E = Mo.cell n i := HA.out.trans (by unfold Mo.first; rw [if_neg (by simp)]; unfold Mo.first; split <;> simp_all [Mo.first])
 have hef : (E != 0) = true := by simpa using HNE.out
 have HCE : Hid (Mo.cell n i = E) := Lib.hid hee.symm
 clear hee
 go_wp2_with fail
 refine (c47 c r A n cap i _).mono ?_
 rintro e w2 ⟨rfl, hb⟩
 clear qhT0_0 qhT0_1 qhT0_2 qhT1_0 qhT1_1 qhT1_2 qhT1_3 qhT2_0 qhT2_1
 have hS := hb
 have hB2 := hB1.call hS rfl
 replace hT0 := blkb hT0 hS
 replace hT1 := blkb hT1 hS
 replace hT2 := blkb hT2 hS
 replace H := H.below hS
 replace HP := HP.below hS
 replace HD := HD.below hS
 clear hS hB1
 have qhT0_0 : w2.cell? ⟨w.heap.size, 0, none⟩ = some (.int .i64 c) := cell_at hT0 rfl
 have qhT0_1 : w2.cell? ⟨w.heap.size, 1, none⟩ = some (.int .i64 r) := cell_at hT0 rfl
 have qhT0_2 : w2.cell? ⟨w.heap.size, 2, none⟩ = some (.slice A n cap) := cell_at hT0 rfl
 have qhT1_0 : w2.cell? ⟨w.heap.size + 1, 0, none⟩ = some (.int .i64 un) := cell_at hT1 rfl
 have qhT1_1 : w2.cell? ⟨w.heap.size + 1, 1, none⟩ = some (.int .i64 len) := cell_at hT1 rfl
 have qhT1_2 : w2.cell? ⟨w.heap.size + 1, 2, none⟩ = some (.int .i64 most) := cell_at hT1 rfl
 have qhT1_3 : w2.cell? ⟨w.heap.size + 1, 3, none⟩ = some (.slice P np capp) := cell_at hT1 rfl
 have qhT2_0 : w2.cell? ⟨w.heap.size + 1 + 1, 0, none⟩ = some (.int .i64 0) := cell_at hT2 rfl
 have qhT2_1 : w2.cell? ⟨w.heap.size + 1 + 1, 1, none⟩ = some (.int .i64 0) := cell_at hT2 rfl
 clear hb
 rw [HCE.out]
 have f0 : w2.frozen? ⟨w.heap.size + 1 + 1, 0, none⟩ = false := free_at hT2
 have f1 : w2.frozen? ⟨w.heap.size + 1 + 1, 1, none⟩ = false := free_at hT2
 have hTs := set_blk (i := 1) (set_blk (i := 0) hT2 (.int .i64 (0))) (.int .i64 (0))
 have hbs := (hB2.setCell (p := ⟨w.heap.size + 1 + 1, 0, none⟩) (by show _ ≤ w.heap.size + 1 + 1; omega) (.int .i64 (0))).setCell (p := ⟨w.heap.size + 1 + 1, 1, none⟩) (by show _ ≤ w.heap.size + 1 + 1; omega) (.int .i64 (0))
 have HTS := Lib.hid hTs
 have HBS := Lib.hid hbs
 clear hTs hbs hT2 hB2
 go_wp2_with fail
 exact bodyPost_ret (results_blk_tmp rfl rfl HTS.out _ Tryz.underlying61 rfl (by kernel_rfl)) rfl ⟨rfl, HBS.out⟩
theorem c39_ok (c r : Nat) (A : Option Addr) (n cap : Nat) (l : List Int) (un : Int) (ln : Nat) (most : Int) (P : Option Addr) (np capp : Nat) (ps : List Pr) (D : Option Addr) (capd : Nat) (d : List (List Int)) (i : Nat) (w : World) (g : Im.Gr c r l) (hc : c ≤ 16) (hr : r ≤ 16) (H : RdI w A n l) (HP : RdP w P np ps) (HD : RdD w D np d) (hE : Mo.ampE c r l un ln most ps d i = 0) :
  Calls Tryz.prog 39 #[.agg #[.int .i64 c, .int .i64 r, .slice A n cap], .agg #[.int .i64 un, .int .i64 (ln : Nat), .int .i64 most, .slice P np capp], .slice D np capd, .int .i64 (i : Int)] w fun en w' => en = .returned (.tuple #[.agg #[.int .i64 (Mo.ampR (Im.image n (ps.map (dlp c l un ln most)) d) (Mo.cnt (ps.map (dlp c l un ln most)) i) i).1.1, .int .i64 (Mo.ampR (Im.image n (ps.map (dlp c l un ln most)) d) (Mo.cnt (ps.map (dlp c l un ln most)) i) i).1.2], .int .i64 (Mo.ampR (Im.image n (ps.map (dlp c l un ln most)) d) (Mo.cnt (ps.map (dlp c l un ln most)) i) i).2]) ∧ Below w.heap.size w w' := by
 have hz := Mo.first_zero hE
 obtain ⟨hS, hdn, hsd, hvd⟩ := Mo.dta_zero (hz _ List.mem_cons_self)
 have hci := Mo.cell_ok.1 (hz (Mo.cell l.length i) (by simp))
 obtain ⟨hG, hu, hln1, hmo, hnp, hcl⟩ := surv_ok hS
 obtain ⟨_, hd1, _⟩ := flat_facts (ln := ln) (by omega) hnp hdn hsd hvd
 have hl : n ≤ 1000000 := by have h1 := H.len; have := g.len; have : c * r ≤ 16 * 16 := Nat.mul_le_mul hc hr; omega
 have HLN := Lib.hid H.len
 have HPL := Lib.hid HP.len
 have hin : i < n := by rw [H.len] at hci; omega
 have hn0 : 0 < n := by omega
 have hpl := HP.len
 have hp : np ≤ 1000000 := by omega
 have hd := hp
 have hdl : ∀ x, x ∈ d → x.length ≤ 1000000 := fun x hx => by have := hd1 x hx; omega
 have HCL : Hid (∀ p, p ∈ ps → (0 ≤ p.s ∧ p.s < (n : Int)) ∧ (0 ≤ p.r ∧ p.r < (n : Int))) := Lib.hid (fun p hp => by have := hcl p hp; rw [H.len] at this; exact this)
 have hn16 : np ≤ 16 := by omega
 have hl256 : 1 ≤ ln ∧ ln ≤ 256 := by omega
 have HSD := Lib.hid hsd
 have HVD := Lib.hid hvd
 have HE : Hid (Mo.dta c r l un ln most ps d = 0) := Lib.hid (hz _ List.mem_cons_self)
 have HCI : Hid (Mo.cell n i = 0) := Lib.hid (Mo.cell_ok.2 (by omega))
 have HSV := Lib.hid (surv_ok hS)
 have HG := Lib.hid g
 have HDX : Hid (∀ x, x ∈ d → x.length ≤ 1000000) := Lib.hid hdl
 obtain ⟨DS, hDS⟩ : ∃ T, T = ps.map (dlp c l un ln most) := ⟨_, rfl⟩
 have HDS := Lib.hid hDS
 have HDL : Hid (DS.length = np) := Lib.hid (by rw [hDS]; simp [hpl])
 have HIB := Lib.hid (image_le (n := n) (dss := DS) (data := d) (k := i) (fun ds hds => by rw [hDS] at hds; obtain ⟨p, _, rfl⟩ := List.mem_map.1 hds; rw [dlp_len, HLN.out]) hvd (by rw [HDL.out, hdn, hpl]) (by rw [HDL.out]; omega) hin)
 have HCT : Hid (∀ j, Mo.cnt (DS.take j) i ≤ 16) := Lib.hid (fun j => by
  have h1 : Mo.cnt (DS.take j) i ≤ (DS.take j).length := List.countP_le_length
  rw [List.length_take, HDL.out] at h1; omega)
 have HCF : Hid (Mo.cnt (DS.take np) i = Mo.cnt DS i) := Lib.hid (by rw [List.take_of_length_le (by rw [HDL.out]; exact Nat.le_refl _)])
 have HCN : Hid (∀ (j : Nat) (x : List Int), DS[j]? = some x → Mo.cnt (DS.take (j + 1)) i = Mo.cnt (DS.take j) i + if 0 ≤ Im.at0 x i then 1 else 0) := Lib.hid (fun j x h => cnt_take h)
 obtain ⟨R, hR⟩ : ∃ R, R = (Mo.ampR (Im.image n (ps.map (dlp c l un ln most)) d) (Mo.cnt (ps.map (dlp c l un ln most)) i) i) := ⟨_, rfl⟩
 rw [← hR]
 rw [← hDS] at hR
 have HRD := Lib.hid hR
 clear hR
 obtain ⟨ck, hck⟩ : ∃ f : Nat → Nat, f = fun j => Mo.cnt (DS.take j) i := ⟨_, rfl⟩
 have HC0 : Hid (ck 0 = 0) := Lib.hid (by rw [hck]; rfl)
 have HCK : Hid (∀ (j : Nat) (x : List Int), DS[j]? = some x → ck (j + 1) = ck j + if 0 ≤ Im.at0 x i then 1 else 0) := Lib.hid (fun j x h => by rw [hck]; exact HCN.out j x h)
 have HCB : Hid (∀ j, ck j ≤ 16) := Lib.hid (fun j => by rw [hck]; exact HCT.out j)
 have HCM : Hid (Mo.cnt DS i = ck np) := Lib.hid (by rw [hck]; exact HCF.out.symm)
 clear hE hS hG hmo hcl hpl hnp hz hdn hsd hvd hd1 hci hDS hck HCN HCT HCF
 clear hdl
 obtain ⟨w0, hW⟩ : ∃ W, W = ((w.alloc (Obj.cells #[.int .i64 c, .int .i64 r, .slice A n cap] 24)).alloc (Obj.cells #[.int .i64 un, .int .i64 (ln : Nat), .int .i64 most, .slice P np capp] 27)).alloc (Obj.cells #[.int .i64 0, .int .i64 0] 61) := ⟨_, rfl⟩
 have hT0 : w0.heap[w.heap.size]? = some (.cells #[.int .i64 c, .int .i64 r, .slice A n cap] 24 (0, 0)) := by rw [hW]; exact heap_old (by simp <;> omega) (heap_old (by simp <;> omega) (heap_new (by simp)))
 have hT1 : w0.heap[w.heap.size + 1]? = some (.cells #[.int .i64 un, .int .i64 (ln : Nat), .int .i64 most, .slice P np capp] 27 (0, 0)) := by rw [hW]; exact heap_old (by simp <;> omega) (heap_new (by simp))
 have hT2 : w0.heap[w.heap.size + 1 + 1]? = some (.cells #[.int .i64 0, .int .i64 0] 61 (0, 0)) := by rw [hW]; exact heap_new (by simp)
 have hB0 : Below w.heap.size w w0 := by rw [hW]; exact ((((Below.refl _ _).alloc (by first | omega | (simp <;> omega)) _).alloc (by first | omega | (simp <;> omega)) _).alloc (by first | omega | (simp <;> omega)) _)
 replace H := H.below hB0
 replace HP := HP.below hB0
 replace HD := HD.below hB0
 go_enter Tryz.func39, Tryz.ntmps39
 go_wp2_with fail
 rw [← hW]
 clear hW
 have qhT0_0 : w0.cell? ⟨w.heap.size, 0, none⟩ = some (.int .i64 c) := cell_at hT0 rfl
 have qhT0_1 : w0.cell? ⟨w.heap.size, 1, none⟩ = some (.int .i64 r) := cell_at hT0 rfl
 have qhT0_2 : w0.cell? ⟨w.heap.size, 2, none⟩ = some (.slice A n cap) := cell_at hT0 rfl
 have qhT1_0 : w0.cell? ⟨w.heap.size + 1, 0, none⟩ = some (.int .i64 un) := cell_at hT1 rfl
 have qhT1_1 : w0.cell? ⟨w.heap.size + 1, 1, none⟩ = some (.int .i64 (ln : Nat)) := cell_at hT1 rfl
 have qhT1_2 : w0.cell? ⟨w.heap.size + 1, 2, none⟩ = some (.int .i64 most) := cell_at hT1 rfl
 have qhT1_3 : w0.cell? ⟨w.heap.size + 1, 3, none⟩ = some (.slice P np capp) := cell_at hT1 rfl
 have qhT2_0 : w0.cell? ⟨w.heap.size + 1 + 1, 0, none⟩ = some (.int .i64 0) := cell_at hT2 rfl
 have qhT2_1 : w0.cell? ⟨w.heap.size + 1 + 1, 1, none⟩ = some (.int .i64 0) := cell_at hT2 rfl
 go_wp2_with fail
 refine (c52 c r A n cap l un ln most P np capp ps D np capd d _ hl hp hd HDX.out HP HD H).mono ?_
 rintro e w1 ⟨rfl, hb⟩
 clear qhT0_0 qhT0_1 qhT0_2 qhT1_0 qhT1_1 qhT1_2 qhT1_3 qhT2_0 qhT2_1
 have hS := hb
 have hB1 := hB0.call hS rfl
 replace hT0 := blkb hT0 hS
 replace hT1 := blkb hT1 hS
 replace hT2 := blkb hT2 hS
 replace H := H.below hS
 replace HP := HP.below hS
 replace HD := HD.below hS
 clear hS hB0
 have qhT0_0 : w1.cell? ⟨w.heap.size, 0, none⟩ = some (.int .i64 c) := cell_at hT0 rfl
 have qhT0_1 : w1.cell? ⟨w.heap.size, 1, none⟩ = some (.int .i64 r) := cell_at hT0 rfl
 have qhT0_2 : w1.cell? ⟨w.heap.size, 2, none⟩ = some (.slice A n cap) := cell_at hT0 rfl
 have qhT1_0 : w1.cell? ⟨w.heap.size + 1, 0, none⟩ = some (.int .i64 un) := cell_at hT1 rfl
 have qhT1_1 : w1.cell? ⟨w.heap.size + 1, 1, none⟩ = some (.int .i64 (ln : Nat)) := cell_at hT1 rfl
 have qhT1_2 : w1.cell? ⟨w.heap.size + 1, 2, none⟩ = some (.int .i64 most) := cell_at hT1 rfl
 have qhT1_3 : w1.cell? ⟨w.heap.size + 1, 3, none⟩ = some (.slice P np capp) := cell_at hT1 rfl
 have qhT2_0 : w1.cell? ⟨w.heap.size + 1 + 1, 0, none⟩ = some (.int .i64 0) := cell_at hT2 rfl
 have qhT2_1 : w1.cell? ⟨w.heap.size + 1 + 1, 1, none⟩ = some (.int .i64 0) := cell_at hT2 rfl
 clear hb
 rw [HE.out]
 go_wp2_with fail
 refine (c47 c r A n cap i _).mono ?_
 rintro e w2 ⟨rfl, hb⟩
 clear qhT0_0 qhT0_1 qhT0_2 qhT1_0 qhT1_1 qhT1_2 qhT1_3 qhT2_0 qhT2_1
 have hS := hb
 have hB2 := hB1.call hS rfl
 replace hT0 := blkb hT0 hS
 replace hT1 := blkb hT1 hS
 replace hT2 := blkb hT2 hS
 replace H := H.below hS
 replace HP := HP.below hS
 replace HD := HD.below hS
 clear hS hB1
 have qhT0_0 : w2.cell? ⟨w.heap.size, 0, none⟩ = some (.int .i64 c) := cell_at hT0 rfl
 have qhT0_1 : w2.cell? ⟨w.heap.size, 1, none⟩ = some (.int .i64 r) := cell_at hT0 rfl
 have qhT0_2 : w2.cell? ⟨w.heap.size, 2, none⟩ = some (.slice A n cap) := cell_at hT0 rfl
 have qhT1_0 : w2.cell? ⟨w.heap.size + 1, 0, none⟩ = some (.int .i64 un) := cell_at hT1 rfl
 have qhT1_1 : w2.cell? ⟨w.heap.size + 1, 1, none⟩ = some (.int .i64 (ln : Nat)) := cell_at hT1 rfl
 have qhT1_2 : w2.cell? ⟨w.heap.size + 1, 2, none⟩ = some (.int .i64 most) := cell_at hT1 rfl
 have qhT1_3 : w2.cell? ⟨w.heap.size + 1, 3, none⟩ = some (.slice P np capp) := cell_at hT1 rfl
 have qhT2_0 : w2.cell? ⟨w.heap.size + 1 + 1, 0, none⟩ = some (.int .i64 0) := cell_at hT2 rfl
 have qhT2_1 : w2.cell? ⟨w.heap.size + 1 + 1, 1, none⟩ = some (.int .i64 0) := cell_at hT2 rfl
 clear hb
 rw [HCI.out]
 go_wp2_with fail
 go_loopw [12, 13] (fun S k wr => ∃ j : Nat, j ≤ np ∧ k = .int .i64 j ∧ S = .int .i64 (ck j : Nat) ∧ Below w2.heap.size w2 wr) (fun _ k _ => np - (intOf k).toNat)
 case atStart => exact ⟨0, Nat.zero_le _, rfl, by rw [HC0.out]; rfl, Below.refl _ _⟩
 case round =>
  obtain ⟨j, hj, rfl, rfl, hbr⟩ := hrel
  obtain ⟨w3, hww⟩ : ∃ W, W = wr := ⟨_, rfl⟩
  subst hww
  have hB3 := hB2.call hbr rfl
  replace hT0 := blkb hT0 hbr
  replace hT1 := blkb hT1 hbr
  replace hT2 := blkb hT2 hbr
  replace H := H.below hbr
  replace HP := HP.below hbr
  replace HD := HD.below hbr
  clear hB2
  have qhT0_0 : w3.cell? ⟨w.heap.size, 0, none⟩ = some (.int .i64 c) := cell_at hT0 rfl
  have qhT0_1 : w3.cell? ⟨w.heap.size, 1, none⟩ = some (.int .i64 r) := cell_at hT0 rfl
  have qhT0_2 : w3.cell? ⟨w.heap.size, 2, none⟩ = some (.slice A n cap) := cell_at hT0 rfl
  have qhT1_0 : w3.cell? ⟨w.heap.size + 1, 0, none⟩ = some (.int .i64 un) := cell_at hT1 rfl
  have qhT1_1 : w3.cell? ⟨w.heap.size + 1, 1, none⟩ = some (.int .i64 (ln : Nat)) := cell_at hT1 rfl
  have qhT1_2 : w3.cell? ⟨w.heap.size + 1, 2, none⟩ = some (.int .i64 most) := cell_at hT1 rfl
  have qhT1_3 : w3.cell? ⟨w.heap.size + 1, 3, none⟩ = some (.slice P np capp) := cell_at hT1 rfl
  have qhT2_0 : w3.cell? ⟨w.heap.size + 1 + 1, 0, none⟩ = some (.int .i64 0) := cell_at hT2 rfl
  have qhT2_1 : w3.cell? ⟨w.heap.size + 1 + 1, 1, none⟩ = some (.int .i64 0) := cell_at hT2 rfl
  have hwj : IntKind.i64.wrap ((j : Int) + 1) = ((j + 1 : Nat) : Int) := by rw [wrapI (by omega)]; simp
  by_cases hlt : j < np
  rotate_left
  ·
    obtain rfl : np = j := by omega
    obtain ⟨M, hM⟩ : ∃ M, M = ck np := ⟨_, rfl⟩
    have HM : Hid (Mo.cnt DS i = M) := Lib.hid (by rw [hM, HCM.out])
    have hmb := HCB.out np
    rw [← hM] at hmb ⊢
    clear hM hwj hlt hj hbr
    by_cases hM0 : M = 0
    ·
      subst hM0
      have HR : Hid (R = ((0, 0), 17)) := Lib.hid (by rw [HRD.out, HM.out]; rfl)
      have f0 : w3.frozen? ⟨w.heap.size + 1 + 1, 0, none⟩ = false := free_at hT2
      have f1 : w3.frozen? ⟨w.heap.size + 1 + 1, 1, none⟩ = false := free_at hT2
      have hTs := set_blk (i := 1) (set_blk (i := 0) hT2 (.int .i64 (0))) (.int .i64 (0))
      have hbs := (hB3.setCell (p := ⟨w.heap.size + 1 + 1, 0, none⟩) (by show _ ≤ w.heap.size + 1 + 1; omega) (.int .i64 (0))).setCell (p := ⟨w.heap.size + 1 + 1, 1, none⟩) (by show _ ≤ w.heap.size + 1 + 1; omega) (.int .i64 (0))
      have HTS := Lib.hid hTs
      have HBS := Lib.hid hbs
      clear hTs hbs hT2 hB3
      go_wp2_with fail
      exact bodyPost_ret (results_blk_tmp rfl rfl HTS.out _ Tryz.underlying61 rfl (by kernel_rfl)) rfl ⟨by rw [HR.out]; rfl, HBS.out⟩
    have hMf : ((M : Int) == 0) = false := by simp; omega
    have hin2 : (i : Int) < (n : Int) := by omega
    have hi02 : (0 : Int) ≤ (i : Int) := by omega
    go_wp2_with fail
    refine (c54 c r A n cap l un ln most P np capp ps D capd d _ HG.out hc hr HSV.out.2.1 (by have := HSV.out.2.2.1; omega) (by have := HSV.out.2.2.2.2.1; have := HPL.out; omega) (fun p hp => by have := HSV.out.2.2.2.2.2 p hp; have := HLN.out; omega) HSD.out HVD.out H HP HD).mono ?_
    rintro e w4 ⟨gi, rfl, hri, hb⟩
    clear qhT0_0 qhT0_1 qhT0_2 qhT1_0 qhT1_1 qhT1_2 qhT1_3 qhT2_0 qhT2_1
    have hS := hb
    have hB4 := hB3.call hS rfl
    replace hT0 := blkb hT0 hS
    replace hT1 := blkb hT1 hS
    replace hT2 := blkb hT2 hS
    replace H := H.below hS
    replace HP := HP.below hS
    replace HD := HD.below hS
    clear hS hB3
    have qhT0_0 : w4.cell? ⟨w.heap.size, 0, none⟩ = some (.int .i64 c) := cell_at hT0 rfl
    have qhT0_1 : w4.cell? ⟨w.heap.size, 1, none⟩ = some (.int .i64 r) := cell_at hT0 rfl
    have qhT0_2 : w4.cell? ⟨w.heap.size, 2, none⟩ = some (.slice A n cap) := cell_at hT0 rfl
    have qhT1_0 : w4.cell? ⟨w.heap.size + 1, 0, none⟩ = some (.int .i64 un) := cell_at hT1 rfl
    have qhT1_1 : w4.cell? ⟨w.heap.size + 1, 1, none⟩ = some (.int .i64 (ln : Nat)) := cell_at hT1 rfl
    have qhT1_2 : w4.cell? ⟨w.heap.size + 1, 2, none⟩ = some (.int .i64 most) := cell_at hT1 rfl
    have qhT1_3 : w4.cell? ⟨w.heap.size + 1, 3, none⟩ = some (.slice P np capp) := cell_at hT1 rfl
    have qhT2_0 : w4.cell? ⟨w.heap.size + 1 + 1, 0, none⟩ = some (.int .i64 0) := cell_at hT2 rfl
    have qhT2_1 : w4.cell? ⟨w.heap.size + 1 + 1, 1, none⟩ = some (.int .i64 0) := cell_at hT2 rfl
    clear hb
    rw [← HDS.out] at hri
    have hib := HIB.out
    have HR : Hid (R = ((Mo.lown (Im.at0 (Im.image n DS d) i) M, Mo.lowd (Im.at0 (Im.image n DS d) i) M), 0)) := Lib.hid (by rw [HRD.out, HM.out]; unfold Mo.ampR; rw [if_neg hM0])
    generalize Im.image n DS d = img at hri hib HR
    have hic := (hri.cell hin).1
    have hgl := (hri.cell hin).2.2
    generalize Im.at0 img i = v at hic hib HR
    clear hri
    go_wp2_with fail
    refine (c112 v M _ (by omega) (by omega)).mono ?_
    rintro e w5 ⟨rfl, hb⟩
    clear qhT0_0 qhT0_1 qhT0_2 qhT1_0 qhT1_1 qhT1_2 qhT1_3 qhT2_0 qhT2_1
    have hS := hb
    have hB5 := hB4.call hS rfl
    replace hT0 := blkb hT0 hS
    replace hT1 := blkb hT1 hS
    replace hT2 := blkb hT2 hS
    replace H := H.below hS
    replace HP := HP.below hS
    replace HD := HD.below hS
    clear hS hB4
    have qhT0_0 : w5.cell? ⟨w.heap.size, 0, none⟩ = some (.int .i64 c) := cell_at hT0 rfl
    have qhT0_1 : w5.cell? ⟨w.heap.size, 1, none⟩ = some (.int .i64 r) := cell_at hT0 rfl
    have qhT0_2 : w5.cell? ⟨w.heap.size, 2, none⟩ = some (.slice A n cap) := cell_at hT0 rfl
    have qhT1_0 : w5.cell? ⟨w.heap.size + 1, 0, none⟩ = some (.int .i64 un) := cell_at hT1 rfl
    have qhT1_1 : w5.cell? ⟨w.heap.size + 1, 1, none⟩ = some (.int .i64 (ln : Nat)) := cell_at hT1 rfl
    have qhT1_2 : w5.cell? ⟨w.heap.size + 1, 2, none⟩ = some (.int .i64 most) := cell_at hT1 rfl
    have qhT1_3 : w5.cell? ⟨w.heap.size + 1, 3, none⟩ = some (.slice P np capp) := cell_at hT1 rfl
    have qhT2_0 : w5.cell? ⟨w.heap.size + 1 + 1, 0, none⟩ = some (.int .i64 0) := cell_at hT2 rfl
    have qhT2_1 : w5.cell? ⟨w.heap.size + 1 + 1, 1, none⟩ = some (.int .i64 0) := cell_at hT2 rfl
    clear hb
    clear hic hgl
    have f0 : w5.frozen? ⟨w.heap.size + 1 + 1, 0, none⟩ = false := free_at hT2
    have f1 : w5.frozen? ⟨w.heap.size + 1 + 1, 1, none⟩ = false := free_at hT2
    have hTs := set_blk (i := 1) (set_blk (i := 0) hT2 (.int .i64 (Mo.lown v M))) (.int .i64 (Mo.lowd v M))
    have hbs := (hB5.setCell (p := ⟨w.heap.size + 1 + 1, 0, none⟩) (by show _ ≤ w.heap.size + 1 + 1; omega) (.int .i64 (Mo.lown v M))).setCell (p := ⟨w.heap.size + 1 + 1, 1, none⟩) (by show _ ≤ w.heap.size + 1 + 1; omega) (.int .i64 (Mo.lowd v M))
    have HTS := Lib.hid hTs
    have HBS := Lib.hid hbs
    clear hTs hbs hT2 hB5
    go_wp2_with fail
    exact bodyPost_ret (results_blk_tmp rfl rfl HTS.out _ Tryz.underlying61 rfl (by kernel_rfl)) rfl ⟨by rw [HR.out]; rfl, HBS.out⟩
  have hkm2 : (j : Int) < (np : Int) := by omega
  have hk02 : (0 : Int) ≤ (j : Int) := by omega
  have hin2 : (i : Int) < (n : Int) := by omega
  have hi02 : (0 : Int) ≤ (i : Int) := by omega
  obtain ⟨p, hpx⟩ : ∃ p, ps[j]? = some p := ⟨_, List.getElem?_eq_getElem (by rw [HPL.out]; exact hlt)⟩
  have hpc := HCL.out p (List.mem_of_getElem? hpx)
  have HPX := Lib.hid hpx
  have HDJ : Hid (DS[j]? = some (dlp c l un ln most p)) := Lib.hid (by rw [HDS.out, List.getElem?_map, hpx]; rfl)
  clear hpx
  obtain ⟨p0, p1, ph⟩ := p
  dsimp only at hpc
  obtain ⟨p0, rfl⟩ : ∃ q : Nat, p0 = q := ⟨p0.toNat, by omega⟩
  obtain ⟨p1, rfl⟩ : ∃ q : Nat, p1 = q := ⟨p1.toNat, by omega⟩
  go_wp2_with fail
  refine (c29o c r A n cap l un ln most P np capp ps j p0 p1 ph _ HG.out hc hr hu (by omega) HPX.out hlt hp (by omega) (by omega) H HP).mono ?_
  rintro e w4 ⟨gx, gc, rfl, hrx, hb⟩
  clear qhT0_0 qhT0_1 qhT0_2 qhT1_0 qhT1_1 qhT1_2 qhT1_3 qhT2_0 qhT2_1
  have hS := hb
  have hB4 := hB3.call hS rfl
  replace hT0 := blkb hT0 hS
  replace hT1 := blkb hT1 hS
  replace hT2 := blkb hT2 hS
  replace H := H.below hS
  replace HP := HP.below hS
  replace HD := HD.below hS
  replace hbr := hbr.call hS rfl
  clear hS hB3
  have qhT0_0 : w4.cell? ⟨w.heap.size, 0, none⟩ = some (.int .i64 c) := cell_at hT0 rfl
  have qhT0_1 : w4.cell? ⟨w.heap.size, 1, none⟩ = some (.int .i64 r) := cell_at hT0 rfl
  have qhT0_2 : w4.cell? ⟨w.heap.size, 2, none⟩ = some (.slice A n cap) := cell_at hT0 rfl
  have qhT1_0 : w4.cell? ⟨w.heap.size + 1, 0, none⟩ = some (.int .i64 un) := cell_at hT1 rfl
  have qhT1_1 : w4.cell? ⟨w.heap.size + 1, 1, none⟩ = some (.int .i64 (ln : Nat)) := cell_at hT1 rfl
  have qhT1_2 : w4.cell? ⟨w.heap.size + 1, 2, none⟩ = some (.int .i64 most) := cell_at hT1 rfl
  have qhT1_3 : w4.cell? ⟨w.heap.size + 1, 3, none⟩ = some (.slice P np capp) := cell_at hT1 rfl
  have qhT2_0 : w4.cell? ⟨w.heap.size + 1 + 1, 0, none⟩ = some (.int .i64 0) := cell_at hT2 rfl
  have qhT2_1 : w4.cell? ⟨w.heap.size + 1 + 1, 1, none⟩ = some (.int .i64 0) := cell_at hT2 rfl
  clear hb
  have hdd : dlL c l un ln most p0 p1 ph = dlp c l un ln most ⟨p0, p1, ph⟩ := rfl
  rw [hdd] at hrx
  have HN := Lib.hid (HCK.out j _ HDJ.out)
  clear hdd HDJ
  generalize dlp c l un ln most ⟨p0, p1, ph⟩ = x at hrx HN
  have hxc := (hrx.cell hin).1
  have hxz := (hrx.cell hin).2.2
  generalize Im.at0 x i = xv at hxc HN
  have hcb := HCB.out j
  clear hrx
  generalize ck j = S at hcb HN ⊢
  have HBN := Lib.hid hbr
  clear hbr
  by_cases h0 : 0 ≤ xv
  ·have hd0 : decide (0 ≤ xv) = true := by simp [h0]
   have hws : IntKind.i64.wrap ((S : Int) + 1) = (S : Int) + 1 := wrapI (by omega)
   rw [if_pos h0] at HN
   go_wp2
   go_roundw
   case rel => exact ⟨j + 1, by omega, by go_num, by rw [HN.out, Int.natCast_add]; rfl, HBN.out⟩
   case measure => simp [intOf]; omega
  ·have hd0 : decide (0 ≤ xv) = false := by simp [h0]
   rw [if_neg h0] at HN
   go_wp2
   go_roundw
   case rel => exact ⟨j + 1, by omega, by go_num, by rw [HN.out]; rfl, HBN.out⟩
   case measure => simp [intOf]; omega
end Go.Proofs.YtdimmlljjmmdbaaGreatDoor
namespace Go.Proofs.YtdimmlljjmmdbaaGreatDoor
open Go.RowKit Go.Shelf
set_option maxHeartbeats 16000000
set_option maxRecDepth 100000
theorem fits_calls (c r : Int) (n np md me mk : Nat) (l : List Int) (un len most : Int) (ps : List Pr) (ms : List Int) (d e : List (List Int)) (i : Int) (hln : l.length = n) (hpl : ps.length = np) (hml : ms.length = mk) (hdl : d.length = md) (hel : e.length = me) (hn30 : n ≤ 30) (hp17 : np ≤ 17) (hm30 : mk ≤ 30) (hd17 : md ≤ 17) (he17 : me ≤ 17) (hd45 : ∀ x, x ∈ d → x.length ≤ 45) (he45 : ∀ x, x ∈ e → x.length ≤ 45) :
  ∃ (E1 MI E2 BO E3 NU DE : Int),
   (E1 ≠ 0 → MI = 0) ∧
   (∀ (B C M D E : Option Addr) (cb cc cm cd ce : Nat) (W : World), np ≤ cc → Steps W → RdI W B n l → RdP W C np ps → RdI W M mk ms → RdD W D md d → RdD W E me e → Calls Tryz.prog 32 #[.agg #[.int .i64 c, .int .i64 r, .slice B n cb], .agg #[.int .i64 un, .int .i64 len, .int .i64 most, .slice C np cc], .slice M mk cm, .slice D md cd] W fun en w' => en = .returned (.tuple #[.int .i64 MI, .int .i64 E1]) ∧ Below W.heap.size W w') ∧
   (∀ (B C M D E : Option Addr) (cb cc cm cd ce : Nat) (W : World), np ≤ cc → Steps W → RdI W B n l → RdP W C np ps → RdI W M mk ms → RdD W D md d → RdD W E me e → Calls Tryz.prog 34 #[.agg #[.int .i64 c, .int .i64 r, .slice B n cb], .agg #[.int .i64 un, .int .i64 len, .int .i64 most, .slice C np cc], .slice D md cd, .slice E me ce] W fun en w' => en = .returned (.tuple #[.int .i64 BO, .int .i64 E2]) ∧ Below W.heap.size W w') ∧
   (∀ (B C M D E : Option Addr) (cb cc cm cd ce : Nat) (W : World), np ≤ cc → Steps W → RdI W B n l → RdP W C np ps → RdI W M mk ms → RdD W D md d → RdD W E me e → Calls Tryz.prog 35 #[.agg #[.int .i64 c, .int .i64 r, .slice B n cb], .agg #[.int .i64 un, .int .i64 len, .int .i64 most, .slice C np cc], .slice D md cd, .int .i64 i] W fun en w' => en = .returned (.tuple #[.agg #[.int .i64 NU, .int .i64 DE], .int .i64 E3]) ∧ Below W.heap.size W w') ∧
   (∀ (B C M D E : Option Addr) (cb cc cm cd ce : Nat) (W : World), RdI W B n l → RdP W C np ps → RdI W M mk ms → RdD W D md d → RdD W E me e → Calls Tryz.prog 36 #[.agg #[.int .i64 c, .int .i64 r, .slice B n cb], .agg #[.int .i64 un, .int .i64 len, .int .i64 most, .slice C np cc], .slice M mk cm, .slice D md cd] W fun en w' => en = .returned (.int .i64 E1) ∧ Below W.heap.size W w') ∧
   (E1 = 0 → (∀ (B C M D E : Option Addr) (cb cc cm cd ce : Nat) (W : World), RdI W B n l → RdP W C np ps → RdI W M mk ms → RdD W D md d → RdD W E me e → Calls Tryz.prog 37 #[.agg #[.int .i64 c, .int .i64 r, .slice B n cb], .agg #[.int .i64 un, .int .i64 len, .int .i64 most, .slice C np cc], .slice M mk cm, .slice D md cd] W fun en w' => en = .returned (.int .i64 MI) ∧ Below W.heap.size W w')) ∧
   (∀ (B C M D E : Option Addr) (cb cc cm cd ce : Nat) (W : World), RdI W B n l → RdP W C np ps → RdI W M mk ms → RdD W D md d → RdD W E me e → Calls Tryz.prog 38 #[.agg #[.int .i64 c, .int .i64 r, .slice B n cb], .agg #[.int .i64 un, .int .i64 len, .int .i64 most, .slice C np cc], .slice D md cd, .slice E me ce] W fun en w' => en = .returned (.tuple #[.int .i64 BO, .int .i64 E2]) ∧ Below W.heap.size W w') ∧
   (∀ (B C M D E : Option Addr) (cb cc cm cd ce : Nat) (W : World), RdI W B n l → RdP W C np ps → RdI W M mk ms → RdD W D md d → RdD W E me e → Calls Tryz.prog 39 #[.agg #[.int .i64 c, .int .i64 r, .slice B n cb], .agg #[.int .i64 un, .int .i64 len, .int .i64 most, .slice C np cc], .slice D md cd, .int .i64 i] W fun en w' => en = .returned (.tuple #[.agg #[.int .i64 NU, .int .i64 DE], .int .i64 E3]) ∧ Below W.heap.size W w') := by
 have hl : n ≤ 1000000 := by omega
 have hp : np ≤ 1000000 := by omega
 have hd : md ≤ 1000000 := by omega
 have he : me ≤ 1000000 := by omega
 have hm : mk ≤ 1000000 := by omega
 have hdx : ∀ x, x ∈ d → x.length ≤ 1000000 := fun x hx => Nat.le_trans (hd45 x hx) (by decide)
 have hex : ∀ x, x ∈ e → x.length ≤ 1000000 := fun x hx => Nat.le_trans (he45 x hx) (by decide)
 -- the misfit
 have h1 : ∃ (E1 MI : Int), E1 = Mo.fit c r l un len most ps ms d ∧ (E1 ≠ 0 → MI = 0) ∧
   (∀ (B C M D E : Option Addr) (cb cc cm cd ce : Nat) (W : World), np ≤ cc → Steps W → RdI W B n l → RdP W C np ps → RdI W M mk ms → RdD W D md d → RdD W E me e → Calls Tryz.prog 32 #[.agg #[.int .i64 c, .int .i64 r, .slice B n cb], .agg #[.int .i64 un, .int .i64 len, .int .i64 most, .slice C np cc], .slice M mk cm, .slice D md cd] W fun en w' => en = .returned (.tuple #[.int .i64 MI, .int .i64 E1]) ∧ Below W.heap.size W w') ∧
   (E1 = 0 → (∀ (B C M D E : Option Addr) (cb cc cm cd ce : Nat) (W : World), RdI W B n l → RdP W C np ps → RdI W M mk ms → RdD W D md d → RdD W E me e → Calls Tryz.prog 37 #[.agg #[.int .i64 c, .int .i64 r, .slice B n cb], .agg #[.int .i64 un, .int .i64 len, .int .i64 most, .slice C np cc], .slice M mk cm, .slice D md cd] W fun en w' => en = .returned (.int .i64 MI) ∧ Below W.heap.size W w')) := by
  by_cases hE : Mo.fit c r l un len most ps ms d = 0
  ·obtain ⟨q1, q2⟩ := Mo.fit_zero hE
   have m1 := Mo.mdl_zero q1
   have m2 := Mo.dta_zero q2
   have hsv := surv_ok m1.1
   obtain ⟨c, r, rfl, rfl, hc, hr, g⟩ := Mo.ground_ok hsv.1
   obtain ⟨ln, rfl⟩ : ∃ k : Nat, len = k := ⟨len.toNat, by omega⟩
   obtain rfl : mk = n := by omega
   obtain rfl : md = np := by omega
   refine ⟨0, Im.misfit (trcs c l un ln most ms ps).flatten d.flatten, hE.symm, fun h => absurd rfl h, ?_, ?_⟩
   ·intro B C M D E cb cc cm cd ce W hcc hst k1 k2 k3 k4 _
    exact c32_ok c r B mk cb l un ln most C md cc ps M cm ms D cd d W g hc hr hcc k1 k2 k3 k4 hst hE
   ·intro _
    intro B C M D E cb cc cm cd ce W k1 k2 k3 k4 _
    exact c37 c r B mk cb l un ln most C md cc ps M cm ms D cd d W g hc hr k1 k2 k3 k4 hE
  ·refine ⟨_, 0, rfl, fun _ => rfl, ?_, fun h => absurd h hE⟩
   intro B C M D E cb cc cm cd ce W hcc hst k1 k2 k3 k4 _
   exact c32_bad c r B n cb l un len most C np cc ps M mk cm ms D md cd d W hl hm hp hd hdx k2 k4 k1 k3 hE
 have h2 : ∃ (E2 BO : Int),
   (∀ (B C M D E : Option Addr) (cb cc cm cd ce : Nat) (W : World), np ≤ cc → Steps W → RdI W B n l → RdP W C np ps → RdI W M mk ms → RdD W D md d → RdD W E me e → Calls Tryz.prog 34 #[.agg #[.int .i64 c, .int .i64 r, .slice B n cb], .agg #[.int .i64 un, .int .i64 len, .int .i64 most, .slice C np cc], .slice D md cd, .slice E me ce] W fun en w' => en = .returned (.tuple #[.int .i64 BO, .int .i64 E2]) ∧ Below W.heap.size W w') ∧
   (∀ (B C M D E : Option Addr) (cb cc cm cd ce : Nat) (W : World), RdI W B n l → RdP W C np ps → RdI W M mk ms → RdD W D md d → RdD W E me e → Calls Tryz.prog 38 #[.agg #[.int .i64 c, .int .i64 r, .slice B n cb], .agg #[.int .i64 un, .int .i64 len, .int .i64 most, .slice C np cc], .slice D md cd, .slice E me ce] W fun en w' => en = .returned (.tuple #[.int .i64 BO, .int .i64 E2]) ∧ Below W.heap.size W w') := by
  by_cases hE : Mo.bth c r l un len most ps d e = 0
  ·have hz := Mo.first_zero hE
   have m2 := Mo.dta_zero (hz _ List.mem_cons_self)
   have m3 := Mo.dat_zero (hz (Mo.dat len ps e) (by simp))
   have hsv := surv_ok m2.1
   obtain ⟨c, r, rfl, rfl, hc, hr, g⟩ := Mo.ground_ok hsv.1
   obtain ⟨ln, rfl⟩ : ∃ k : Nat, len = k := ⟨len.toNat, by omega⟩
   obtain rfl : md = np := by omega
   obtain rfl : md = me := by omega
   refine ⟨(Mo.bndR (Im.image n (ps.map (dlp c l un ln most)) e) d.flatten e.flatten).2, (Mo.bndR (Im.image n (ps.map (dlp c l un ln most)) e) d.flatten e.flatten).1, ?_, ?_⟩
   ·intro B C M D E cb cc cm cd ce W hcc hst k1 k2 _ k4 k5
    exact c34_ok c r B n cb l un ln most C md cc ps D cd d E ce e W g hc hr hcc k1 k2 k4 k5 hst hE
   ·intro B C M D E cb cc cm cd ce W k1 k2 _ k4 k5
    exact c38_ok c r B n cb l un ln most C md cc ps D cd d E ce e W g hc hr k1 k2 k4 k5 hE
  ·refine ⟨Mo.bth c r l un len most ps d e, 0, ?_, ?_⟩
   ·intro B C M D E cb cc cm cd ce W hcc hst k1 k2 _ k4 k5
    exact c34_bad c r B n cb l un len most C np cc ps D md cd d E me ce e W hl hp hd hdx he hex k2 k4 k5 k1 hE
   ·intro B C M D E cb cc cm cd ce W k1 k2 _ k4 k5
    exact c38_bad c r B n cb l un len most C np cc ps D md cd d E me ce e W hl hp hd hdx he hex k1 k2 k4 k5 hE
 have h3 : ∃ (E3 NU DE : Int),
   (∀ (B C M D E : Option Addr) (cb cc cm cd ce : Nat) (W : World), np ≤ cc → Steps W → RdI W B n l → RdP W C np ps → RdI W M mk ms → RdD W D md d → RdD W E me e → Calls Tryz.prog 35 #[.agg #[.int .i64 c, .int .i64 r, .slice B n cb], .agg #[.int .i64 un, .int .i64 len, .int .i64 most, .slice C np cc], .slice D md cd, .int .i64 i] W fun en w' => en = .returned (.tuple #[.agg #[.int .i64 NU, .int .i64 DE], .int .i64 E3]) ∧ Below W.heap.size W w') ∧
   (∀ (B C M D E : Option Addr) (cb cc cm cd ce : Nat) (W : World), RdI W B n l → RdP W C np ps → RdI W M mk ms → RdD W D md d → RdD W E me e → Calls Tryz.prog 39 #[.agg #[.int .i64 c, .int .i64 r, .slice B n cb], .agg #[.int .i64 un, .int .i64 len, .int .i64 most, .slice C np cc], .slice D md cd, .int .i64 i] W fun en w' => en = .returned (.tuple #[.agg #[.int .i64 NU, .int .i64 DE], .int .i64 E3]) ∧ Below W.heap.size W w') := by
  by_cases hE : Mo.ampE c r l un len most ps d i = 0
  ·have hz := Mo.first_zero hE
   have m2 := Mo.dta_zero (hz _ List.mem_cons_self)
   have hci := Mo.cell_ok.1 (hz (Mo.cell l.length i) (by simp))
   have hsv := surv_ok m2.1
   obtain ⟨c, r, rfl, rfl, hc, hr, g⟩ := Mo.ground_ok hsv.1
   obtain ⟨ln, rfl⟩ : ∃ k : Nat, len = k := ⟨len.toNat, by omega⟩
   obtain ⟨i, rfl⟩ : ∃ k : Nat, i = k := ⟨i.toNat, by omega⟩
   obtain rfl : md = np := by omega
   refine ⟨(Mo.ampR (Im.image n (ps.map (dlp c l un ln most)) d) (Mo.cnt (ps.map (dlp c l un ln most)) i) i).2, (Mo.ampR (Im.image n (ps.map (dlp c l un ln most)) d) (Mo.cnt (ps.map (dlp c l un ln most)) i) i).1.1, (Mo.ampR (Im.image n (ps.map (dlp c l un ln most)) d) (Mo.cnt (ps.map (dlp c l un ln most)) i) i).1.2, ?_, ?_⟩
   ·intro B C M D E cb cc cm cd ce W hcc hst k1 k2 _ k4 _
    exact c35_ok c r B n cb l un ln most C md cc ps D cd d i W g hc hr hcc k1 k2 k4 hst hE
   ·intro B C M D E cb cc cm cd ce W k1 k2 _ k4 _
    exact c39_ok c r B n cb l un ln most C md cc ps D cd d i W g hc hr k1 k2 k4 hE
  ·refine ⟨Mo.ampE c r l un len most ps d i, 0, 0, ?_, ?_⟩
   ·intro B C M D E cb cc cm cd ce W hcc hst k1 k2 _ k4 _
    exact c35_bad c r B n cb l un len most C np cc ps D md cd d i W hl hp hd hdx k2 k4 k1 hE
   ·intro B C M D E cb cc cm cd ce W k1 k2 _ k4 _
    exact c39_bad c r B n cb l un len most C np cc ps D md cd d i W hl hp hd hdx k2 k4 k1 hE
 obtain ⟨E1, MI, hE1, hM0, k32, k37⟩ := h1
 obtain ⟨E2, BO, k34, k38⟩ := h2
 obtain ⟨E3, NU, DE, k35, k39⟩ := h3
 refine ⟨E1, MI, E2, BO, E3, NU, DE, hM0, k32, k34, k35, ?_, k37, k38, k39⟩
 intro B C M D E cb cc cm cd ce W k1 k2 k3 k4 _
 rw [hE1]
 exact c36 c r B n cb l un len most C np cc ps M mk cm ms D md cd d W hl hp hm hd hdx k1 k2 k3 k4
theorem c33t (D : Option Addr) (m capd : Nat) (d : List (List Int)) (w : World) (hm : m ≤ 17) (hsh : ∀ x, x ∈ d → x.length ≤ 45) (HD : RdD w D m d) :
  Calls Tryz.prog 33 #[.slice D m capd] w fun en w' => ∃ B cb, en = .returned (.slice B m cb) ∧ RdD w' B m d ∧ Below w.heap.size w w' :=
 c33 D m capd d w (by omega) (fun x hx => Nat.le_trans (hsh x hx) (by decide)) HD
def Fresh (B : Nat) (zs : Array Value) (t : TypeId) (v : Value) (w : World) : Prop := ∃ g : Nat, v = .pointer (some ⟨g, 0, none⟩) ∧ B ≤ g ∧ w.heap[g]? = some (.cells zs t (0, 0))
theorem Fresh.below {B : Nat} {zs : Array Value} {t : TypeId} {v : Value} {w w' : World} (h : Fresh B zs t v w) (hb : Below w.heap.size w w') : Fresh B zs t v w' := by
 obtain ⟨g, h1, h2, h3⟩ := h
 exact ⟨g, h1, h2, blkb h3 hb⟩
theorem l4 (c r : Int) (A : Option Addr) (n cap : Nat) (l : List Int) (un len most : Int) (P : Option Addr) (np capp : Nat) (ps : List Pr) (D : Option Addr) (md cd : Nat) (dl : List (List Int)) (E : Option Addr) (me ce : Nat) (el : List (List Int)) (M : Option Addr) (mk cm : Nat) (ms : List Int) (s f i : Int) (w : World) (hmd : md ≤ 9223372036854775807) (hme : me ≤ 9223372036854775807) (H : RdI w A n l) (HP : RdP w P np ps) (HD : RdD w D md dl) (HE : RdD w E me el) (HM : RdI w M mk ms) (hst : Steps w) :
  Calls Tryz.prog 4 #[.agg #[.int .i64 c, .int .i64 r, .slice A n cap], .agg #[.int .i64 un, .int .i64 len, .int .i64 most, .slice P np capp], .agg #[.slice D md cd, .slice E me ce, .slice M mk cm, .int .i64 s, .int .i64 f, .int .i64 i]] w fun en w' => en = .returned (.bool true) ∧ Below w.heap.size w w' := by
 obtain ⟨w0, hW⟩ : ∃ W, W = ((w.alloc (Obj.cells #[.int .i64 c, .int .i64 r, .slice A n cap] 24)).alloc (Obj.cells #[.int .i64 un, .int .i64 len, .int .i64 most, .slice P np capp] 27)).alloc (Obj.cells #[.slice D md cd, .slice E me ce, .slice M mk cm, .int .i64 s, .int .i64 f, .int .i64 i] 55) := ⟨_, rfl⟩
 have hT0 : w0.heap[w.heap.size]? = some (.cells #[.int .i64 c, .int .i64 r, .slice A n cap] 24 (0, 0)) := by rw [hW]; exact heap_old (by simp <;> omega) (heap_old (by simp <;> omega) (heap_new (by simp)))
 have hT1 : w0.heap[w.heap.size + 1]? = some (.cells #[.int .i64 un, .int .i64 len, .int .i64 most, .slice P np capp] 27 (0, 0)) := by rw [hW]; exact heap_old (by simp <;> omega) (heap_new (by simp))
 have hT2 : w0.heap[w.heap.size + 1 + 1]? = some (.cells #[.slice D md cd, .slice E me ce, .slice M mk cm, .int .i64 s, .int .i64 f, .int .i64 i] 55 (0, 0)) := by rw [hW]; exact heap_new (by simp)
 have hB0 : Below w.heap.size w w0 := by rw [hW]; exact ((((Below.refl _ _).alloc (by first | omega | (simp <;> omega)) _).alloc (by first | omega | (simp <;> omega)) _).alloc (by first | omega | (simp <;> omega)) _)
 replace H := H.below hB0
 replace HP := HP.below hB0
 replace HD := HD.below hB0
 replace HE := HE.below hB0
 replace HM := HM.below hB0
 replace hst := hst.below hB0
 go_enter Tryz.func4, Tryz.ntmps4
 go_wp2_with fail
 rw [← hW]
 clear hW
 have qhT0_0 : w0.cell? ⟨w.heap.size, 0, none⟩ = some (.int .i64 c) := cell_at hT0 rfl
 have qhT0_1 : w0.cell? ⟨w.heap.size, 1, none⟩ = some (.int .i64 r) := cell_at hT0 rfl
 have qhT0_2 : w0.cell? ⟨w.heap.size, 2, none⟩ = some (.slice A n cap) := cell_at hT0 rfl
 have qhT1_0 : w0.cell? ⟨w.heap.size + 1, 0, none⟩ = some (.int .i64 un) := cell_at hT1 rfl
 have qhT1_1 : w0.cell? ⟨w.heap.size + 1, 1, none⟩ = some (.int .i64 len) := cell_at hT1 rfl
 have qhT1_2 : w0.cell? ⟨w.heap.size + 1, 2, none⟩ = some (.int .i64 most) := cell_at hT1 rfl
 have qhT1_3 : w0.cell? ⟨w.heap.size + 1, 3, none⟩ = some (.slice P np capp) := cell_at hT1 rfl
 have qhT2_0 : w0.cell? ⟨w.heap.size + 1 + 1, 0, none⟩ = some (.slice D md cd) := cell_at hT2 rfl
 have qhT2_1 : w0.cell? ⟨w.heap.size + 1 + 1, 1, none⟩ = some (.slice E me ce) := cell_at hT2 rfl
 have qhT2_2 : w0.cell? ⟨w.heap.size + 1 + 1, 2, none⟩ = some (.slice M mk cm) := cell_at hT2 rfl
 have qhT2_3 : w0.cell? ⟨w.heap.size + 1 + 1, 3, none⟩ = some (.int .i64 s) := cell_at hT2 rfl
 have qhT2_4 : w0.cell? ⟨w.heap.size + 1 + 1, 4, none⟩ = some (.int .i64 f) := cell_at hT2 rfl
 have qhT2_5 : w0.cell? ⟨w.heap.size + 1 + 1, 5, none⟩ = some (.int .i64 i) := cell_at hT2 rfl
 go_wp2_with fail
 refine (c16 c r A n cap _).mono ?_
 rintro e w1 ⟨⟨b, rfl, hg1⟩, hb⟩
 clear qhT0_0 qhT0_1 qhT0_2 qhT1_0 qhT1_1 qhT1_2 qhT1_3 qhT2_0 qhT2_1 qhT2_2 qhT2_3 qhT2_4 qhT2_5
 have hS := hb
 have hB1 := hB0.call hS rfl
 replace hT0 := blkb hT0 hS
 replace hT1 := blkb hT1 hS
 replace hT2 := blkb hT2 hS
 replace H := H.below hS
 replace HP := HP.below hS
 replace HD := HD.below hS
 replace HE := HE.below hS
 replace HM := HM.below hS
 replace hst := hst.below hS
 clear hS hB0
 have qhT0_0 : w1.cell? ⟨w.heap.size, 0, none⟩ = some (.int .i64 c) := cell_at hT0 rfl
 have qhT0_1 : w1.cell? ⟨w.heap.size, 1, none⟩ = some (.int .i64 r) := cell_at hT0 rfl
 have qhT0_2 : w1.cell? ⟨w.heap.size, 2, none⟩ = some (.slice A n cap) := cell_at hT0 rfl
 have qhT1_0 : w1.cell? ⟨w.heap.size + 1, 0, none⟩ = some (.int .i64 un) := cell_at hT1 rfl
 have qhT1_1 : w1.cell? ⟨w.heap.size + 1, 1, none⟩ = some (.int .i64 len) := cell_at hT1 rfl
 have qhT1_2 : w1.cell? ⟨w.heap.size + 1, 2, none⟩ = some (.int .i64 most) := cell_at hT1 rfl
 have qhT1_3 : w1.cell? ⟨w.heap.size + 1, 3, none⟩ = some (.slice P np capp) := cell_at hT1 rfl
 have qhT2_0 : w1.cell? ⟨w.heap.size + 1 + 1, 0, none⟩ = some (.slice D md cd) := cell_at hT2 rfl
 have qhT2_1 : w1.cell? ⟨w.heap.size + 1 + 1, 1, none⟩ = some (.slice E me ce) := cell_at hT2 rfl
 have qhT2_2 : w1.cell? ⟨w.heap.size + 1 + 1, 2, none⟩ = some (.slice M mk cm) := cell_at hT2 rfl
 have qhT2_3 : w1.cell? ⟨w.heap.size + 1 + 1, 3, none⟩ = some (.int .i64 s) := cell_at hT2 rfl
 have qhT2_4 : w1.cell? ⟨w.heap.size + 1 + 1, 4, none⟩ = some (.int .i64 f) := cell_at hT2 rfl
 have qhT2_5 : w1.cell? ⟨w.heap.size + 1 + 1, 5, none⟩ = some (.int .i64 i) := cell_at hT2 rfl
 clear hb
 have HG1 := Lib.hid hg1
 clear hg1
 cases b
 ·
   go_wp2_with fail
   refine (c18 _ hst).mono ?_
   rintro e wz ⟨rfl, hz⟩
   go_wp2
   go_ret
   exact ⟨rfl, hB1.call hz rfl⟩
 go_wp2_with fail
 refine (c17 un len most P np capp _).mono ?_
 rintro e w2 ⟨⟨b, rfl, hg2⟩, hb⟩
 clear qhT0_0 qhT0_1 qhT0_2 qhT1_0 qhT1_1 qhT1_2 qhT1_3 qhT2_0 qhT2_1 qhT2_2 qhT2_3 qhT2_4 qhT2_5
 have hS := hb
 have hB2 := hB1.call hS rfl
 replace hT0 := blkb hT0 hS
 replace hT1 := blkb hT1 hS
 replace hT2 := blkb hT2 hS
 replace H := H.below hS
 replace HP := HP.below hS
 replace HD := HD.below hS
 replace HE := HE.below hS
 replace HM := HM.below hS
 replace hst := hst.below hS
 clear hS hB1
 have qhT0_0 : w2.cell? ⟨w.heap.size, 0, none⟩ = some (.int .i64 c) := cell_at hT0 rfl
 have qhT0_1 : w2.cell? ⟨w.heap.size, 1, none⟩ = some (.int .i64 r) := cell_at hT0 rfl
 have qhT0_2 : w2.cell? ⟨w.heap.size, 2, none⟩ = some (.slice A n cap) := cell_at hT0 rfl
 have qhT1_0 : w2.cell? ⟨w.heap.size + 1, 0, none⟩ = some (.int .i64 un) := cell_at hT1 rfl
 have qhT1_1 : w2.cell? ⟨w.heap.size + 1, 1, none⟩ = some (.int .i64 len) := cell_at hT1 rfl
 have qhT1_2 : w2.cell? ⟨w.heap.size + 1, 2, none⟩ = some (.int .i64 most) := cell_at hT1 rfl
 have qhT1_3 : w2.cell? ⟨w.heap.size + 1, 3, none⟩ = some (.slice P np capp) := cell_at hT1 rfl
 have qhT2_0 : w2.cell? ⟨w.heap.size + 1 + 1, 0, none⟩ = some (.slice D md cd) := cell_at hT2 rfl
 have qhT2_1 : w2.cell? ⟨w.heap.size + 1 + 1, 1, none⟩ = some (.slice E me ce) := cell_at hT2 rfl
 have qhT2_2 : w2.cell? ⟨w.heap.size + 1 + 1, 2, none⟩ = some (.slice M mk cm) := cell_at hT2 rfl
 have qhT2_3 : w2.cell? ⟨w.heap.size + 1 + 1, 3, none⟩ = some (.int .i64 s) := cell_at hT2 rfl
 have qhT2_4 : w2.cell? ⟨w.heap.size + 1 + 1, 4, none⟩ = some (.int .i64 f) := cell_at hT2 rfl
 have qhT2_5 : w2.cell? ⟨w.heap.size + 1 + 1, 5, none⟩ = some (.int .i64 i) := cell_at hT2 rfl
 clear hb
 have HG2 := Lib.hid hg2
 clear hg2
 cases b
 ·
   go_wp2_with fail
   refine (c18 _ hst).mono ?_
   rintro e wz ⟨rfl, hz⟩
   go_wp2
   go_ret
   exact ⟨rfl, hB2.call hz rfl⟩
 go_wp2_with fail
 refine (c31s D E M md me mk cd ce cm dl el s f i _ hmd hme HD HE).mono ?_
 rintro e w3 ⟨⟨b, rfl, hg3⟩, hb⟩
 clear qhT0_0 qhT0_1 qhT0_2 qhT1_0 qhT1_1 qhT1_2 qhT1_3 qhT2_0 qhT2_1 qhT2_2 qhT2_3 qhT2_4 qhT2_5
 have hS := hb
 have hB3 := hB2.call hS rfl
 replace hT0 := blkb hT0 hS
 replace hT1 := blkb hT1 hS
 replace hT2 := blkb hT2 hS
 replace H := H.below hS
 replace HP := HP.below hS
 replace HD := HD.below hS
 replace HE := HE.below hS
 replace HM := HM.below hS
 replace hst := hst.below hS
 clear hS hB2
 have qhT0_0 : w3.cell? ⟨w.heap.size, 0, none⟩ = some (.int .i64 c) := cell_at hT0 rfl
 have qhT0_1 : w3.cell? ⟨w.heap.size, 1, none⟩ = some (.int .i64 r) := cell_at hT0 rfl
 have qhT0_2 : w3.cell? ⟨w.heap.size, 2, none⟩ = some (.slice A n cap) := cell_at hT0 rfl
 have qhT1_0 : w3.cell? ⟨w.heap.size + 1, 0, none⟩ = some (.int .i64 un) := cell_at hT1 rfl
 have qhT1_1 : w3.cell? ⟨w.heap.size + 1, 1, none⟩ = some (.int .i64 len) := cell_at hT1 rfl
 have qhT1_2 : w3.cell? ⟨w.heap.size + 1, 2, none⟩ = some (.int .i64 most) := cell_at hT1 rfl
 have qhT1_3 : w3.cell? ⟨w.heap.size + 1, 3, none⟩ = some (.slice P np capp) := cell_at hT1 rfl
 have qhT2_0 : w3.cell? ⟨w.heap.size + 1 + 1, 0, none⟩ = some (.slice D md cd) := cell_at hT2 rfl
 have qhT2_1 : w3.cell? ⟨w.heap.size + 1 + 1, 1, none⟩ = some (.slice E me ce) := cell_at hT2 rfl
 have qhT2_2 : w3.cell? ⟨w.heap.size + 1 + 1, 2, none⟩ = some (.slice M mk cm) := cell_at hT2 rfl
 have qhT2_3 : w3.cell? ⟨w.heap.size + 1 + 1, 3, none⟩ = some (.int .i64 s) := cell_at hT2 rfl
 have qhT2_4 : w3.cell? ⟨w.heap.size + 1 + 1, 4, none⟩ = some (.int .i64 f) := cell_at hT2 rfl
 have qhT2_5 : w3.cell? ⟨w.heap.size + 1 + 1, 5, none⟩ = some (.int .i64 i) := cell_at hT2 rfl
 clear hb
 have HG3 := Lib.hid hg3
 clear hg3
 cases b
 ·
   go_wp2_with fail
   refine (c18 _ hst).mono ?_
   rintro e wz ⟨rfl, hz⟩
   go_wp2
   go_ret
   exact ⟨rfl, hB3.call hz rfl⟩
 have hn30 : n ≤ 30 := (by first | exact HG1.out rfl | exact HG1.out trivial)
 have hp17 : np ≤ 17 := (by first | exact HG2.out rfl | exact HG2.out trivial)
 have h3 : ((md ≤ 5 ∨ md = 17) ∧ ∀ x, x ∈ dl → x.length ≤ 45) ∧ ((me ≤ 5 ∨ me = 17) ∧ ∀ x, x ∈ el → x.length ≤ 45) ∧ mk ≤ 30 := (by first | exact HG3.out rfl | exact HG3.out trivial)
 obtain ⟨⟨hd5, hd45⟩, ⟨he5, he45⟩, hm30⟩ := h3
 have hd17 : md ≤ 17 := by omega
 have he17 : me ≤ 17 := by omega
 have hl : n ≤ 1000000 := by omega
 have hp : np ≤ 1000000 := by omega
 have hm : mk ≤ 1000000 := by omega
 obtain ⟨E1, MI, E2, BO, E3, NU, DE, hz1, k32, k34, k35, k36, k37, k38, k39⟩ := fits_calls c r n np md me mk l un len most ps ms dl el i H.len HP.len HM.len HD.len HE.len hn30 hp17 hm30 hd17 he17 hd45 he45
 have HD45 := Lib.hid hd45
 have HE45 := Lib.hid he45
 have HZ1 := Lib.hid hz1
 have K32 := Lib.hid k32
 have K34 := Lib.hid k34
 have K35 := Lib.hid k35
 have K36 := Lib.hid k36
 have K37 := Lib.hid k37
 have K38 := Lib.hid k38
 have K39 := Lib.hid k39
 clear hz1 k32 k34 k35 k36 k37 k38 k39 HG1 HG2 HG3 hd45 hd5 he45 he5 hmd hme hm30
 go_wp2_with fail
 refine wp_region_plan [(0, true), (2, true), (4, true), (5, true), (7, true), (8, true), (1, false), (3, false), (6, false), (9, false), (10, false), (11, true), (12, true), (13, true), (14, true), (15, true)] w3.heap.size (by kernel_rfl) (by kernel_rfl) (Nat.le_refl _) (fun _ _ d _ _ h => by cases d <;> exact h) ?_
 have hC : Below w3.heap.size w3 w3 := Below.refl _ _
 have zhT0 : w.heap.size < w3.heap.size := (Array.getElem?_eq_some_iff.1 hT0).1
 have zhT1 : w.heap.size + 1 < w3.heap.size := (Array.getElem?_eq_some_iff.1 hT1).1
 have zhT2 : w.heap.size + 1 + 1 < w3.heap.size := (Array.getElem?_eq_some_iff.1 hT2).1
 repeat (first | (refine wpPlanA_skip _ rfl (by rfl) ?_; simp only [Act.put, List.setIfInBounds_toArray, List.set_cons_zero, List.set_cons_succ]) | (refine wpPlanA_soft _ ?_ rfl (by rfl) ?_ ?_; rotate_left; (intro wq hq hcq; go_simp; first | exact rfl | exact ⟨rfl, rfl⟩); simp only [Act.put, List.setIfInBounds_toArray, List.set_cons_zero, List.set_cons_succ]))
 refine wpPlanA_hard _ rfl (by rfl) (fun w4 hS K hK => ?_)
 go_simp
 refine (c20d c r A n cap l _ hl (H.below hS)).mono ?_
 rintro e w5 ⟨B1, cb1, rfl, hr1, hb⟩
 replace hS := hS.call hb rfl
 have hB5 := hB3.call hS rfl
 replace hC := hC.call hS rfl
 replace hT0 := blkb hT0 hS
 replace hT1 := blkb hT1 hS
 replace hT2 := blkb hT2 hS
 replace H := H.below hS
 replace HP := HP.below hS
 replace HD := HD.below hS
 replace HE := HE.below hS
 replace HM := HM.below hS
 replace hst := hst.below hS
 refine hK _ _ hC ?_
 clear hS hb hB3 hK K
 try simp only [Act.put, List.setIfInBounds_toArray, List.set_cons_zero, List.set_cons_succ]
 refine wpPlanA_hard _ rfl (by rfl) (fun w6 hS K hK => ?_)
 go_simp
 refine (c21d un len most P np capp ps _ hp (HP.below hS)).mono ?_
 rintro e w7 ⟨P2, pc2, rfl, ⟨hp2, hq2⟩, hb⟩
 replace hS := hS.call hb rfl
 have hB7 := hB5.call hS rfl
 replace hC := hC.call hS rfl
 replace hT0 := blkb hT0 hS
 replace hT1 := blkb hT1 hS
 replace hT2 := blkb hT2 hS
 replace H := H.below hS
 replace HP := HP.below hS
 replace HD := HD.below hS
 replace HE := HE.below hS
 replace HM := HM.below hS
 replace hst := hst.below hS
 replace hr1 := hr1.below hS
 refine hK _ _ hC ?_
 clear hS hb hB5 hK K
 try simp only [Act.put, List.setIfInBounds_toArray, List.set_cons_zero, List.set_cons_succ]
 refine wpPlanA_hard _ rfl (by rfl) (fun w8 hS K hK => ?_)
 go_simp
 refine (c22d M mk cm ms _ hm (HM.below hS)).mono ?_
 rintro e w9 ⟨D3, dc3, rfl, hd3, hb⟩
 replace hS := hS.call hb rfl
 have hB9 := hB7.call hS rfl
 replace hC := hC.call hS rfl
 replace hT0 := blkb hT0 hS
 replace hT1 := blkb hT1 hS
 replace hT2 := blkb hT2 hS
 replace H := H.below hS
 replace HP := HP.below hS
 replace HD := HD.below hS
 replace HE := HE.below hS
 replace HM := HM.below hS
 replace hst := hst.below hS
 replace hr1 := hr1.below hS
 replace hp2 := hp2.below hS
 refine hK _ _ hC ?_
 clear hS hb hB7 hK K
 try simp only [Act.put, List.setIfInBounds_toArray, List.set_cons_zero, List.set_cons_succ]
 refine wpPlanA_hard _ rfl (by rfl) (fun w10 hS K hK => ?_)
 go_simp
 refine (c33t D md cd dl _ hd17 HD45.out (HD.below hS)).mono ?_
 rintro e w11 ⟨F4, fc4, rfl, he4, hb⟩
 replace hS := hS.call hb rfl
 have hB11 := hB9.call hS rfl
 replace hC := hC.call hS rfl
 replace hT0 := blkb hT0 hS
 replace hT1 := blkb hT1 hS
 replace hT2 := blkb hT2 hS
 replace H := H.below hS
 replace HP := HP.below hS
 replace HD := HD.below hS
 replace HE := HE.below hS
 replace HM := HM.below hS
 replace hst := hst.below hS
 replace hr1 := hr1.below hS
 replace hp2 := hp2.below hS
 replace hd3 := hd3.below hS
 refine hK _ _ hC ?_
 clear hS hb hB9 hK K
 try simp only [Act.put, List.setIfInBounds_toArray, List.set_cons_zero, List.set_cons_succ]
 refine wpPlanA_hard _ rfl (by rfl) (fun w12 hS K hK => ?_)
 go_simp
 refine (K32.out _ _ _ _ _ _ _ _ _ 0 _ hq2 (hst.below hS) (hr1.below hS) (hp2.below hS) (hd3.below hS) (he4.below hS) (HE.below hS)).mono ?_
 rintro e w13 ⟨rfl, hb⟩
 replace hS := hS.call hb rfl
 have hB13 := hB11.call hS rfl
 replace hC := hC.call hS rfl
 replace hT0 := blkb hT0 hS
 replace hT1 := blkb hT1 hS
 replace hT2 := blkb hT2 hS
 replace H := H.below hS
 replace HP := HP.below hS
 replace HD := HD.below hS
 replace HE := HE.below hS
 replace HM := HM.below hS
 replace hst := hst.below hS
 replace hr1 := hr1.below hS
 replace hp2 := hp2.below hS
 replace hd3 := hd3.below hS
 replace he4 := he4.below hS
 refine hK _ _ hC ?_
 clear hS hb hB11 hK K
 try simp only [Act.put, List.setIfInBounds_toArray, List.set_cons_zero, List.set_cons_succ]
 repeat (first | (refine wpPlanA_skip _ rfl (by rfl) ?_; simp only [Act.put, List.setIfInBounds_toArray, List.set_cons_zero, List.set_cons_succ]) | (refine wpPlanA_soft _ ?_ rfl (by rfl) ?_ ?_; rotate_left; (intro wq hq hcq; go_simp; first | exact rfl | exact ⟨rfl, rfl⟩); simp only [Act.put, List.setIfInBounds_toArray, List.set_cons_zero, List.set_cons_succ]))
 clear hr1
 clear hp2
 clear hd3
 clear he4
 clear qhT0_0 qhT0_1 qhT0_2 qhT1_0 qhT1_1 qhT1_2 qhT1_3 qhT2_0 qhT2_1 qhT2_2 qhT2_3 qhT2_4 qhT2_5
 refine wpPlanA_nil (fun w14 hS => ?_)
 clear hC zhT0 zhT1 zhT2
 have hB14 := hB13.call hS rfl
 replace hT0 := blkb hT0 hS
 replace hT1 := blkb hT1 hS
 replace hT2 := blkb hT2 hS
 replace H := H.below hS
 replace HP := HP.below hS
 replace HD := HD.below hS
 replace HE := HE.below hS
 replace HM := HM.below hS
 replace hst := hst.below hS
 clear hS hB13
 have qhT0_0 : w14.cell? ⟨w.heap.size, 0, none⟩ = some (.int .i64 c) := cell_at hT0 rfl
 have qhT0_1 : w14.cell? ⟨w.heap.size, 1, none⟩ = some (.int .i64 r) := cell_at hT0 rfl
 have qhT0_2 : w14.cell? ⟨w.heap.size, 2, none⟩ = some (.slice A n cap) := cell_at hT0 rfl
 have qhT1_0 : w14.cell? ⟨w.heap.size + 1, 0, none⟩ = some (.int .i64 un) := cell_at hT1 rfl
 have qhT1_1 : w14.cell? ⟨w.heap.size + 1, 1, none⟩ = some (.int .i64 len) := cell_at hT1 rfl
 have qhT1_2 : w14.cell? ⟨w.heap.size + 1, 2, none⟩ = some (.int .i64 most) := cell_at hT1 rfl
 have qhT1_3 : w14.cell? ⟨w.heap.size + 1, 3, none⟩ = some (.slice P np capp) := cell_at hT1 rfl
 have qhT2_0 : w14.cell? ⟨w.heap.size + 1 + 1, 0, none⟩ = some (.slice D md cd) := cell_at hT2 rfl
 have qhT2_1 : w14.cell? ⟨w.heap.size + 1 + 1, 1, none⟩ = some (.slice E me ce) := cell_at hT2 rfl
 have qhT2_2 : w14.cell? ⟨w.heap.size + 1 + 1, 2, none⟩ = some (.slice M mk cm) := cell_at hT2 rfl
 have qhT2_3 : w14.cell? ⟨w.heap.size + 1 + 1, 3, none⟩ = some (.int .i64 s) := cell_at hT2 rfl
 have qhT2_4 : w14.cell? ⟨w.heap.size + 1 + 1, 4, none⟩ = some (.int .i64 f) := cell_at hT2 rfl
 have qhT2_5 : w14.cell? ⟨w.heap.size + 1 + 1, 5, none⟩ = some (.int .i64 i) := cell_at hT2 rfl
 go_wp2_with fail
 refine wp_region_plan [(0, true), (2, true), (4, true), (5, true), (7, true), (8, true), (1, false), (3, false), (6, false), (9, false), (10, false), (11, true), (12, true), (13, true), (14, true), (15, true)] w14.heap.size (by kernel_rfl) (by kernel_rfl) (Nat.le_refl _) (fun _ _ d _ _ h => by cases d <;> exact h) ?_
 have hC : Below w14.heap.size w14 w14 := Below.refl _ _
 have zhT0 : w.heap.size < w14.heap.size := (Array.getElem?_eq_some_iff.1 hT0).1
 have zhT1 : w.heap.size + 1 < w14.heap.size := (Array.getElem?_eq_some_iff.1 hT1).1
 have zhT2 : w.heap.size + 1 + 1 < w14.heap.size := (Array.getElem?_eq_some_iff.1 hT2).1
 repeat (first | (refine wpPlanA_skip _ rfl (by rfl) ?_; simp only [Act.put, List.setIfInBounds_toArray, List.set_cons_zero, List.set_cons_succ]) | (refine wpPlanA_soft _ ?_ rfl (by rfl) ?_ ?_; rotate_left; (intro wq hq hcq; go_simp; first | exact rfl | exact ⟨rfl, rfl⟩); simp only [Act.put, List.setIfInBounds_toArray, List.set_cons_zero, List.set_cons_succ]))
 refine wpPlanA_hard _ rfl (by rfl) (fun w15 hS K hK => ?_)
 go_simp
 refine (c20d c r A n cap l _ hl (H.below hS)).mono ?_
 rintro e w16 ⟨B5, cb5, rfl, hr5, hb⟩
 replace hS := hS.call hb rfl
 have hB16 := hB14.call hS rfl
 replace hC := hC.call hS rfl
 replace hT0 := blkb hT0 hS
 replace hT1 := blkb hT1 hS
 replace hT2 := blkb hT2 hS
 replace H := H.below hS
 replace HP := HP.below hS
 replace HD := HD.below hS
 replace HE := HE.below hS
 replace HM := HM.below hS
 replace hst := hst.below hS
 refine hK _ _ hC ?_
 clear hS hb hB14 hK K
 try simp only [Act.put, List.setIfInBounds_toArray, List.set_cons_zero, List.set_cons_succ]
 refine wpPlanA_hard _ rfl (by rfl) (fun w17 hS K hK => ?_)
 go_simp
 refine (c21d un len most P np capp ps _ hp (HP.below hS)).mono ?_
 rintro e w18 ⟨P6, pc6, rfl, ⟨hp6, hq6⟩, hb⟩
 replace hS := hS.call hb rfl
 have hB18 := hB16.call hS rfl
 replace hC := hC.call hS rfl
 replace hT0 := blkb hT0 hS
 replace hT1 := blkb hT1 hS
 replace hT2 := blkb hT2 hS
 replace H := H.below hS
 replace HP := HP.below hS
 replace HD := HD.below hS
 replace HE := HE.below hS
 replace HM := HM.below hS
 replace hst := hst.below hS
 replace hr5 := hr5.below hS
 refine hK _ _ hC ?_
 clear hS hb hB16 hK K
 try simp only [Act.put, List.setIfInBounds_toArray, List.set_cons_zero, List.set_cons_succ]
 refine wpPlanA_hard _ rfl (by rfl) (fun w19 hS K hK => ?_)
 go_simp
 refine (c33t D md cd dl _ hd17 HD45.out (HD.below hS)).mono ?_
 rintro e w20 ⟨F7, fc7, rfl, he7, hb⟩
 replace hS := hS.call hb rfl
 have hB20 := hB18.call hS rfl
 replace hC := hC.call hS rfl
 replace hT0 := blkb hT0 hS
 replace hT1 := blkb hT1 hS
 replace hT2 := blkb hT2 hS
 replace H := H.below hS
 replace HP := HP.below hS
 replace HD := HD.below hS
 replace HE := HE.below hS
 replace HM := HM.below hS
 replace hst := hst.below hS
 replace hr5 := hr5.below hS
 replace hp6 := hp6.below hS
 refine hK _ _ hC ?_
 clear hS hb hB18 hK K
 try simp only [Act.put, List.setIfInBounds_toArray, List.set_cons_zero, List.set_cons_succ]
 refine wpPlanA_hard _ rfl (by rfl) (fun w21 hS K hK => ?_)
 go_simp
 refine (c33t E me ce el _ he17 HE45.out (HE.below hS)).mono ?_
 rintro e w22 ⟨F8, fc8, rfl, he8, hb⟩
 replace hS := hS.call hb rfl
 have hB22 := hB20.call hS rfl
 replace hC := hC.call hS rfl
 replace hT0 := blkb hT0 hS
 replace hT1 := blkb hT1 hS
 replace hT2 := blkb hT2 hS
 replace H := H.below hS
 replace HP := HP.below hS
 replace HD := HD.below hS
 replace HE := HE.below hS
 replace HM := HM.below hS
 replace hst := hst.below hS
 replace hr5 := hr5.below hS
 replace hp6 := hp6.below hS
 replace he7 := he7.below hS
 refine hK _ _ hC ?_
 clear hS hb hB20 hK K
 try simp only [Act.put, List.setIfInBounds_toArray, List.set_cons_zero, List.set_cons_succ]
 refine wpPlanA_hard _ rfl (by rfl) (fun w23 hS K hK => ?_)
 go_simp
 refine (K34.out _ _ _ _ _ _ _ 0 _ _ _ hq6 (hst.below hS) (hr5.below hS) (hp6.below hS) (HM.below hS) (he7.below hS) (he8.below hS)).mono ?_
 rintro e w24 ⟨rfl, hb⟩
 replace hS := hS.call hb rfl
 have hB24 := hB22.call hS rfl
 replace hC := hC.call hS rfl
 replace hT0 := blkb hT0 hS
 replace hT1 := blkb hT1 hS
 replace hT2 := blkb hT2 hS
 replace H := H.below hS
 replace HP := HP.below hS
 replace HD := HD.below hS
 replace HE := HE.below hS
 replace HM := HM.below hS
 replace hst := hst.below hS
 replace hr5 := hr5.below hS
 replace hp6 := hp6.below hS
 replace he7 := he7.below hS
 replace he8 := he8.below hS
 refine hK _ _ hC ?_
 clear hS hb hB22 hK K
 try simp only [Act.put, List.setIfInBounds_toArray, List.set_cons_zero, List.set_cons_succ]
 repeat (first | (refine wpPlanA_skip _ rfl (by rfl) ?_; simp only [Act.put, List.setIfInBounds_toArray, List.set_cons_zero, List.set_cons_succ]) | (refine wpPlanA_soft _ ?_ rfl (by rfl) ?_ ?_; rotate_left; (intro wq hq hcq; go_simp; first | exact rfl | exact ⟨rfl, rfl⟩); simp only [Act.put, List.setIfInBounds_toArray, List.set_cons_zero, List.set_cons_succ]))
 clear hr5
 clear hp6
 clear he7
 clear he8
 clear qhT0_0 qhT0_1 qhT0_2 qhT1_0 qhT1_1 qhT1_2 qhT1_3 qhT2_0 qhT2_1 qhT2_2 qhT2_3 qhT2_4 qhT2_5
 refine wpPlanA_nil (fun w25 hS => ?_)
 clear hC zhT0 zhT1 zhT2
 have hB25 := hB24.call hS rfl
 replace hT0 := blkb hT0 hS
 replace hT1 := blkb hT1 hS
 replace hT2 := blkb hT2 hS
 replace H := H.below hS
 replace HP := HP.below hS
 replace HD := HD.below hS
 replace HE := HE.below hS
 replace HM := HM.below hS
 replace hst := hst.below hS
 clear hS hB24
 have qhT0_0 : w25.cell? ⟨w.heap.size, 0, none⟩ = some (.int .i64 c) := cell_at hT0 rfl
 have qhT0_1 : w25.cell? ⟨w.heap.size, 1, none⟩ = some (.int .i64 r) := cell_at hT0 rfl
 have qhT0_2 : w25.cell? ⟨w.heap.size, 2, none⟩ = some (.slice A n cap) := cell_at hT0 rfl
 have qhT1_0 : w25.cell? ⟨w.heap.size + 1, 0, none⟩ = some (.int .i64 un) := cell_at hT1 rfl
 have qhT1_1 : w25.cell? ⟨w.heap.size + 1, 1, none⟩ = some (.int .i64 len) := cell_at hT1 rfl
 have qhT1_2 : w25.cell? ⟨w.heap.size + 1, 2, none⟩ = some (.int .i64 most) := cell_at hT1 rfl
 have qhT1_3 : w25.cell? ⟨w.heap.size + 1, 3, none⟩ = some (.slice P np capp) := cell_at hT1 rfl
 have qhT2_0 : w25.cell? ⟨w.heap.size + 1 + 1, 0, none⟩ = some (.slice D md cd) := cell_at hT2 rfl
 have qhT2_1 : w25.cell? ⟨w.heap.size + 1 + 1, 1, none⟩ = some (.slice E me ce) := cell_at hT2 rfl
 have qhT2_2 : w25.cell? ⟨w.heap.size + 1 + 1, 2, none⟩ = some (.slice M mk cm) := cell_at hT2 rfl
 have qhT2_3 : w25.cell? ⟨w.heap.size + 1 + 1, 3, none⟩ = some (.int .i64 s) := cell_at hT2 rfl
 have qhT2_4 : w25.cell? ⟨w.heap.size + 1 + 1, 4, none⟩ = some (.int .i64 f) := cell_at hT2 rfl
 have qhT2_5 : w25.cell? ⟨w.heap.size + 1 + 1, 5, none⟩ = some (.int .i64 i) := cell_at hT2 rfl
 go_wp2_with fail
 refine wp_region_planF (Φ := Fresh w25.heap.size #[.int .i64 0, .int .i64 0] 61) [(0, 1), (2, 1), (4, 1), (5, 1), (7, 1), (8, 1), (1, 0), (3, 0), (6, 0), (9, 0), (10, 1), (11, 1), (12, 1), (13, 2), (14, 3), (15, 1)] 13 w25.heap.size _ rfl (by kernel_rfl) (by kernel_rfl) (Nat.le_refl _) (fun _ _ d _ _ h => by cases d <;> exact h) (fun _ _ d _ _ h => by cases d <;> exact h) (fun v w w' hv hb => hv.below hb) ?hF ?_
 case hF =>
  intro a wq hq
  refine ⟨rfl, ?_⟩
  have hsz := hq.size
  go_simp
  exact ⟨_, rfl, ⟨_, rfl, hsz, heap_new rfl⟩, (Below.refl _ _).alloc (Nat.le_refl _) _⟩
 have hC : Below w25.heap.size w25 w25 := Below.refl _ _
 have hBr := hB25
 have zhT0 : w.heap.size < w25.heap.size := (Array.getElem?_eq_some_iff.1 hT0).1
 have zhT1 : w.heap.size + 1 < w25.heap.size := (Array.getElem?_eq_some_iff.1 hT1).1
 have zhT2 : w.heap.size + 1 + 1 < w25.heap.size := (Array.getElem?_eq_some_iff.1 hT2).1
 have hT00 := hT0
 have hT10 := hT1
 have hT20 := hT2
 have H0 := H
 have HP0 := HP
 have HD0 := HD
 have HE0 := HE
 have HM0 := HM
 have hst0 := hst
 repeat (first | (refine wpPlanFA_skip _ rfl (by rfl) ?_; simp only [Act.put, List.setIfInBounds_toArray, List.set_cons_zero, List.set_cons_succ]) | (refine wpPlanFA_soft _ ?_ rfl (by rfl) ?_ ?_; rotate_left; (intro wq hq hcq; go_simp; first | exact rfl | exact ⟨rfl, rfl⟩); simp only [Act.put, List.setIfInBounds_toArray, List.set_cons_zero, List.set_cons_succ]))
 refine wpPlanFA_hard _ rfl (by rfl) (fun w26 hS K hK => ?_)
 have hB26 := hB25.call hS rfl
 replace hC := hC.call hS rfl
 replace hT0 := blkb hT0 hS
 replace hT1 := blkb hT1 hS
 replace hT2 := blkb hT2 hS
 replace H := H.below hS
 replace HP := HP.below hS
 replace HD := HD.below hS
 replace HE := HE.below hS
 replace HM := HM.below hS
 replace hst := hst.below hS
 clear hS hB25
 go_simp
 refine (c20d c r A n cap l _ hl H).mono ?_
 rintro e w27 ⟨B9, cb9, rfl, hr9, hb⟩
 have hB27 := hB26.call hb rfl
 replace hC := hC.call hb rfl
 replace hT0 := blkb hT0 hb
 replace hT1 := blkb hT1 hb
 replace hT2 := blkb hT2 hb
 replace H := H.below hb
 replace HP := HP.below hb
 replace HD := HD.below hb
 replace HE := HE.below hb
 replace HM := HM.below hb
 replace hst := hst.below hb
 refine hK _ _ hC hb ?_
 clear hK K hb hB26
 try simp only [Act.put, List.setIfInBounds_toArray, List.set_cons_zero, List.set_cons_succ]
 refine wpPlanFA_hard _ rfl (by rfl) (fun w28 hS K hK => ?_)
 have hB28 := hB27.call hS rfl
 replace hC := hC.call hS rfl
 replace hT0 := blkb hT0 hS
 replace hT1 := blkb hT1 hS
 replace hT2 := blkb hT2 hS
 replace H := H.below hS
 replace HP := HP.below hS
 replace HD := HD.below hS
 replace HE := HE.below hS
 replace HM := HM.below hS
 replace hst := hst.below hS
 replace hr9 := hr9.below hS
 clear hS hB27
 go_simp
 refine (c21d un len most P np capp ps _ hp HP).mono ?_
 rintro e w29 ⟨P10, pc10, rfl, ⟨hp10, hq10⟩, hb⟩
 have hB29 := hB28.call hb rfl
 replace hC := hC.call hb rfl
 replace hT0 := blkb hT0 hb
 replace hT1 := blkb hT1 hb
 replace hT2 := blkb hT2 hb
 replace H := H.below hb
 replace HP := HP.below hb
 replace HD := HD.below hb
 replace HE := HE.below hb
 replace HM := HM.below hb
 replace hst := hst.below hb
 replace hr9 := hr9.below hb
 refine hK _ _ hC hb ?_
 clear hK K hb hB28
 try simp only [Act.put, List.setIfInBounds_toArray, List.set_cons_zero, List.set_cons_succ]
 refine wpPlanFA_hard _ rfl (by rfl) (fun w30 hS K hK => ?_)
 have hB30 := hB29.call hS rfl
 replace hC := hC.call hS rfl
 replace hT0 := blkb hT0 hS
 replace hT1 := blkb hT1 hS
 replace hT2 := blkb hT2 hS
 replace H := H.below hS
 replace HP := HP.below hS
 replace HD := HD.below hS
 replace HE := HE.below hS
 replace HM := HM.below hS
 replace hst := hst.below hS
 replace hr9 := hr9.below hS
 replace hp10 := hp10.below hS
 clear hS hB29
 go_simp
 refine (c33t D md cd dl _ hd17 HD45.out HD).mono ?_
 rintro e w31 ⟨F11, fc11, rfl, he11, hb⟩
 have hB31 := hB30.call hb rfl
 replace hC := hC.call hb rfl
 replace hT0 := blkb hT0 hb
 replace hT1 := blkb hT1 hb
 replace hT2 := blkb hT2 hb
 replace H := H.below hb
 replace HP := HP.below hb
 replace HD := HD.below hb
 replace HE := HE.below hb
 replace HM := HM.below hb
 replace hst := hst.below hb
 replace hr9 := hr9.below hb
 replace hp10 := hp10.below hb
 refine hK _ _ hC hb ?_
 clear hK K hb hB30
 try simp only [Act.put, List.setIfInBounds_toArray, List.set_cons_zero, List.set_cons_succ]
 refine wpPlanFA_hard _ rfl (by rfl) (fun w32 hS K hK => ?_)
 have hB32 := hB31.call hS rfl
 replace hC := hC.call hS rfl
 replace hT0 := blkb hT0 hS
 replace hT1 := blkb hT1 hS
 replace hT2 := blkb hT2 hS
 replace H := H.below hS
 replace HP := HP.below hS
 replace HD := HD.below hS
 replace HE := HE.below hS
 replace HM := HM.below hS
 replace hst := hst.below hS
 replace hr9 := hr9.below hS
 replace hp10 := hp10.below hS
 replace he11 := he11.below hS
 clear hS hB31
 go_simp
 refine (K35.out _ _ _ _ _ _ _ 0 _ 0 _ hq10 hst hr9 hp10 HM he11 HE).mono ?_
 rintro e w33 ⟨rfl, hb⟩
 have hB33 := hB32.call hb rfl
 replace hC := hC.call hb rfl
 replace hT0 := blkb hT0 hb
 replace hT1 := blkb hT1 hb
 replace hT2 := blkb hT2 hb
 replace H := H.below hb
 replace HP := HP.below hb
 replace HD := HD.below hb
 replace HE := HE.below hb
 replace HM := HM.below hb
 replace hst := hst.below hb
 replace hr9 := hr9.below hb
 replace hp10 := hp10.below hb
 replace he11 := he11.below hb
 refine hK _ _ hC hb ?_
 clear hK K hb hB32
 try simp only [Act.put, List.setIfInBounds_toArray, List.set_cons_zero, List.set_cons_succ]
 repeat (first | (refine wpPlanFA_skip _ rfl (by rfl) ?_; simp only [Act.put, List.setIfInBounds_toArray, List.set_cons_zero, List.set_cons_succ]) | (refine wpPlanFA_soft _ ?_ rfl (by rfl) ?_ ?_; rotate_left; (intro wq hq hcq; go_simp; first | exact rfl | exact ⟨rfl, rfl⟩); simp only [Act.put, List.setIfInBounds_toArray, List.set_cons_zero, List.set_cons_succ]))
 clear hr9
 clear hp10
 clear he11
 refine wpPlanFA_float _ rfl (fun v w34 hS hv => ?_)
 obtain ⟨bhAm, rfl, hge, hAm⟩ := hv
 have hB34 := hB33.call hS rfl
 replace hC := hC.call hS rfl
 replace hT0 := blkb hT0 hS
 replace hT1 := blkb hT1 hS
 replace hT2 := blkb hT2 hS
 replace H := H.below hS
 replace HP := HP.below hS
 replace HD := HD.below hS
 replace HE := HE.below hS
 replace HM := HM.below hS
 replace hst := hst.below hS
 clear hS hB33
 try simp only [Act.put, List.setIfInBounds_toArray, List.set_cons_zero, List.set_cons_succ]
 refine wpPlanFA_late _ rfl (by rfl) (fun w35 hS K hK => ?_)
 replace hC := hC.call hS rfl
 replace hAm := blkb hAm hS
 clear hS hB34 hT0 hT1 hT2 H HP HD HE HM hst
 refine wp_store_blk 61 _ _ rfl bhAm _ rfl rfl hAm ?s1 ?s2 ?s3 ?_
 case s1 => rfl
 case s2 => kernel_rfl
 case s3 => simp [Value.oneCell']
 intro w36 hAmn hg3 hs3
 replace hC : Below w25.heap.size w25 w36 := hC.grown hg3 hC.size (fun j hj => by cases hj; exact hge)
 refine hK _ _ hC ?_
 clear hK K hAm hg3 hs3
 have hAm := hAmn
 clear hAmn
 have hB36 := hBr.call hC rfl
 have hT0 := blkb hT00 hC
 have hT1 := blkb hT10 hC
 have hT2 := blkb hT20 hC
 have H := H0.below hC
 have HP := HP0.below hC
 have HD := HD0.below hC
 have HE := HE0.below hC
 have HM := HM0.below hC
 have hst := hst0.below hC
 try simp only [Act.put, List.setIfInBounds_toArray, List.set_cons_zero, List.set_cons_succ]
 repeat (first | (refine wpPlanFA_skip _ rfl (by rfl) ?_; simp only [Act.put, List.setIfInBounds_toArray, List.set_cons_zero, List.set_cons_succ]) | (refine wpPlanFA_soft _ ?_ rfl (by rfl) ?_ ?_; rotate_left; (intro wq hq hcq; go_simp; first | exact rfl | exact ⟨rfl, rfl⟩); simp only [Act.put, List.setIfInBounds_toArray, List.set_cons_zero, List.set_cons_succ]))
 clear qhT0_0 qhT0_1 qhT0_2 qhT1_0 qhT1_1 qhT1_2 qhT1_3 qhT2_0 qhT2_1 qhT2_2 qhT2_3 qhT2_4 qhT2_5
 refine wpPlanFA_nil (fun w37 hS => ?_)
 clear hC hge hBr zhT0 zhT1 zhT2 hT00 hT10 hT20 H0 HP0 HD0 HE0 HM0 hst0
 have hB37 := hB36.call hS rfl
 replace hT0 := blkb hT0 hS
 replace hT1 := blkb hT1 hS
 replace hT2 := blkb hT2 hS
 replace H := H.below hS
 replace HP := HP.below hS
 replace HD := HD.below hS
 replace HE := HE.below hS
 replace HM := HM.below hS
 replace hst := hst.below hS
 replace hAm := blkb hAm hS
 clear hS hB36
 have qhT0_0 : w37.cell? ⟨w.heap.size, 0, none⟩ = some (.int .i64 c) := cell_at hT0 rfl
 have qhT0_1 : w37.cell? ⟨w.heap.size, 1, none⟩ = some (.int .i64 r) := cell_at hT0 rfl
 have qhT0_2 : w37.cell? ⟨w.heap.size, 2, none⟩ = some (.slice A n cap) := cell_at hT0 rfl
 have qhT1_0 : w37.cell? ⟨w.heap.size + 1, 0, none⟩ = some (.int .i64 un) := cell_at hT1 rfl
 have qhT1_1 : w37.cell? ⟨w.heap.size + 1, 1, none⟩ = some (.int .i64 len) := cell_at hT1 rfl
 have qhT1_2 : w37.cell? ⟨w.heap.size + 1, 2, none⟩ = some (.int .i64 most) := cell_at hT1 rfl
 have qhT1_3 : w37.cell? ⟨w.heap.size + 1, 3, none⟩ = some (.slice P np capp) := cell_at hT1 rfl
 have qhT2_0 : w37.cell? ⟨w.heap.size + 1 + 1, 0, none⟩ = some (.slice D md cd) := cell_at hT2 rfl
 have qhT2_1 : w37.cell? ⟨w.heap.size + 1 + 1, 1, none⟩ = some (.slice E me ce) := cell_at hT2 rfl
 have qhT2_2 : w37.cell? ⟨w.heap.size + 1 + 1, 2, none⟩ = some (.slice M mk cm) := cell_at hT2 rfl
 have qhT2_3 : w37.cell? ⟨w.heap.size + 1 + 1, 3, none⟩ = some (.int .i64 s) := cell_at hT2 rfl
 have qhT2_4 : w37.cell? ⟨w.heap.size + 1 + 1, 4, none⟩ = some (.int .i64 f) := cell_at hT2 rfl
 have qhT2_5 : w37.cell? ⟨w.heap.size + 1 + 1, 5, none⟩ = some (.int .i64 i) := cell_at hT2 rfl
 go_wp2_with fail
 refine (K36.out _ _ _ _ _ _ _ _ _ 0 _ H HP HM HD HE).mono ?_
 rintro e w38 ⟨rfl, hb⟩
 clear qhT0_0 qhT0_1 qhT0_2 qhT1_0 qhT1_1 qhT1_2 qhT1_3 qhT2_0 qhT2_1 qhT2_2 qhT2_3 qhT2_4 qhT2_5
 have hS := hb
 have hB38 := hB37.call hS rfl
 replace hT0 := blkb hT0 hS
 replace hT1 := blkb hT1 hS
 replace hT2 := blkb hT2 hS
 replace H := H.below hS
 replace HP := HP.below hS
 replace HD := HD.below hS
 replace HE := HE.below hS
 replace HM := HM.below hS
 replace hst := hst.below hS
 replace hAm := blkb hAm hS
 clear hS hB37
 have qhT0_0 : w38.cell? ⟨w.heap.size, 0, none⟩ = some (.int .i64 c) := cell_at hT0 rfl
 have qhT0_1 : w38.cell? ⟨w.heap.size, 1, none⟩ = some (.int .i64 r) := cell_at hT0 rfl
 have qhT0_2 : w38.cell? ⟨w.heap.size, 2, none⟩ = some (.slice A n cap) := cell_at hT0 rfl
 have qhT1_0 : w38.cell? ⟨w.heap.size + 1, 0, none⟩ = some (.int .i64 un) := cell_at hT1 rfl
 have qhT1_1 : w38.cell? ⟨w.heap.size + 1, 1, none⟩ = some (.int .i64 len) := cell_at hT1 rfl
 have qhT1_2 : w38.cell? ⟨w.heap.size + 1, 2, none⟩ = some (.int .i64 most) := cell_at hT1 rfl
 have qhT1_3 : w38.cell? ⟨w.heap.size + 1, 3, none⟩ = some (.slice P np capp) := cell_at hT1 rfl
 have qhT2_0 : w38.cell? ⟨w.heap.size + 1 + 1, 0, none⟩ = some (.slice D md cd) := cell_at hT2 rfl
 have qhT2_1 : w38.cell? ⟨w.heap.size + 1 + 1, 1, none⟩ = some (.slice E me ce) := cell_at hT2 rfl
 have qhT2_2 : w38.cell? ⟨w.heap.size + 1 + 1, 2, none⟩ = some (.slice M mk cm) := cell_at hT2 rfl
 have qhT2_3 : w38.cell? ⟨w.heap.size + 1 + 1, 3, none⟩ = some (.int .i64 s) := cell_at hT2 rfl
 have qhT2_4 : w38.cell? ⟨w.heap.size + 1 + 1, 4, none⟩ = some (.int .i64 f) := cell_at hT2 rfl
 have qhT2_5 : w38.cell? ⟨w.heap.size + 1 + 1, 5, none⟩ = some (.int .i64 i) := cell_at hT2 rfl
 clear hb
 by_cases hE1 : E1 = 0
 rotate_left
 focus
   have hef : (E1 == 0) = false := by simpa using hE1
   obtain rfl := HZ1.out hE1
   clear hE1
   go_wp2_with fail
   clear qhT0_0 qhT0_1 qhT0_2 qhT1_0 qhT1_1 qhT1_2 qhT1_3 qhT2_0 qhT2_1 qhT2_2 qhT2_3 qhT2_4 qhT2_5
   obtain ⟨wM1, hwM⟩ : ∃ W, W = w38 := ⟨_, rfl⟩
   subst hwM
   have hBM1 := hB38
   clear hB38
 rotate_left
 focus
   subst hE1
   go_wp2_with fail
   refine (K37.out (by first | rfl | trivial) _ _ _ _ _ _ _ _ _ 0 _ H HP HM HD HE).mono ?_
   rintro e w39 ⟨rfl, hb⟩
   clear qhT0_0 qhT0_1 qhT0_2 qhT1_0 qhT1_1 qhT1_2 qhT1_3 qhT2_0 qhT2_1 qhT2_2 qhT2_3 qhT2_4 qhT2_5
   have hS := hb
   have hB39 := hB38.call hS rfl
   replace hT0 := blkb hT0 hS
   replace hT1 := blkb hT1 hS
   replace hT2 := blkb hT2 hS
   replace H := H.below hS
   replace HP := HP.below hS
   replace HD := HD.below hS
   replace HE := HE.below hS
   replace HM := HM.below hS
   replace hst := hst.below hS
   replace hAm := blkb hAm hS
   clear hS hB38
   have qhT0_0 : w39.cell? ⟨w.heap.size, 0, none⟩ = some (.int .i64 c) := cell_at hT0 rfl
   have qhT0_1 : w39.cell? ⟨w.heap.size, 1, none⟩ = some (.int .i64 r) := cell_at hT0 rfl
   have qhT0_2 : w39.cell? ⟨w.heap.size, 2, none⟩ = some (.slice A n cap) := cell_at hT0 rfl
   have qhT1_0 : w39.cell? ⟨w.heap.size + 1, 0, none⟩ = some (.int .i64 un) := cell_at hT1 rfl
   have qhT1_1 : w39.cell? ⟨w.heap.size + 1, 1, none⟩ = some (.int .i64 len) := cell_at hT1 rfl
   have qhT1_2 : w39.cell? ⟨w.heap.size + 1, 2, none⟩ = some (.int .i64 most) := cell_at hT1 rfl
   have qhT1_3 : w39.cell? ⟨w.heap.size + 1, 3, none⟩ = some (.slice P np capp) := cell_at hT1 rfl
   have qhT2_0 : w39.cell? ⟨w.heap.size + 1 + 1, 0, none⟩ = some (.slice D md cd) := cell_at hT2 rfl
   have qhT2_1 : w39.cell? ⟨w.heap.size + 1 + 1, 1, none⟩ = some (.slice E me ce) := cell_at hT2 rfl
   have qhT2_2 : w39.cell? ⟨w.heap.size + 1 + 1, 2, none⟩ = some (.slice M mk cm) := cell_at hT2 rfl
   have qhT2_3 : w39.cell? ⟨w.heap.size + 1 + 1, 3, none⟩ = some (.int .i64 s) := cell_at hT2 rfl
   have qhT2_4 : w39.cell? ⟨w.heap.size + 1 + 1, 4, none⟩ = some (.int .i64 f) := cell_at hT2 rfl
   have qhT2_5 : w39.cell? ⟨w.heap.size + 1 + 1, 5, none⟩ = some (.int .i64 i) := cell_at hT2 rfl
   clear hb
   go_wp2_with fail
   clear qhT0_0 qhT0_1 qhT0_2 qhT1_0 qhT1_1 qhT1_2 qhT1_3 qhT2_0 qhT2_1 qhT2_2 qhT2_3 qhT2_4 qhT2_5
   obtain ⟨wM1, hwM⟩ : ∃ W, W = w39 := ⟨_, rfl⟩
   subst hwM
   have hBM1 := hB39
   clear hB39
 all_goals
  obtain ⟨w100, hww⟩ : ∃ W, W = wM1 := ⟨_, rfl⟩
  subst hww
  have hB100 := hBM1
  clear hBM1
  have qhT0_0 : w100.cell? ⟨w.heap.size, 0, none⟩ = some (.int .i64 c) := cell_at hT0 rfl
  have qhT0_1 : w100.cell? ⟨w.heap.size, 1, none⟩ = some (.int .i64 r) := cell_at hT0 rfl
  have qhT0_2 : w100.cell? ⟨w.heap.size, 2, none⟩ = some (.slice A n cap) := cell_at hT0 rfl
  have qhT1_0 : w100.cell? ⟨w.heap.size + 1, 0, none⟩ = some (.int .i64 un) := cell_at hT1 rfl
  have qhT1_1 : w100.cell? ⟨w.heap.size + 1, 1, none⟩ = some (.int .i64 len) := cell_at hT1 rfl
  have qhT1_2 : w100.cell? ⟨w.heap.size + 1, 2, none⟩ = some (.int .i64 most) := cell_at hT1 rfl
  have qhT1_3 : w100.cell? ⟨w.heap.size + 1, 3, none⟩ = some (.slice P np capp) := cell_at hT1 rfl
  have qhT2_0 : w100.cell? ⟨w.heap.size + 1 + 1, 0, none⟩ = some (.slice D md cd) := cell_at hT2 rfl
  have qhT2_1 : w100.cell? ⟨w.heap.size + 1 + 1, 1, none⟩ = some (.slice E me ce) := cell_at hT2 rfl
  have qhT2_2 : w100.cell? ⟨w.heap.size + 1 + 1, 2, none⟩ = some (.slice M mk cm) := cell_at hT2 rfl
  have qhT2_3 : w100.cell? ⟨w.heap.size + 1 + 1, 3, none⟩ = some (.int .i64 s) := cell_at hT2 rfl
  have qhT2_4 : w100.cell? ⟨w.heap.size + 1 + 1, 4, none⟩ = some (.int .i64 f) := cell_at hT2 rfl
  have qhT2_5 : w100.cell? ⟨w.heap.size + 1 + 1, 5, none⟩ = some (.int .i64 i) := cell_at hT2 rfl
  have qhAm_0 : w100.cell? ⟨bhAm, 0, none⟩ = some (.int .i64 NU) := cell_at hAm rfl
  have qhAm_1 : w100.cell? ⟨bhAm, 1, none⟩ = some (.int .i64 DE) := cell_at hAm rfl
  go_wp2_with fail
  refine (K38.out _ _ _ _ _ _ _ 0 _ _ _ H HP HM HD HE).mono ?_
  rintro e w101 ⟨rfl, hb⟩
  clear qhT0_0 qhT0_1 qhT0_2 qhT1_0 qhT1_1 qhT1_2 qhT1_3 qhT2_0 qhT2_1 qhT2_2 qhT2_3 qhT2_4 qhT2_5 qhAm_0 qhAm_1
  have hS := hb
  have hB101 := hB100.call hS rfl
  replace hT0 := blkb hT0 hS
  replace hT1 := blkb hT1 hS
  replace hT2 := blkb hT2 hS
  replace H := H.below hS
  replace HP := HP.below hS
  replace HD := HD.below hS
  replace HE := HE.below hS
  replace HM := HM.below hS
  replace hst := hst.below hS
  replace hAm := blkb hAm hS
  clear hS hB100
  have qhT0_0 : w101.cell? ⟨w.heap.size, 0, none⟩ = some (.int .i64 c) := cell_at hT0 rfl
  have qhT0_1 : w101.cell? ⟨w.heap.size, 1, none⟩ = some (.int .i64 r) := cell_at hT0 rfl
  have qhT0_2 : w101.cell? ⟨w.heap.size, 2, none⟩ = some (.slice A n cap) := cell_at hT0 rfl
  have qhT1_0 : w101.cell? ⟨w.heap.size + 1, 0, none⟩ = some (.int .i64 un) := cell_at hT1 rfl
  have qhT1_1 : w101.cell? ⟨w.heap.size + 1, 1, none⟩ = some (.int .i64 len) := cell_at hT1 rfl
  have qhT1_2 : w101.cell? ⟨w.heap.size + 1, 2, none⟩ = some (.int .i64 most) := cell_at hT1 rfl
  have qhT1_3 : w101.cell? ⟨w.heap.size + 1, 3, none⟩ = some (.slice P np capp) := cell_at hT1 rfl
  have qhT2_0 : w101.cell? ⟨w.heap.size + 1 + 1, 0, none⟩ = some (.slice D md cd) := cell_at hT2 rfl
  have qhT2_1 : w101.cell? ⟨w.heap.size + 1 + 1, 1, none⟩ = some (.slice E me ce) := cell_at hT2 rfl
  have qhT2_2 : w101.cell? ⟨w.heap.size + 1 + 1, 2, none⟩ = some (.slice M mk cm) := cell_at hT2 rfl
  have qhT2_3 : w101.cell? ⟨w.heap.size + 1 + 1, 3, none⟩ = some (.int .i64 s) := cell_at hT2 rfl
  have qhT2_4 : w101.cell? ⟨w.heap.size + 1 + 1, 4, none⟩ = some (.int .i64 f) := cell_at hT2 rfl
  have qhT2_5 : w101.cell? ⟨w.heap.size + 1 + 1, 5, none⟩ = some (.int .i64 i) := cell_at hT2 rfl
  have qhAm_0 : w101.cell? ⟨bhAm, 0, none⟩ = some (.int .i64 NU) := cell_at hAm rfl
  have qhAm_1 : w101.cell? ⟨bhAm, 1, none⟩ = some (.int .i64 DE) := cell_at hAm rfl
  clear hb
  go_wp2_with fail
  refine (K39.out _ _ _ _ _ _ _ 0 _ 0 _ H HP HM HD HE).mono ?_
  rintro e w102 ⟨rfl, hb⟩
  clear qhT0_0 qhT0_1 qhT0_2 qhT1_0 qhT1_1 qhT1_2 qhT1_3 qhT2_0 qhT2_1 qhT2_2 qhT2_3 qhT2_4 qhT2_5 qhAm_0 qhAm_1
  have hS := hb
  have hB102 := hB101.call hS rfl
  replace hT0 := blkb hT0 hS
  replace hT1 := blkb hT1 hS
  replace hT2 := blkb hT2 hS
  replace H := H.below hS
  replace HP := HP.below hS
  replace HD := HD.below hS
  replace HE := HE.below hS
  replace HM := HM.below hS
  replace hst := hst.below hS
  replace hAm := blkb hAm hS
  clear hS hB101
  have qhT0_0 : w102.cell? ⟨w.heap.size, 0, none⟩ = some (.int .i64 c) := cell_at hT0 rfl
  have qhT0_1 : w102.cell? ⟨w.heap.size, 1, none⟩ = some (.int .i64 r) := cell_at hT0 rfl
  have qhT0_2 : w102.cell? ⟨w.heap.size, 2, none⟩ = some (.slice A n cap) := cell_at hT0 rfl
  have qhT1_0 : w102.cell? ⟨w.heap.size + 1, 0, none⟩ = some (.int .i64 un) := cell_at hT1 rfl
  have qhT1_1 : w102.cell? ⟨w.heap.size + 1, 1, none⟩ = some (.int .i64 len) := cell_at hT1 rfl
  have qhT1_2 : w102.cell? ⟨w.heap.size + 1, 2, none⟩ = some (.int .i64 most) := cell_at hT1 rfl
  have qhT1_3 : w102.cell? ⟨w.heap.size + 1, 3, none⟩ = some (.slice P np capp) := cell_at hT1 rfl
  have qhT2_0 : w102.cell? ⟨w.heap.size + 1 + 1, 0, none⟩ = some (.slice D md cd) := cell_at hT2 rfl
  have qhT2_1 : w102.cell? ⟨w.heap.size + 1 + 1, 1, none⟩ = some (.slice E me ce) := cell_at hT2 rfl
  have qhT2_2 : w102.cell? ⟨w.heap.size + 1 + 1, 2, none⟩ = some (.slice M mk cm) := cell_at hT2 rfl
  have qhT2_3 : w102.cell? ⟨w.heap.size + 1 + 1, 3, none⟩ = some (.int .i64 s) := cell_at hT2 rfl
  have qhT2_4 : w102.cell? ⟨w.heap.size + 1 + 1, 4, none⟩ = some (.int .i64 f) := cell_at hT2 rfl
  have qhT2_5 : w102.cell? ⟨w.heap.size + 1 + 1, 5, none⟩ = some (.int .i64 i) := cell_at hT2 rfl
  have qhAm_0 : w102.cell? ⟨bhAm, 0, none⟩ = some (.int .i64 NU) := cell_at hAm rfl
  have qhAm_1 : w102.cell? ⟨bhAm, 1, none⟩ = some (.int .i64 DE) := cell_at hAm rfl
  clear hb
  have zAm := cell_lt qhAm_0
  go_wp2_with fail
  refine (c18 _ (hst.below (bl2 _ _))).mono ?_
  rintro e w103 ⟨rfl, hb⟩
  clear qhT0_0 qhT0_1 qhT0_2 qhT1_0 qhT1_1 qhT1_2 qhT1_3 qhT2_0 qhT2_1 qhT2_2 qhT2_3 qhT2_4 qhT2_5 qhAm_0 qhAm_1
  have hS := ((Below.refl _ _).alloc (by first | exact Nat.le_refl _ | (simp <;> omega)) _).call hb rfl
  have hB103 := hB102.call hS rfl
  replace hT0 := blkb hT0 hS
  replace hT1 := blkb hT1 hS
  replace hT2 := blkb hT2 hS
  replace H := H.below hS
  replace HP := HP.below hS
  replace HD := HD.below hS
  replace HE := HE.below hS
  replace HM := HM.below hS
  replace hst := hst.below hS
  replace hAm := blkb hAm hS
  clear hS hB102
  have qhT0_0 : w103.cell? ⟨w.heap.size, 0, none⟩ = some (.int .i64 c) := cell_at hT0 rfl
  have qhT0_1 : w103.cell? ⟨w.heap.size, 1, none⟩ = some (.int .i64 r) := cell_at hT0 rfl
  have qhT0_2 : w103.cell? ⟨w.heap.size, 2, none⟩ = some (.slice A n cap) := cell_at hT0 rfl
  have qhT1_0 : w103.cell? ⟨w.heap.size + 1, 0, none⟩ = some (.int .i64 un) := cell_at hT1 rfl
  have qhT1_1 : w103.cell? ⟨w.heap.size + 1, 1, none⟩ = some (.int .i64 len) := cell_at hT1 rfl
  have qhT1_2 : w103.cell? ⟨w.heap.size + 1, 2, none⟩ = some (.int .i64 most) := cell_at hT1 rfl
  have qhT1_3 : w103.cell? ⟨w.heap.size + 1, 3, none⟩ = some (.slice P np capp) := cell_at hT1 rfl
  have qhT2_0 : w103.cell? ⟨w.heap.size + 1 + 1, 0, none⟩ = some (.slice D md cd) := cell_at hT2 rfl
  have qhT2_1 : w103.cell? ⟨w.heap.size + 1 + 1, 1, none⟩ = some (.slice E me ce) := cell_at hT2 rfl
  have qhT2_2 : w103.cell? ⟨w.heap.size + 1 + 1, 2, none⟩ = some (.slice M mk cm) := cell_at hT2 rfl
  have qhT2_3 : w103.cell? ⟨w.heap.size + 1 + 1, 3, none⟩ = some (.int .i64 s) := cell_at hT2 rfl
  have qhT2_4 : w103.cell? ⟨w.heap.size + 1 + 1, 4, none⟩ = some (.int .i64 f) := cell_at hT2 rfl
  have qhT2_5 : w103.cell? ⟨w.heap.size + 1 + 1, 5, none⟩ = some (.int .i64 i) := cell_at hT2 rfl
  have qhAm_0 : w103.cell? ⟨bhAm, 0, none⟩ = some (.int .i64 NU) := cell_at hAm rfl
  have qhAm_1 : w103.cell? ⟨bhAm, 1, none⟩ = some (.int .i64 DE) := cell_at hAm rfl
  clear hb
  go_wp2
  go_ret
  exact ⟨rfl, hB103⟩
end Go.Proofs.YtdimmlljjmmdbaaGreatDoor
