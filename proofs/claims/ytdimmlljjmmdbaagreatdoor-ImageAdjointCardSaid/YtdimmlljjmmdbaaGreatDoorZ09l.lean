/- A part of the proofs about chapter 7 (image): contracts of functions and plain laws (V90). -/
import Derived.Test.YtdimmlljjmmdbaaGreatDoorZ09a
import Derived.Test.YtdimmlljjmmdbaaGreatDoorZ09j
import Derived.Test.YtdimmlljjmmdbaaGreatDoorZ09k
set_option linter.all false
namespace Go.Proofs.YtdimmlljjmmdbaaGreatDoor
open Go.RowKit Go.Shelf
set_option maxHeartbeats 400000000
set_option maxRecDepth 100000
theorem merge90 {G : Nat → Nat → World → Prop} {A B : Prop} (hA : (∀ b1 b2 w, G b1 b2 w) → A) (hB : (∀ b1 b2 w, G b1 b2 w) → B) (hG : ∀ b1 b2 w, G b1 b2 w) : A ∧ B := ⟨hA hG, hB hG⟩
theorem heap_set {w : World} {b : Nat} {p : Addr} {o : Obj} (v : Value) (h : w.heap[b]? = some o) (hp : b ≠ p.block) : (w.setCell p v).heap[b]? = some o := (set_far v hp).trans h
theorem l9 (c r : Int) (A : Option Addr) (n cap : Nat) (l : List Int) (un len most : Int) (P : Option Addr) (np capp : Nat) (ps : List Pr) (D : Option Addr) (md cd : Nat) (dl : List (List Int)) (E : Option Addr) (me ce : Nat) (el : List (List Int)) (M : Option Addr) (mk cm : Nat) (ms : List Int) (s f i : Int) (w : World) (hmd : md ≤ 9223372036854775807) (hme : me ≤ 9223372036854775807) (hcp : np ≤ capp) (hcd : md ≤ cd) (H : RdI w A n l) (HP : RdP w P np ps) (HD : RdD w D md dl) (HE : RdD w E me el) (HM : RdI w M mk ms) (hst : Steps w) :
  Calls Tryz.prog 9 #[.agg #[.int .i64 c, .int .i64 r, .slice A n cap], .agg #[.int .i64 un, .int .i64 len, .int .i64 most, .slice P np capp], .agg #[.slice D md cd, .slice E me ce, .slice M mk cm, .int .i64 s, .int .i64 f, .int .i64 i]] w fun en w' => en = .returned (.bool true) ∧ Below w.heap.size w w' := by
 have H0 := Lib.hid H
 have HP0 := Lib.hid HP
 have HD0 := Lib.hid HD
 have HM0 := Lib.hid HM
 have HST0 := Lib.hid hst
 obtain ⟨w0, hW⟩ : ∃ W, W = ((w.alloc (Obj.cells #[.int .i64 c, .int .i64 r, .slice A n cap] 24)).alloc (Obj.cells #[.int .i64 un, .int .i64 len, .int .i64 most, .slice P np capp] 27)).alloc (Obj.cells #[.slice D md cd, .slice E me ce, .slice M mk cm, .int .i64 s, .int .i64 f, .int .i64 i] 55) := ⟨_, rfl⟩
 have hT0 : w0.heap[w.heap.size]? = some (.cells #[.int .i64 c, .int .i64 r, .slice A n cap] 24 (0, 0)) := by rw [hW]; exact heap_old (by simp <;> omega) (heap_old (by simp <;> omega) (heap_new (by simp)))
 have hT1 : w0.heap[w.heap.size + 1]? = some (.cells #[.int .i64 un, .int .i64 len, .int .i64 most, .slice P np capp] 27 (0, 0)) := by rw [hW]; exact heap_old (by simp <;> omega) (heap_new (by simp))
 have hT2 : w0.heap[w.heap.size + 1 + 1]? = some (.cells #[.slice D md cd, .slice E me ce, .slice M mk cm, .int .i64 s, .int .i64 f, .int .i64 i] 55 (0, 0)) := by rw [hW]; exact heap_new (by simp)
 have hB0 : Below w.heap.size w w0 := by rw [hW]; exact ((((Below.refl _ _).alloc (by first | omega | (simp <;> omega)) _).alloc (by first | omega | (simp <;> omega)) _).alloc (by first | omega | (simp <;> omega)) _)
 replace H := H.below hB0
 replace HP := HP.below hB0
 replace HD := HD.below hB0
 replace HE := HE.below hB0
 replace HM := HM.below hB0
 replace hst := hst.below hB0
 go_enter Tryz.func9, Tryz.ntmps9
 go_wp2_with fail
 rw [← hW]
 clear hW
 have qhT0_0 : w0.cell? ⟨w.heap.size, 0, none⟩ = some (.int .i64 c) := cell_at hT0 rfl
 have qhT0_1 : w0.cell? ⟨w.heap.size, 1, none⟩ = some (.int .i64 r) := cell_at hT0 rfl
 have qhT0_2 : w0.cell? ⟨w.heap.size, 2, none⟩ = some (.slice A n cap) := cell_at hT0 rfl
 have qhT1_0 : w0.cell? ⟨w.heap.size + 1, 0, none⟩ = some (.int .i64 un) := cell_at hT1 rfl
 have qhT1_1 : w0.cell? ⟨w.heap.size + 1, 1, none⟩ = some (.int .i64 len) := cell_at hT1 rfl
 have qhT1_2 : w0.cell? ⟨w.heap.size + 1, 2, none⟩ = some (.int .i64 most) := cell_at hT1 rfl
 have qhT1_3 : w0.cell? ⟨w.heap.size + 1, 3, none⟩ = some (.slice P np capp) := cell_at hT1 rfl
 have qhT2_0 : w0.cell? ⟨w.heap.size + 1 + 1, 0, none⟩ = some (.slice D md cd) := cell_at hT2 rfl
 have qhT2_1 : w0.cell? ⟨w.heap.size + 1 + 1, 1, none⟩ = some (.slice E me ce) := cell_at hT2 rfl
 have qhT2_2 : w0.cell? ⟨w.heap.size + 1 + 1, 2, none⟩ = some (.slice M mk cm) := cell_at hT2 rfl
 have qhT2_3 : w0.cell? ⟨w.heap.size + 1 + 1, 3, none⟩ = some (.int .i64 s) := cell_at hT2 rfl
 have qhT2_4 : w0.cell? ⟨w.heap.size + 1 + 1, 4, none⟩ = some (.int .i64 f) := cell_at hT2 rfl
 have qhT2_5 : w0.cell? ⟨w.heap.size + 1 + 1, 5, none⟩ = some (.int .i64 i) := cell_at hT2 rfl
 go_wp2_with fail
 refine (c16 c r A n cap _).mono ?_
 rintro e w1 ⟨⟨b, rfl, hg1⟩, hb⟩
 clear qhT0_0 qhT0_1 qhT0_2 qhT1_0 qhT1_1 qhT1_2 qhT1_3 qhT2_0 qhT2_1 qhT2_2 qhT2_3 qhT2_4 qhT2_5
 have hS := hb
 have hB1 := hB0.call hS rfl
 replace hT0 := blkb hT0 hS
 replace hT1 := blkb hT1 hS
 replace hT2 := blkb hT2 hS
 replace H := H.below hS
 replace HP := HP.below hS
 replace HD := HD.below hS
 replace HE := HE.below hS
 replace HM := HM.below hS
 replace hst := hst.below hS
 clear hS hB0
 have qhT0_0 : w1.cell? ⟨w.heap.size, 0, none⟩ = some (.int .i64 c) := cell_at hT0 rfl
 have qhT0_1 : w1.cell? ⟨w.heap.size, 1, none⟩ = some (.int .i64 r) := cell_at hT0 rfl
 have qhT0_2 : w1.cell? ⟨w.heap.size, 2, none⟩ = some (.slice A n cap) := cell_at hT0 rfl
 have qhT1_0 : w1.cell? ⟨w.heap.size + 1, 0, none⟩ = some (.int .i64 un) := cell_at hT1 rfl
 have qhT1_1 : w1.cell? ⟨w.heap.size + 1, 1, none⟩ = some (.int .i64 len) := cell_at hT1 rfl
 have qhT1_2 : w1.cell? ⟨w.heap.size + 1, 2, none⟩ = some (.int .i64 most) := cell_at hT1 rfl
 have qhT1_3 : w1.cell? ⟨w.heap.size + 1, 3, none⟩ = some (.slice P np capp) := cell_at hT1 rfl
 have qhT2_0 : w1.cell? ⟨w.heap.size + 1 + 1, 0, none⟩ = some (.slice D md cd) := cell_at hT2 rfl
 have qhT2_1 : w1.cell? ⟨w.heap.size + 1 + 1, 1, none⟩ = some (.slice E me ce) := cell_at hT2 rfl
 have qhT2_2 : w1.cell? ⟨w.heap.size + 1 + 1, 2, none⟩ = some (.slice M mk cm) := cell_at hT2 rfl
 have qhT2_3 : w1.cell? ⟨w.heap.size + 1 + 1, 3, none⟩ = some (.int .i64 s) := cell_at hT2 rfl
 have qhT2_4 : w1.cell? ⟨w.heap.size + 1 + 1, 4, none⟩ = some (.int .i64 f) := cell_at hT2 rfl
 have qhT2_5 : w1.cell? ⟨w.heap.size + 1 + 1, 5, none⟩ = some (.int .i64 i) := cell_at hT2 rfl
 clear hb
 have HG1 := Lib.hid hg1
 clear hg1
 cases b
 ·
   go_wp2_with fail
   refine (c18 _ hst).mono ?_
   rintro e wz ⟨rfl, hz⟩
   go_wp2
   go_ret
   exact ⟨rfl, hB1.call hz rfl⟩
 go_wp2_with fail
 refine (c17 un len most P np capp _).mono ?_
 rintro e w2 ⟨⟨b, rfl, hg2⟩, hb⟩
 clear qhT0_0 qhT0_1 qhT0_2 qhT1_0 qhT1_1 qhT1_2 qhT1_3 qhT2_0 qhT2_1 qhT2_2 qhT2_3 qhT2_4 qhT2_5
 have hS := hb
 have hB2 := hB1.call hS rfl
 replace hT0 := blkb hT0 hS
 replace hT1 := blkb hT1 hS
 replace hT2 := blkb hT2 hS
 replace H := H.below hS
 replace HP := HP.below hS
 replace HD := HD.below hS
 replace HE := HE.below hS
 replace HM := HM.below hS
 replace hst := hst.below hS
 clear hS hB1
 have qhT0_0 : w2.cell? ⟨w.heap.size, 0, none⟩ = some (.int .i64 c) := cell_at hT0 rfl
 have qhT0_1 : w2.cell? ⟨w.heap.size, 1, none⟩ = some (.int .i64 r) := cell_at hT0 rfl
 have qhT0_2 : w2.cell? ⟨w.heap.size, 2, none⟩ = some (.slice A n cap) := cell_at hT0 rfl
 have qhT1_0 : w2.cell? ⟨w.heap.size + 1, 0, none⟩ = some (.int .i64 un) := cell_at hT1 rfl
 have qhT1_1 : w2.cell? ⟨w.heap.size + 1, 1, none⟩ = some (.int .i64 len) := cell_at hT1 rfl
 have qhT1_2 : w2.cell? ⟨w.heap.size + 1, 2, none⟩ = some (.int .i64 most) := cell_at hT1 rfl
 have qhT1_3 : w2.cell? ⟨w.heap.size + 1, 3, none⟩ = some (.slice P np capp) := cell_at hT1 rfl
 have qhT2_0 : w2.cell? ⟨w.heap.size + 1 + 1, 0, none⟩ = some (.slice D md cd) := cell_at hT2 rfl
 have qhT2_1 : w2.cell? ⟨w.heap.size + 1 + 1, 1, none⟩ = some (.slice E me ce) := cell_at hT2 rfl
 have qhT2_2 : w2.cell? ⟨w.heap.size + 1 + 1, 2, none⟩ = some (.slice M mk cm) := cell_at hT2 rfl
 have qhT2_3 : w2.cell? ⟨w.heap.size + 1 + 1, 3, none⟩ = some (.int .i64 s) := cell_at hT2 rfl
 have qhT2_4 : w2.cell? ⟨w.heap.size + 1 + 1, 4, none⟩ = some (.int .i64 f) := cell_at hT2 rfl
 have qhT2_5 : w2.cell? ⟨w.heap.size + 1 + 1, 5, none⟩ = some (.int .i64 i) := cell_at hT2 rfl
 clear hb
 have HG2 := Lib.hid hg2
 clear hg2
 cases b
 ·
   go_wp2_with fail
   refine (c18 _ hst).mono ?_
   rintro e wz ⟨rfl, hz⟩
   go_wp2
   go_ret
   exact ⟨rfl, hB2.call hz rfl⟩
 go_wp2_with fail
 refine (c31s D E M md me mk cd ce cm dl el s f i _ hmd hme HD HE).mono ?_
 rintro e w3 ⟨⟨b, rfl, hg3⟩, hb⟩
 clear qhT0_0 qhT0_1 qhT0_2 qhT1_0 qhT1_1 qhT1_2 qhT1_3 qhT2_0 qhT2_1 qhT2_2 qhT2_3 qhT2_4 qhT2_5
 have hS := hb
 have hB3 := hB2.call hS rfl
 replace hT0 := blkb hT0 hS
 replace hT1 := blkb hT1 hS
 replace hT2 := blkb hT2 hS
 replace H := H.below hS
 replace HP := HP.below hS
 replace HD := HD.below hS
 replace HE := HE.below hS
 replace HM := HM.below hS
 replace hst := hst.below hS
 clear hS hB2
 have qhT0_0 : w3.cell? ⟨w.heap.size, 0, none⟩ = some (.int .i64 c) := cell_at hT0 rfl
 have qhT0_1 : w3.cell? ⟨w.heap.size, 1, none⟩ = some (.int .i64 r) := cell_at hT0 rfl
 have qhT0_2 : w3.cell? ⟨w.heap.size, 2, none⟩ = some (.slice A n cap) := cell_at hT0 rfl
 have qhT1_0 : w3.cell? ⟨w.heap.size + 1, 0, none⟩ = some (.int .i64 un) := cell_at hT1 rfl
 have qhT1_1 : w3.cell? ⟨w.heap.size + 1, 1, none⟩ = some (.int .i64 len) := cell_at hT1 rfl
 have qhT1_2 : w3.cell? ⟨w.heap.size + 1, 2, none⟩ = some (.int .i64 most) := cell_at hT1 rfl
 have qhT1_3 : w3.cell? ⟨w.heap.size + 1, 3, none⟩ = some (.slice P np capp) := cell_at hT1 rfl
 have qhT2_0 : w3.cell? ⟨w.heap.size + 1 + 1, 0, none⟩ = some (.slice D md cd) := cell_at hT2 rfl
 have qhT2_1 : w3.cell? ⟨w.heap.size + 1 + 1, 1, none⟩ = some (.slice E me ce) := cell_at hT2 rfl
 have qhT2_2 : w3.cell? ⟨w.heap.size + 1 + 1, 2, none⟩ = some (.slice M mk cm) := cell_at hT2 rfl
 have qhT2_3 : w3.cell? ⟨w.heap.size + 1 + 1, 3, none⟩ = some (.int .i64 s) := cell_at hT2 rfl
 have qhT2_4 : w3.cell? ⟨w.heap.size + 1 + 1, 4, none⟩ = some (.int .i64 f) := cell_at hT2 rfl
 have qhT2_5 : w3.cell? ⟨w.heap.size + 1 + 1, 5, none⟩ = some (.int .i64 i) := cell_at hT2 rfl
 clear hb
 have HG3 := Lib.hid hg3
 clear hg3
 cases b
 ·
   go_wp2_with fail
   refine (c18 _ hst).mono ?_
   rintro e wz ⟨rfl, hz⟩
   go_wp2
   go_ret
   exact ⟨rfl, hB3.call hz rfl⟩
 clear HE
 have hn30 : n ≤ 30 := (by first | exact HG1.out rfl | exact HG1.out trivial)
 have hp17 : np ≤ 17 := (by first | exact HG2.out rfl | exact HG2.out trivial)
 have h3 : ((md ≤ 5 ∨ md = 17) ∧ ∀ x, x ∈ dl → x.length ≤ 45) ∧ ((me ≤ 5 ∨ me = 17) ∧ ∀ x, x ∈ el → x.length ≤ 45) ∧ mk ≤ 30 := (by first | exact HG3.out rfl | exact HG3.out trivial)
 obtain ⟨⟨hd5, hd45⟩, _, hm30⟩ := h3
 have hl : n ≤ 1000000 := by omega
 have hp : np ≤ 1000000 := by omega
 have HD45 := Lib.hid hd45
 have HDB : Hid (∀ x, x ∈ dl → x.length ≤ 1000000) := Lib.hid (fun x hx => Nat.le_trans (hd45 x hx) (by decide))
 clear HG1 HG2 HG3 hd45
 go_wp2_with fail
 refine (c36 c r A n cap l un len most P np capp ps M mk cm ms D md cd dl _ hl hp (by omega) (by omega) HDB.out H HP HM HD).mono ?_
 rintro e w4 ⟨rfl, hb⟩
 clear qhT0_0 qhT0_1 qhT0_2 qhT1_0 qhT1_1 qhT1_2 qhT1_3 qhT2_0 qhT2_1 qhT2_2 qhT2_3 qhT2_4 qhT2_5
 have hS := hb
 have hB4 := hB3.call hS rfl
 replace hT0 := blkb hT0 hS
 replace hT1 := blkb hT1 hS
 replace hT2 := blkb hT2 hS
 replace H := H.below hS
 replace HP := HP.below hS
 replace HD := HD.below hS
 replace HM := HM.below hS
 replace hst := hst.below hS
 clear hS hB3
 have qhT0_0 : w4.cell? ⟨w.heap.size, 0, none⟩ = some (.int .i64 c) := cell_at hT0 rfl
 have qhT0_1 : w4.cell? ⟨w.heap.size, 1, none⟩ = some (.int .i64 r) := cell_at hT0 rfl
 have qhT0_2 : w4.cell? ⟨w.heap.size, 2, none⟩ = some (.slice A n cap) := cell_at hT0 rfl
 have qhT1_0 : w4.cell? ⟨w.heap.size + 1, 0, none⟩ = some (.int .i64 un) := cell_at hT1 rfl
 have qhT1_1 : w4.cell? ⟨w.heap.size + 1, 1, none⟩ = some (.int .i64 len) := cell_at hT1 rfl
 have qhT1_2 : w4.cell? ⟨w.heap.size + 1, 2, none⟩ = some (.int .i64 most) := cell_at hT1 rfl
 have qhT1_3 : w4.cell? ⟨w.heap.size + 1, 3, none⟩ = some (.slice P np capp) := cell_at hT1 rfl
 have qhT2_0 : w4.cell? ⟨w.heap.size + 1 + 1, 0, none⟩ = some (.slice D md cd) := cell_at hT2 rfl
 have qhT2_1 : w4.cell? ⟨w.heap.size + 1 + 1, 1, none⟩ = some (.slice E me ce) := cell_at hT2 rfl
 have qhT2_2 : w4.cell? ⟨w.heap.size + 1 + 1, 2, none⟩ = some (.slice M mk cm) := cell_at hT2 rfl
 have qhT2_3 : w4.cell? ⟨w.heap.size + 1 + 1, 3, none⟩ = some (.int .i64 s) := cell_at hT2 rfl
 have qhT2_4 : w4.cell? ⟨w.heap.size + 1 + 1, 4, none⟩ = some (.int .i64 f) := cell_at hT2 rfl
 have qhT2_5 : w4.cell? ⟨w.heap.size + 1 + 1, 5, none⟩ = some (.int .i64 i) := cell_at hT2 rfl
 clear hb
 obtain ⟨Va, hVa⟩ : ∃ V, V = Mo.fit c r l un len most ps ms dl := ⟨_, rfl⟩
 rw [← hVa]
 have HVa := Lib.hid hVa
 clear hVa
 by_cases ha : Va = 0
 rotate_left
 ·
   have hef : (Va != 0) = true := by simpa using ha
   clear ha
   go_wp2_with fail
   refine (c18 _ hst).mono ?_
   rintro e wz ⟨rfl, hz⟩
   go_wp2
   go_ret
   exact ⟨rfl, hB4.call hz rfl⟩
 subst ha
 have hfit := HVa.out.symm
 have hml := (Mo.mdl_zero (Mo.fit_zero hfit).1)
 have hdt := (Mo.dta_zero (Mo.fit_zero hfit).2)
 have hsv := surv_ok hml.1
 obtain ⟨c, r, rfl, rfl, hc, hr, g⟩ := Mo.ground_ok hsv.1
 obtain ⟨ln, rfl⟩ : ∃ k : Nat, len = k := ⟨len.toNat, by omega⟩
 have hpl := HP.len
 obtain rfl : n = mk := by rw [← HM.len, hml.2.1, H.len]
 obtain rfl : np = md := by rw [← HD.len, hdt.2.1, hpl]
 have HFIT := Lib.hid hfit
 have hmost := hsv.2.2.2.1
 have hnp5 : np ≤ 5 := by have := hsv.2.2.2.2.1; omega
 have HLN := Lib.hid H.len
 have HPL := Lib.hid hpl
 have HG := Lib.hid g
 have hn0 : 0 < n := by have := g.len; have := H.len; have : 1 * 1 ≤ c * r := Nat.mul_le_mul g.c1 g.r1; omega
 have HD5 : Hid (dl.length ≤ 5 ∨ dl.length = 17) := Lib.hid (by rw [HD.len]; exact hd5)
 clear hfit hml hdt hsv hpl HVa g hd5 hm30 hmd hme
 as_aux_lemma =>
  go_wp2_with fail
  obtain ⟨wQ, hwn⟩ : ∃ V, V = w4.alloc (Obj.cells #[.int .i64 most, .int .i64 256] 3) := ⟨_, rfl⟩
  have hbn : Below w4.heap.size w4 wQ := by rw [hwn]; exact bl2 _ _
  have hqq : Hid (wQ.heap[w4.heap.size]? = some (.cells #[.int .i64 most, .int .i64 256] 3 (0, 0))) := Lib.hid (by rw [hwn]; exact heap_new rfl)
  try rw [← hwn]
  clear hwn
  have hq1 : w.heap.size + 1 < w4.heap.size := (Array.getElem?_eq_some_iff.1 hT1).1
  have hq2 : w.heap.size + 1 + 1 < w4.heap.size := (Array.getElem?_eq_some_iff.1 hT2).1
  obtain ⟨bq, hbq⟩ : ∃ b, b = w4.heap.size := ⟨_, rfl⟩
  rw [← hbq] at hqq hq1 hq2 ⊢
  have BQ : Hid (Below w.heap.size w wQ) := Lib.hid (hB4.call hbn rfl)
  have BT0 := Lib.hid (blkb hT0 hbn)
  have BT1 := Lib.hid (blkb hT1 hbn)
  have BT2 := Lib.hid (blkb hT2 hbn)
  clear qhT0_0 qhT0_1 qhT0_2 qhT1_0 qhT1_1 qhT1_2 qhT1_3 qhT2_0 qhT2_1 qhT2_2 qhT2_3 qhT2_4 qhT2_5
  clear H HP HD HM hst hT0 hT1 hT2 hB4 hbn hbq
  go_loopw [68] (fun iv wr => ∃ (k : Nat) (z mv : Int), k ≤ 2 ∧ iv = .int .i64 z ∧ z = k ∧ (k = 2 → mv = 256) ∧ Hid (Below w.heap.size w wr) ∧ Hid (wr.heap[w.heap.size]? = some (.cells #[.int .i64 c, .int .i64 r, .slice A n cap] 24 (0, 0))) ∧ Hid (wr.heap[w.heap.size + 1]? = some (.cells #[.int .i64 un, .int .i64 (ln : Nat), .int .i64 mv, .slice P np capp] 27 (0, 0))) ∧ Hid (wr.heap[w.heap.size + 1 + 1]? = some (.cells #[.slice D np cd, .slice E me ce, .slice M n cm, .int .i64 s, .int .i64 f, .int .i64 i] 55 (0, 0))) ∧ Hid (wr.heap[bq]? = some (.cells #[.int .i64 most, .int .i64 256] 3 (0, 0)))) (fun iv _ => 2 - (intOf iv).toNat)
  case atStart => exact ⟨0, 0, most, Nat.zero_le _, rfl, rfl, (fun h => absurd h (by decide)), BQ, BT0, BT1, BT2, hqq⟩
  case round =>
   clear BQ BT0 BT1 BT2 hqq
   obtain ⟨k2, zz, mv, hk2, rfl, hzz, hmv, RB, RT0, RT1, RT2, RQ⟩ := hrel
   by_cases hk3 : k2 = 2
   focus
     subst hk3
     obtain rfl : zz = 2 := by simpa using hzz
     obtain rfl : mv = 256 := hmv rfl
     clear hzz hmv hk2 RQ
     obtain ⟨w50, hww⟩ : ∃ W, W = wr := ⟨_, rfl⟩
     subst hww
     have hB50 := RB.out
     have H := H0.out.below hB50
     have HP := HP0.out.below hB50
     have HD := HD0.out.below hB50
     have HM := HM0.out.below hB50
     have hst := HST0.out.below hB50
     have hT0 := RT0.out
     have hT1 := RT1.out
     have hT2 := RT2.out
     clear RB RT0 RT1 RT2
     have qhT0_0 : w50.cell? ⟨w.heap.size, 0, none⟩ = some (.int .i64 c) := cell_at hT0 rfl
     have qhT0_1 : w50.cell? ⟨w.heap.size, 1, none⟩ = some (.int .i64 r) := cell_at hT0 rfl
     have qhT0_2 : w50.cell? ⟨w.heap.size, 2, none⟩ = some (.slice A n cap) := cell_at hT0 rfl
     have qhT1_0 : w50.cell? ⟨w.heap.size + 1, 0, none⟩ = some (.int .i64 un) := cell_at hT1 rfl
     have qhT1_1 : w50.cell? ⟨w.heap.size + 1, 1, none⟩ = some (.int .i64 (ln : Nat)) := cell_at hT1 rfl
     have qhT1_2 : w50.cell? ⟨w.heap.size + 1, 2, none⟩ = some (.int .i64 256) := cell_at hT1 rfl
     have qhT1_3 : w50.cell? ⟨w.heap.size + 1, 3, none⟩ = some (.slice P np capp) := cell_at hT1 rfl
     have qhT2_0 : w50.cell? ⟨w.heap.size + 1 + 1, 0, none⟩ = some (.slice D np cd) := cell_at hT2 rfl
     have qhT2_1 : w50.cell? ⟨w.heap.size + 1 + 1, 1, none⟩ = some (.slice E me ce) := cell_at hT2 rfl
     have qhT2_2 : w50.cell? ⟨w.heap.size + 1 + 1, 2, none⟩ = some (.slice M n cm) := cell_at hT2 rfl
     have qhT2_3 : w50.cell? ⟨w.heap.size + 1 + 1, 3, none⟩ = some (.int .i64 s) := cell_at hT2 rfl
     have qhT2_4 : w50.cell? ⟨w.heap.size + 1 + 1, 4, none⟩ = some (.int .i64 f) := cell_at hT2 rfl
     have qhT2_5 : w50.cell? ⟨w.heap.size + 1 + 1, 5, none⟩ = some (.int .i64 i) := cell_at hT2 rfl
     obtain ⟨_, _, _, IM, _, _, _, _, hIM, _, _, _, _, _, _, k50, _, _, _, _, _, _, _⟩ := adj_most c r n np l un ln 256 ps ms dl hc hr HG.out HLN.out hn30 HPL.out (fit_most HFIT.out (by decide)) HD5.out HD45.out
     have HIM := Lib.hid hIM
     have K50 := Lib.hid k50
     have HDTA : Hid (Mo.dta c r l un ln 256 ps dl = 0) := Lib.hid (Mo.fit_zero (fit_most HFIT.out (by decide))).2
     have K51 : Hid (∀ k, k < r → ∀ (B P D : Option Addr) (cb pc dc : Nat) (W : World) (k1 : Int), k1 = ((k + 1 : Nat) : Int) → np ≤ pc → RdI W B n l → RdP W P np ps → RdD W D np dl → Steps W → Calls Tryz.prog 51 #[.agg #[.int .i64 c, .int .i64 r, .slice B n cb], .agg #[.int .i64 un, .int .i64 (ln : Nat), .int .i64 256, .slice P np pc], .slice D np dc, .agg #[.int .i64 k, .int .i64 k1]] W fun en w' => ∃ X xc, en = .returned (.tuple #[.slice X c xc, .int .i64 0]) ∧ RdI w' X c ((IM.drop (k * c)).take ((k + 1) * c - k * c)) ∧ Below W.heap.size W w') := Lib.hid (fun k hk B P D cb pc dc W k1 e1 h1 h2 h3 h4 h5 => by
      have e : (k + 1) * c - k * c = c := by rw [Nat.add_mul, Nat.one_mul]; omega
      subst e1
      have h := c51_ok c r B n cb l un ln 256 P np pc ps D dc dl k (k + 1) W HG.out hc hr h1 HDTA.out (by omega) (by omega) h5 HDB.out h2 h3 h4
      rw [← HIM.out, e] at h
      rw [e]
      exact h)
     have HIL : Hid (IM.length = n) := Lib.hid (by
      rw [hIM]
      unfold Im.image
      rw [Im.image_fold_len]
      ·simp
      ·intro x hx
       obtain ⟨p, _, e⟩ := List.mem_map.1 (List.of_mem_zip hx).1
       rw [← e, dlp_len]; simp [HLN.out])
     have HRC : Hid (r * c = n) := Lib.hid (by rw [Nat.mul_comm, ← HG.out.len]; exact HLN.out)
     clear hIM k50
     go_wp2_with fail
     refine wp_region_plan [(0, true), (2, true), (4, true), (5, true), (1, false), (3, false), (6, false), (7, false), (8, true), (9, true), (10, true), (11, true), (12, true)] w50.heap.size (by kernel_rfl) (by kernel_rfl) (Nat.le_refl _) (fun _ _ d _ _ h => by cases d <;> exact h) ?_
     have hC : Below w50.heap.size w50 w50 := Below.refl _ _
     have zhT0 : w.heap.size < w50.heap.size := (Array.getElem?_eq_some_iff.1 hT0).1
     have zhT1 : w.heap.size + 1 < w50.heap.size := (Array.getElem?_eq_some_iff.1 hT1).1
     have zhT2 : w.heap.size + 1 + 1 < w50.heap.size := (Array.getElem?_eq_some_iff.1 hT2).1
     repeat (first | (refine wpPlanA_skip _ rfl (by rfl) ?_; simp only [Act.put, List.setIfInBounds_toArray, List.set_cons_zero, List.set_cons_succ]) | (refine wpPlanA_softD _ ?_ _ _ rfl rfl rfl (by rfl) ?_ ?_; rotate_left; (intro wq hq hcq; go_simp; first | exact rfl | exact ⟨rfl, rfl⟩); dsimp only [List.set_cons_zero, List.set_cons_succ]))
     refine wpPlanA_hard _ rfl (by rfl) (fun w51 hS K hK => ?_)
     go_simp
     refine (c20d c r A n cap l _ hl (H.below hS)).mono ?_
     rintro e w52 ⟨B1, cb1, rfl, hr1, hb⟩
     replace hS := hS.call hb rfl
     have hB52 := hB50.call hS rfl
     replace hC := hC.call hS rfl
     replace H := H.below hS
     replace HP := HP.below hS
     replace HD := HD.below hS
     replace HM := HM.below hS
     replace hst := hst.below hS
     replace hT0 := blkb hT0 hS
     replace hT1 := blkb hT1 hS
     replace hT2 := blkb hT2 hS
     refine hK _ _ hC ?_
     clear hS hb hB50 hK K
     try simp only [Act.put, List.setIfInBounds_toArray, List.set_cons_zero, List.set_cons_succ]
     refine wpPlanA_hard _ rfl (by rfl) (fun w53 hS K hK => ?_)
     go_simp
     refine (c21d un ln 256 P np capp ps _ hp (HP.below hS)).mono ?_
     rintro e w54 ⟨P2, pc2, rfl, ⟨hp2, hq2⟩, hb⟩
     replace hS := hS.call hb rfl
     have hB54 := hB52.call hS rfl
     replace hC := hC.call hS rfl
     replace H := H.below hS
     replace HP := HP.below hS
     replace HD := HD.below hS
     replace HM := HM.below hS
     replace hst := hst.below hS
     replace hT0 := blkb hT0 hS
     replace hT1 := blkb hT1 hS
     replace hT2 := blkb hT2 hS
     replace hr1 := hr1.below hS
     refine hK _ _ hC ?_
     clear hS hb hB52 hK K
     try simp only [Act.put, List.setIfInBounds_toArray, List.set_cons_zero, List.set_cons_succ]
     refine wpPlanA_hard _ rfl (by rfl) (fun w55 hS K hK => ?_)
     go_simp
     refine (c33d D np cd dl _ hnp5 HD45.out (HD.below hS)).mono ?_
     rintro e w56 ⟨F3, fc3, rfl, he3, hb⟩
     replace hS := hS.call hb rfl
     have hB56 := hB54.call hS rfl
     replace hC := hC.call hS rfl
     replace H := H.below hS
     replace HP := HP.below hS
     replace HD := HD.below hS
     replace HM := HM.below hS
     replace hst := hst.below hS
     replace hT0 := blkb hT0 hS
     replace hT1 := blkb hT1 hS
     replace hT2 := blkb hT2 hS
     replace hr1 := hr1.below hS
     replace hp2 := hp2.below hS
     refine hK _ _ hC ?_
     clear hS hb hB54 hK K
     try simp only [Act.put, List.setIfInBounds_toArray, List.set_cons_zero, List.set_cons_succ]
     refine wpPlanA_hard _ rfl (by rfl) (fun w57 hS K hK => ?_)
     go_simp
     refine (K50.out _ _ _ _ _ _ _ hq2 (hr1.below hS) (hp2.below hS) (he3.below hS) (hst.below hS)).mono ?_
     rintro e w58 ⟨I5, ic5, rfl, hI5, hb⟩
     replace hS := hS.call hb rfl
     have hB58 := hB56.call hS rfl
     replace hC := hC.call hS rfl
     replace H := H.below hS
     replace HP := HP.below hS
     replace HD := HD.below hS
     replace HM := HM.below hS
     replace hst := hst.below hS
     replace hT0 := blkb hT0 hS
     replace hT1 := blkb hT1 hS
     replace hT2 := blkb hT2 hS
     replace hr1 := hr1.below hS
     replace hp2 := hp2.below hS
     replace he3 := he3.below hS
     refine hK _ _ hC ?_
     clear hS hb hB56 hK K
     try simp only [Act.put, List.setIfInBounds_toArray, List.set_cons_zero, List.set_cons_succ]
     repeat (first | (refine wpPlanA_skip _ rfl (by rfl) ?_; simp only [Act.put, List.setIfInBounds_toArray, List.set_cons_zero, List.set_cons_succ]) | (refine wpPlanA_softD _ ?_ _ _ rfl rfl rfl (by rfl) ?_ ?_; rotate_left; (intro wq hq hcq; go_simp; first | exact rfl | exact ⟨rfl, rfl⟩); dsimp only [List.set_cons_zero, List.set_cons_succ]))
     clear hr1
     clear hp2
     clear he3
     clear qhT0_0 qhT0_1 qhT0_2 qhT1_0 qhT1_1 qhT1_2 qhT1_3 qhT2_0 qhT2_1 qhT2_2 qhT2_3 qhT2_4 qhT2_5
     refine wpPlanA_nil (fun w59 hS => ?_)
     clear hC zhT0 zhT1 zhT2
     have hB59 := hB58.call hS rfl
     replace H := H.below hS
     replace HP := HP.below hS
     replace HD := HD.below hS
     replace HM := HM.below hS
     replace hst := hst.below hS
     replace hT0 := blkb hT0 hS
     replace hT1 := blkb hT1 hS
     replace hT2 := blkb hT2 hS
     replace hI5 := hI5.below hS
     clear hS hB58
     have qhT0_0 : w59.cell? ⟨w.heap.size, 0, none⟩ = some (.int .i64 c) := cell_at hT0 rfl
     have qhT0_1 : w59.cell? ⟨w.heap.size, 1, none⟩ = some (.int .i64 r) := cell_at hT0 rfl
     have qhT0_2 : w59.cell? ⟨w.heap.size, 2, none⟩ = some (.slice A n cap) := cell_at hT0 rfl
     have qhT1_0 : w59.cell? ⟨w.heap.size + 1, 0, none⟩ = some (.int .i64 un) := cell_at hT1 rfl
     have qhT1_1 : w59.cell? ⟨w.heap.size + 1, 1, none⟩ = some (.int .i64 (ln : Nat)) := cell_at hT1 rfl
     have qhT1_2 : w59.cell? ⟨w.heap.size + 1, 2, none⟩ = some (.int .i64 256) := cell_at hT1 rfl
     have qhT1_3 : w59.cell? ⟨w.heap.size + 1, 3, none⟩ = some (.slice P np capp) := cell_at hT1 rfl
     have qhT2_0 : w59.cell? ⟨w.heap.size + 1 + 1, 0, none⟩ = some (.slice D np cd) := cell_at hT2 rfl
     have qhT2_1 : w59.cell? ⟨w.heap.size + 1 + 1, 1, none⟩ = some (.slice E me ce) := cell_at hT2 rfl
     have qhT2_2 : w59.cell? ⟨w.heap.size + 1 + 1, 2, none⟩ = some (.slice M n cm) := cell_at hT2 rfl
     have qhT2_3 : w59.cell? ⟨w.heap.size + 1 + 1, 3, none⟩ = some (.int .i64 s) := cell_at hT2 rfl
     have qhT2_4 : w59.cell? ⟨w.heap.size + 1 + 1, 4, none⟩ = some (.int .i64 f) := cell_at hT2 rfl
     have qhT2_5 : w59.cell? ⟨w.heap.size + 1 + 1, 5, none⟩ = some (.int .i64 i) := cell_at hT2 rfl
     have hnne : ((n : Int) != (n : Int)) = false := by simp
     have hcne : ((c : Int) != (c : Int)) = false := by simp
     have HO0 : Hid (Own w59 w59.heap.size (.slice none 0 0) (0 * c) (encI (IM.take (0 * c)))) := Lib.hid (by rw [Nat.zero_mul]; exact World.ownsRow_nil _ _ _ _)
     go_wp2_with fail
     go_loopw [29, 230] (fun xs iv wr => ∃ k : Nat, k ≤ r ∧ iv = .int .i64 k ∧ Hid (Own wr w59.heap.size xs (k * c) (encI (IM.take (k * c)))) ∧ Below w59.heap.size w59 wr) (fun _ iv _ => r - (intOf iv).toNat)
     case atStart => exact ⟨0, Nat.zero_le _, rfl, HO0, Below.refl _ _⟩
     case round =>
      clear HO0
      obtain ⟨k, hk, rfl, HOW, hbr⟩ := hrel
      obtain ⟨w60, hww⟩ : ∃ W, W = wr := ⟨_, rfl⟩
      subst hww
      have hB60 := hB59.call hbr rfl
      replace H := H.below hbr
      replace HP := HP.below hbr
      replace HD := HD.below hbr
      replace HM := HM.below hbr
      replace hst := hst.below hbr
      replace hT0 := blkb hT0 hbr
      replace hT1 := blkb hT1 hbr
      replace hT2 := blkb hT2 hbr
      replace hI5 := hI5.below hbr
      clear hB59
      have qhT0_0 : w60.cell? ⟨w.heap.size, 0, none⟩ = some (.int .i64 c) := cell_at hT0 rfl
      have qhT0_1 : w60.cell? ⟨w.heap.size, 1, none⟩ = some (.int .i64 r) := cell_at hT0 rfl
      have qhT0_2 : w60.cell? ⟨w.heap.size, 2, none⟩ = some (.slice A n cap) := cell_at hT0 rfl
      have qhT1_0 : w60.cell? ⟨w.heap.size + 1, 0, none⟩ = some (.int .i64 un) := cell_at hT1 rfl
      have qhT1_1 : w60.cell? ⟨w.heap.size + 1, 1, none⟩ = some (.int .i64 (ln : Nat)) := cell_at hT1 rfl
      have qhT1_2 : w60.cell? ⟨w.heap.size + 1, 2, none⟩ = some (.int .i64 256) := cell_at hT1 rfl
      have qhT1_3 : w60.cell? ⟨w.heap.size + 1, 3, none⟩ = some (.slice P np capp) := cell_at hT1 rfl
      have qhT2_0 : w60.cell? ⟨w.heap.size + 1 + 1, 0, none⟩ = some (.slice D np cd) := cell_at hT2 rfl
      have qhT2_1 : w60.cell? ⟨w.heap.size + 1 + 1, 1, none⟩ = some (.slice E me ce) := cell_at hT2 rfl
      have qhT2_2 : w60.cell? ⟨w.heap.size + 1 + 1, 2, none⟩ = some (.slice M n cm) := cell_at hT2 rfl
      have qhT2_3 : w60.cell? ⟨w.heap.size + 1 + 1, 3, none⟩ = some (.int .i64 s) := cell_at hT2 rfl
      have qhT2_4 : w60.cell? ⟨w.heap.size + 1 + 1, 4, none⟩ = some (.int .i64 f) := cell_at hT2 rfl
      have qhT2_5 : w60.cell? ⟨w.heap.size + 1 + 1, 5, none⟩ = some (.int .i64 i) := cell_at hT2 rfl
      obtain ⟨k1, hk1⟩ : ∃ z : Int, z = ((k + 1 : Nat) : Int) := ⟨_, rfl⟩
      have hwk : IntKind.i64.wrap ((k : Int) + 1) = k1 := by rw [hk1, wrapI (by omega)]; simp
      have HK1 := Lib.hid hk1
      clear hk1
      obtain ⟨VA, vc, rfl⟩ := own_slice HOW.out
      by_cases hlt : k < r
      ·
        have how := HOW.out
        have hlt2 : (k : Int) < (r : Int) := by omega
        have hkc : k * c + c ≤ n := by
         have := Nat.mul_le_mul_right c (show k + 1 ≤ r from hlt)
         rw [Nat.add_mul, Nat.one_mul, HRC.out] at this
         exact this
        go_wp2_with fail
        refine wp_region_plan [(0, true), (2, true), (4, true), (5, true), (7, true), (8, true), (9, true), (10, true), (1, false), (3, false), (6, false), (11, false), (12, true), (13, true), (14, true), (15, true), (16, true)] w60.heap.size (by kernel_rfl) (by kernel_rfl) (Nat.le_refl _) (fun _ _ d _ _ h => by cases d <;> exact h) ?_
        have hC : Below w60.heap.size w60 w60 := Below.refl _ _
        have zhT0 : w.heap.size < w60.heap.size := (Array.getElem?_eq_some_iff.1 hT0).1
        have zhT1 : w.heap.size + 1 < w60.heap.size := (Array.getElem?_eq_some_iff.1 hT1).1
        have zhT2 : w.heap.size + 1 + 1 < w60.heap.size := (Array.getElem?_eq_some_iff.1 hT2).1
        repeat (first | (refine wpPlanA_skip _ rfl (by rfl) ?_; simp only [Act.put, List.setIfInBounds_toArray, List.set_cons_zero, List.set_cons_succ]) | (refine wpPlanA_softD _ ?_ _ _ rfl rfl rfl (by rfl) ?_ ?_; rotate_left; (intro wq hq hcq; go_simp; first | exact rfl | exact ⟨rfl, rfl⟩); dsimp only [List.set_cons_zero, List.set_cons_succ]))
        refine wpPlanA_hard _ rfl (by rfl) (fun w61 hS K hK => ?_)
        go_simp
        refine (c20d c r A n cap l _ hl (H.below hS)).mono ?_
        rintro e w62 ⟨B4, cb4, rfl, hr4, hb⟩
        replace hS := hS.call hb rfl
        have hB62 := hB60.call hS rfl
        replace hC := hC.call hS rfl
        replace H := H.below hS
        replace HP := HP.below hS
        replace HD := HD.below hS
        replace HM := HM.below hS
        replace hst := hst.below hS
        replace hT0 := blkb hT0 hS
        replace hT1 := blkb hT1 hS
        replace hT2 := blkb hT2 hS
        replace hI5 := hI5.below hS
        replace hbr := hbr.call hS rfl
        replace how := how.below hS
        refine hK _ _ hC ?_
        clear hS hb hB60 hK K
        try simp only [Act.put, List.setIfInBounds_toArray, List.set_cons_zero, List.set_cons_succ]
        refine wpPlanA_hard _ rfl (by rfl) (fun w63 hS K hK => ?_)
        go_simp
        refine (c21d un ln 256 P np capp ps _ hp (HP.below hS)).mono ?_
        rintro e w64 ⟨P5, pc5, rfl, ⟨hp5, hq5⟩, hb⟩
        replace hS := hS.call hb rfl
        have hB64 := hB62.call hS rfl
        replace hC := hC.call hS rfl
        replace H := H.below hS
        replace HP := HP.below hS
        replace HD := HD.below hS
        replace HM := HM.below hS
        replace hst := hst.below hS
        replace hT0 := blkb hT0 hS
        replace hT1 := blkb hT1 hS
        replace hT2 := blkb hT2 hS
        replace hI5 := hI5.below hS
        replace hbr := hbr.call hS rfl
        replace how := how.below hS
        replace hr4 := hr4.below hS
        refine hK _ _ hC ?_
        clear hS hb hB62 hK K
        try simp only [Act.put, List.setIfInBounds_toArray, List.set_cons_zero, List.set_cons_succ]
        refine wpPlanA_hard _ rfl (by rfl) (fun w65 hS K hK => ?_)
        go_simp
        refine (c33d D np cd dl _ hnp5 HD45.out (HD.below hS)).mono ?_
        rintro e w66 ⟨F6, fc6, rfl, he6, hb⟩
        replace hS := hS.call hb rfl
        have hB66 := hB64.call hS rfl
        replace hC := hC.call hS rfl
        replace H := H.below hS
        replace HP := HP.below hS
        replace HD := HD.below hS
        replace HM := HM.below hS
        replace hst := hst.below hS
        replace hT0 := blkb hT0 hS
        replace hT1 := blkb hT1 hS
        replace hT2 := blkb hT2 hS
        replace hI5 := hI5.below hS
        replace hbr := hbr.call hS rfl
        replace how := how.below hS
        replace hr4 := hr4.below hS
        replace hp5 := hp5.below hS
        refine hK _ _ hC ?_
        clear hS hb hB64 hK K
        try simp only [Act.put, List.setIfInBounds_toArray, List.set_cons_zero, List.set_cons_succ]
        refine wpPlanA_hard _ rfl (by rfl) (fun w67 hS K hK => ?_)
        go_simp
        refine (K51.out k hlt _ _ _ _ _ _ _ k1 HK1.out hq5 (hr4.below hS) (hp5.below hS) (he6.below hS) (hst.below hS)).mono ?_
        rintro e w68 ⟨X6, xc6, rfl, hX6, hb⟩
        replace hS := hS.call hb rfl
        have hB68 := hB66.call hS rfl
        replace hC := hC.call hS rfl
        replace H := H.below hS
        replace HP := HP.below hS
        replace HD := HD.below hS
        replace HM := HM.below hS
        replace hst := hst.below hS
        replace hT0 := blkb hT0 hS
        replace hT1 := blkb hT1 hS
        replace hT2 := blkb hT2 hS
        replace hI5 := hI5.below hS
        replace hbr := hbr.call hS rfl
        replace how := how.below hS
        replace hr4 := hr4.below hS
        replace hp5 := hp5.below hS
        replace he6 := he6.below hS
        refine hK _ _ hC ?_
        clear hS hb hB66 hK K
        try simp only [Act.put, List.setIfInBounds_toArray, List.set_cons_zero, List.set_cons_succ]
        repeat (first | (refine wpPlanA_skip _ rfl (by rfl) ?_; simp only [Act.put, List.setIfInBounds_toArray, List.set_cons_zero, List.set_cons_succ]) | (refine wpPlanA_softD _ ?_ _ _ rfl rfl rfl (by rfl) ?_ ?_; rotate_left; (intro wq hq hcq; go_simp; first | exact rfl | exact ⟨rfl, rfl⟩); dsimp only [List.set_cons_zero, List.set_cons_succ]))
        clear hr4
        clear hp5
        clear he6
        clear qhT0_0 qhT0_1 qhT0_2 qhT1_0 qhT1_1 qhT1_2 qhT1_3 qhT2_0 qhT2_1 qhT2_2 qhT2_3 qhT2_4 qhT2_5
        refine wpPlanA_nil (fun w69 hS => ?_)
        clear hC zhT0 zhT1 zhT2
        have hB69 := hB68.call hS rfl
        replace H := H.below hS
        replace HP := HP.below hS
        replace HD := HD.below hS
        replace HM := HM.below hS
        replace hst := hst.below hS
        replace hT0 := blkb hT0 hS
        replace hT1 := blkb hT1 hS
        replace hT2 := blkb hT2 hS
        replace hI5 := hI5.below hS
        replace hbr := hbr.call hS rfl
        replace how := how.below hS
        replace hX6 := hX6.below hS
        clear hS hB68
        have qhT0_0 : w69.cell? ⟨w.heap.size, 0, none⟩ = some (.int .i64 c) := cell_at hT0 rfl
        have qhT0_1 : w69.cell? ⟨w.heap.size, 1, none⟩ = some (.int .i64 r) := cell_at hT0 rfl
        have qhT0_2 : w69.cell? ⟨w.heap.size, 2, none⟩ = some (.slice A n cap) := cell_at hT0 rfl
        have qhT1_0 : w69.cell? ⟨w.heap.size + 1, 0, none⟩ = some (.int .i64 un) := cell_at hT1 rfl
        have qhT1_1 : w69.cell? ⟨w.heap.size + 1, 1, none⟩ = some (.int .i64 (ln : Nat)) := cell_at hT1 rfl
        have qhT1_2 : w69.cell? ⟨w.heap.size + 1, 2, none⟩ = some (.int .i64 256) := cell_at hT1 rfl
        have qhT1_3 : w69.cell? ⟨w.heap.size + 1, 3, none⟩ = some (.slice P np capp) := cell_at hT1 rfl
        have qhT2_0 : w69.cell? ⟨w.heap.size + 1 + 1, 0, none⟩ = some (.slice D np cd) := cell_at hT2 rfl
        have qhT2_1 : w69.cell? ⟨w.heap.size + 1 + 1, 1, none⟩ = some (.slice E me ce) := cell_at hT2 rfl
        have qhT2_2 : w69.cell? ⟨w.heap.size + 1 + 1, 2, none⟩ = some (.slice M n cm) := cell_at hT2 rfl
        have qhT2_3 : w69.cell? ⟨w.heap.size + 1 + 1, 3, none⟩ = some (.int .i64 s) := cell_at hT2 rfl
        have qhT2_4 : w69.cell? ⟨w.heap.size + 1 + 1, 4, none⟩ = some (.int .i64 f) := cell_at hT2 rfl
        have qhT2_5 : w69.cell? ⟨w.heap.size + 1 + 1, 5, none⟩ = some (.int .i64 i) := cell_at hT2 rfl
        have hszk : w59.heap.size ≤ w69.heap.size := hbr.size
        have HOX := Lib.hid how
        clear how
        have HAPP : Hid (IM.take (k * c) ++ (IM.drop (k * c)).take ((k + 1) * c - k * c) = IM.take ((k + 1) * c)) := Lib.hid rows_step
        have HKC : Hid (k * c + c = (k + 1) * c) := Lib.hid (by rw [Nat.add_mul, Nat.one_mul])
        generalize (IM.drop (k * c)).take ((k + 1) * c - k * c) = row at hX6 HAPP
        generalize IM.take (k * c) = pre at HOX HAPP
        generalize k * c = kc at HOX HKC hkc ⊢
        have hox := HOX.out
        go_wp2_with (at_builtin; refine wpList_app_ints rfl _ _ rfl w59.heap.size _ kc pre row rfl hox X6 c xc6 rfl hX6 (by omega) hszk ?_)
        intro x' wz hown3 hb3
        have HB3 : Hid (Below w59.heap.size w59 wz) := Lib.hid (hbr.trans hb3)
        have HO : Hid (Own wz w59.heap.size x' ((k + 1) * c) (encI (IM.take ((k + 1) * c)))) := Lib.hid (by
         rw [← HAPP.out, ← HKC.out]
         exact hown3)
        clear hown3 hb3 hox HOX
        go_wp2
        go_roundw
        case rel => exact ⟨k + 1, by omega, by rw [HK1.out], HO, HB3.out⟩
        case measure => rw [HK1.out]; simp [intOf]; omega
      obtain rfl : r = k := by omega
      have HOF : Hid (Own w60 w59.heap.size (.slice VA (r * c) vc) n (encI IM)) := Lib.hid (by
       have h := HOW.out
       rw [HRC.out, List.take_of_length_le (by rw [HIL.out]; exact Nat.le_refl _)] at h
       rw [HRC.out]
       exact h)
      rw [HRC.out] at HOF ⊢
      obtain ⟨X7, xc7, e7, hX7⟩ := own_rdI HOF.out
      cases e7
      clear hlt hk hwk HK1 HOW HOF hbr
      go_wp2_with fail
      refine (c30q hl hX7 hI5).mono ?_
      rintro e w61 ⟨rfl, hb⟩
      clear qhT0_0 qhT0_1 qhT0_2 qhT1_0 qhT1_1 qhT1_2 qhT1_3 qhT2_0 qhT2_1 qhT2_2 qhT2_3 qhT2_4 qhT2_5
      have hS := hb
      have hB61 := hB60.call hS rfl
      replace H := H.below hS
      replace HP := HP.below hS
      replace HD := HD.below hS
      replace HM := HM.below hS
      replace hst := hst.below hS
      replace hT0 := blkb hT0 hS
      replace hT1 := blkb hT1 hS
      replace hT2 := blkb hT2 hS
      replace hI5 := hI5.below hS
      replace hX7 := hX7.below hS
      clear hS hB60
      have qhT0_0 : w61.cell? ⟨w.heap.size, 0, none⟩ = some (.int .i64 c) := cell_at hT0 rfl
      have qhT0_1 : w61.cell? ⟨w.heap.size, 1, none⟩ = some (.int .i64 r) := cell_at hT0 rfl
      have qhT0_2 : w61.cell? ⟨w.heap.size, 2, none⟩ = some (.slice A n cap) := cell_at hT0 rfl
      have qhT1_0 : w61.cell? ⟨w.heap.size + 1, 0, none⟩ = some (.int .i64 un) := cell_at hT1 rfl
      have qhT1_1 : w61.cell? ⟨w.heap.size + 1, 1, none⟩ = some (.int .i64 (ln : Nat)) := cell_at hT1 rfl
      have qhT1_2 : w61.cell? ⟨w.heap.size + 1, 2, none⟩ = some (.int .i64 256) := cell_at hT1 rfl
      have qhT1_3 : w61.cell? ⟨w.heap.size + 1, 3, none⟩ = some (.slice P np capp) := cell_at hT1 rfl
      have qhT2_0 : w61.cell? ⟨w.heap.size + 1 + 1, 0, none⟩ = some (.slice D np cd) := cell_at hT2 rfl
      have qhT2_1 : w61.cell? ⟨w.heap.size + 1 + 1, 1, none⟩ = some (.slice E me ce) := cell_at hT2 rfl
      have qhT2_2 : w61.cell? ⟨w.heap.size + 1 + 1, 2, none⟩ = some (.slice M n cm) := cell_at hT2 rfl
      have qhT2_3 : w61.cell? ⟨w.heap.size + 1 + 1, 3, none⟩ = some (.int .i64 s) := cell_at hT2 rfl
      have qhT2_4 : w61.cell? ⟨w.heap.size + 1 + 1, 4, none⟩ = some (.int .i64 f) := cell_at hT2 rfl
      have qhT2_5 : w61.cell? ⟨w.heap.size + 1 + 1, 5, none⟩ = some (.int .i64 i) := cell_at hT2 rfl
      clear hb
      clear hX7
      by_cases hnp0 : np = 0
      ·
        subst hnp0
        go_wp2_with fail
        refine (c18 _ hst).mono ?_
        rintro e wz ⟨rfl, hz⟩
        go_wp2
        go_ret
        exact ⟨rfl, hB61.call hz rfl⟩
      as_aux_lemma =>
       clear qhT0_0 qhT0_1 qhT0_2 qhT1_0 qhT1_1 qhT1_2 qhT1_3 qhT2_0 qhT2_1 qhT2_2 qhT2_3 qhT2_4 qhT2_5
       have hnz : ((np : Int) == 0) = false := by simp; omega
       have hnp1 : 0 < np := by omega
       have hnpi : (0 : Int) < (np : Int) := by omega
       have hn1i : (1 : Int) ≤ (np : Int) := by omega
       obtain ⟨p0, pt, rfl⟩ : ∃ p0 pt, ps = p0 :: pt := by
        cases ps with
        | nil => have := HPL.out; simp at this; omega
        | cons p0 pt => exact ⟨p0, pt, rfl⟩
       obtain ⟨x0, dt, rfl⟩ : ∃ x0 dt, dl = x0 :: dt := by
        cases dl with
        | nil => have := HD.len; simp at this; omega
        | cons p0 pt => exact ⟨p0, pt, rfl⟩
       obtain ⟨pb, po, q0, rfl, hq0, zpb, hp0, hp1, hp2⟩ := HP.at hnp1
       obtain rfl : p0 = q0 := by simpa using hq0
       obtain ⟨db, do', _, _, _, rfl, _, zdb, _, _⟩ := HD.at hnp1
       have hqp0 : w61.cell? ⟨pb, po, none⟩ = some (.int .i64 p0.s) := by simpa using hp0
       have hqp1 : w61.cell? ⟨pb, po + 1, none⟩ = some (.int .i64 p0.r) := by simpa using hp1
       have hs1 := slice_one 25 101 Tryz.underlying25 3 size101 pb po np capp hnp1 hcp
       have hs2 := slice_rest 25 101 Tryz.underlying25 3 size101 pb po np capp hnp1 hcp
       have hs3 := slice_one 31 22 Tryz.underlying31 1 size22 db do' np cd hnp1 hcd
       have hs4 := slice_rest 31 22 Tryz.underlying31 1 size22 db do' np cd hnp1 hcd
       have HPt := HP.rest hcp
       have HP1 := HP.one
       have HDt := HD.rest hcd
       have HD1 := HD.one
       obtain ⟨J1, J2, hJ, k50a, k50b⟩ := adj_pairs c r n np l un ln 256 p0 pt x0 dt hc hr HG.out HLN.out HPL.out HDTA.out
       have HJ : Hid (∀ k, k < n → Im.at0 J1 k + Im.at0 J2 k = Im.at0 IM k ∧ -16777216 ≤ Im.at0 IM k ∧ Im.at0 IM k ≤ 16777216) := Lib.hid (fun k hk => by rw [HIM.out]; exact hJ k hk)
       have K50a := Lib.hid k50a
       have K50b := Lib.hid k50b
       have H45a : Hid (∀ x, x ∈ [x0] → x.length ≤ 45) := Lib.hid (fun x hx => HD45.out x (by rw [List.mem_singleton.1 hx]; simp))
       have H45b : Hid (∀ x, x ∈ dt → x.length ≤ 45) := Lib.hid (fun x hx => HD45.out x (by simp [hx]))
       clear hq0 hp0 hp1 hp2 hJ k50a k50b K50 K51 HDTA HIM HPL HFIT
       have qhT0_0 : w61.cell? ⟨w.heap.size, 0, none⟩ = some (.int .i64 c) := cell_at hT0 rfl
       have qhT0_1 : w61.cell? ⟨w.heap.size, 1, none⟩ = some (.int .i64 r) := cell_at hT0 rfl
       have qhT0_2 : w61.cell? ⟨w.heap.size, 2, none⟩ = some (.slice A n cap) := cell_at hT0 rfl
       have qhT1_0 : w61.cell? ⟨w.heap.size + 1, 0, none⟩ = some (.int .i64 un) := cell_at hT1 rfl
       have qhT1_1 : w61.cell? ⟨w.heap.size + 1, 1, none⟩ = some (.int .i64 (ln : Nat)) := cell_at hT1 rfl
       have qhT1_2 : w61.cell? ⟨w.heap.size + 1, 2, none⟩ = some (.int .i64 256) := cell_at hT1 rfl
       have qhT1_3 : w61.cell? ⟨w.heap.size + 1, 3, none⟩ = some (.slice (some ⟨pb, po, none⟩) np capp) := cell_at hT1 rfl
       have qhT2_0 : w61.cell? ⟨w.heap.size + 1 + 1, 0, none⟩ = some (.slice (some ⟨db, do', none⟩) np cd) := cell_at hT2 rfl
       have qhT2_1 : w61.cell? ⟨w.heap.size + 1 + 1, 1, none⟩ = some (.slice E me ce) := cell_at hT2 rfl
       have qhT2_2 : w61.cell? ⟨w.heap.size + 1 + 1, 2, none⟩ = some (.slice M n cm) := cell_at hT2 rfl
       have qhT2_3 : w61.cell? ⟨w.heap.size + 1 + 1, 3, none⟩ = some (.int .i64 s) := cell_at hT2 rfl
       have qhT2_4 : w61.cell? ⟨w.heap.size + 1 + 1, 4, none⟩ = some (.int .i64 f) := cell_at hT2 rfl
       have qhT2_5 : w61.cell? ⟨w.heap.size + 1 + 1, 5, none⟩ = some (.int .i64 i) := cell_at hT2 rfl
       have KH := Lib.hid H
       have KHP := Lib.hid HP
       have KHD := Lib.hid HD
       have KHM := Lib.hid HM
       have Khst := Lib.hid hst
       have KhT0 := Lib.hid hT0
       have KhT1 := Lib.hid hT1
       have KhT2 := Lib.hid hT2
       have KhI5 := Lib.hid hI5
       have KHPt := Lib.hid HPt
       have KHP1 := Lib.hid HP1
       have KHDt := Lib.hid HDt
       have KHD1 := Lib.hid HD1
       have KB := Lib.hid hB61
       go_wp2_with fail
       have zqp := cell_lt hqp0
       refine wp_region_planV [(0, true), (1, true), (2, true), (3, true), (4, true), (5, true), (6, true), (7, true), (8, true), (9, true), (10, true), (11, true), (12, true), (13, true), (14, true), (15, true), (16, true)] 17 18 [(18, false), (19, false), (20, false)] [(17, false), (19, false), (20, false)] w61.heap.size (by kernel_rfl) (by kernel_rfl) (Nat.le_refl _) (fun _ _ d _ _ h => by cases d <;> exact h) ?_
       have zhT0 : w.heap.size < w61.heap.size := (Array.getElem?_eq_some_iff.1 hT0).1
       have zhT1 : w.heap.size + 1 < w61.heap.size := (Array.getElem?_eq_some_iff.1 hT1).1
       have zhT2 : w.heap.size + 1 + 1 < w61.heap.size := (Array.getElem?_eq_some_iff.1 hT2).1
       iterate 8 (refine wpPlanA_softD _ ?_ _ _ rfl rfl rfl (by rfl) ?_ ?_; rotate_left; (intro wq hq hcq; go_simp; first | exact rfl | exact ⟨rfl, rfl⟩); dsimp only [List.set_cons_zero, List.set_cons_succ])
       refine wpPlanA_softD _ (.slice (some ⟨pb, po, none⟩) 1 capp) _ _ rfl rfl rfl (by rfl) (fun wq hq hcq => soft_slice Tryz.underlying25 rfl rfl rfl rfl (hs1 wq)) ?_
       dsimp only [List.set_cons_zero, List.set_cons_succ]
       refine wpPlanA_softD _ (.agg #[.int .i64 un, .int .i64 (ln : Nat), .int .i64 256, .slice (some ⟨pb, po, none⟩) 1 capp]) _ _ rfl rfl rfl (by rfl) (fun wq hq hcq => build27 rfl rfl rfl rfl rfl) ?_
       dsimp only [List.set_cons_zero, List.set_cons_succ]
       iterate 6 (refine wpPlanA_softD _ ?_ _ _ rfl rfl rfl (by rfl) ?_ ?_; rotate_left; (intro wq hq hcq; go_simp; first | exact rfl | exact ⟨rfl, rfl⟩); dsimp only [List.set_cons_zero, List.set_cons_succ])
       refine wpPlanA_softD _ (.agg #[.int .i64 un, .int .i64 (ln : Nat), .int .i64 256, .slice none 0 0]) _ _ rfl rfl rfl (by rfl) (fun wq hq hcq => build27z rfl rfl rfl rfl) ?_
       dsimp only [List.set_cons_zero, List.set_cons_succ]
       refine wpPlanA_nil (fun wS hS => ?_)
       apply merge90
       ·
         intro key
         refine wpPlan_toA ?_
         refine wpPlanA_hard _ rfl (by rfl) (fun waA hSA K hK => ?_)
         go_simp
         have hCA := hS.call hSA rfl
         refine hK _ _ (hCA.alloc hCA.size _) ?_
         clear hK K
         have hkA : (waA.alloc (Obj.cells #[.int .i64 0, .int .i64 0, .int .i64 0, .slice none 0 0] 27)).heap[waA.heap.size]? = some (Obj.cells #[.int .i64 0, .int .i64 0, .int .i64 0, .slice none 0 0] 27) := heap_new rfl
         have hgeA : w61.heap.size ≤ waA.heap.size := hCA.size
         have hDA := hCA.call (bl2 waA (Obj.cells #[.int .i64 0, .int .i64 0, .int .i64 0, .slice none 0 0] 27)) rfl
         have hltA : waA.heap.size < (waA.alloc (Obj.cells #[.int .i64 0, .int .i64 0, .int .i64 0, .slice none 0 0] 27)).heap.size := by simp
         have hleA : wS.heap.size ≤ waA.heap.size := hSA.size
         clear hCA
         generalize hWn : waA.alloc (Obj.cells #[.int .i64 0, .int .i64 0, .int .i64 0, .slice none 0 0] 27) = wb1 at hkA hDA hltA ⊢
         clear hWn
         obtain ⟨b33, hbn⟩ : ∃ b, b = waA.heap.size := ⟨_, rfl⟩
         rw [← hbn] at hkA hgeA hltA hleA ⊢
         clear hbn
         try simp only [Act.put, List.setIfInBounds_toArray, List.set_cons_zero, List.set_cons_succ]
         refine wpPlanA_hard _ rfl (by rfl) (fun waB hSB K hK => ?_)
         go_simp
         have hCB := hDA.call hSB rfl
         refine hK _ _ (hCB.alloc hCB.size _) ?_
         clear hK K
         have hkB : (waB.alloc (Obj.cells #[.int .i64 0, .int .i64 0, .int .i64 0, .slice none 0 0] 27)).heap[waB.heap.size]? = some (Obj.cells #[.int .i64 0, .int .i64 0, .int .i64 0, .slice none 0 0] 27) := heap_new rfl
         have hkA2 := blkb (blkb hkA hSB) (bl2 waB (Obj.cells #[.int .i64 0, .int .i64 0, .int .i64 0, .slice none 0 0] 27))
         have hgeB : w61.heap.size ≤ waB.heap.size := hCB.size
         have hDB := hCB.call (bl2 waB (Obj.cells #[.int .i64 0, .int .i64 0, .int .i64 0, .slice none 0 0] 27)) rfl
         have hltB : waB.heap.size < (waB.alloc (Obj.cells #[.int .i64 0, .int .i64 0, .int .i64 0, .slice none 0 0] 27)).heap.size := by simp
         have hleB : wb1.heap.size ≤ waB.heap.size := hSB.size
         clear hCB
         generalize hWn : waB.alloc (Obj.cells #[.int .i64 0, .int .i64 0, .int .i64 0, .slice none 0 0] 27) = wb2 at hkB hDB hltB hkA2 ⊢
         clear hWn
         obtain ⟨b34, hbn⟩ : ∃ b, b = waB.heap.size := ⟨_, rfl⟩
         rw [← hbn] at hkB hgeB hltB hleB ⊢
         clear hbn
         try simp only [Act.put, List.setIfInBounds_toArray, List.set_cons_zero, List.set_cons_succ]
         have hne : b33 ≠ b34 := by omega
         have hg33 : w61.heap.size ≤ b33 := by omega
         have hg34 : w61.heap.size ≤ b34 := by omega
         have h33 := hkA2
         have h34 := hkB
         have hDB' := hDB
         clear hkA hkA2 hkB hSA hSB hDA hDB hgeA hgeB hltA hltB hleA hleB
         revert hDB' h34 h33 hg34 hg33 hne
         exact key b33 b34 wb2
       ·
         intro key
         refine wpPlan_toA ?_
         refine wpPlanA_hard _ rfl (by rfl) (fun waA hSA K hK => ?_)
         go_simp
         have hCA := hS.call hSA rfl
         refine hK _ _ (hCA.alloc hCA.size _) ?_
         clear hK K
         have hkA : (waA.alloc (Obj.cells #[.int .i64 0, .int .i64 0, .int .i64 0, .slice none 0 0] 27)).heap[waA.heap.size]? = some (Obj.cells #[.int .i64 0, .int .i64 0, .int .i64 0, .slice none 0 0] 27) := heap_new rfl
         have hgeA : w61.heap.size ≤ waA.heap.size := hCA.size
         have hDA := hCA.call (bl2 waA (Obj.cells #[.int .i64 0, .int .i64 0, .int .i64 0, .slice none 0 0] 27)) rfl
         have hltA : waA.heap.size < (waA.alloc (Obj.cells #[.int .i64 0, .int .i64 0, .int .i64 0, .slice none 0 0] 27)).heap.size := by simp
         have hleA : wS.heap.size ≤ waA.heap.size := hSA.size
         clear hCA
         generalize hWn : waA.alloc (Obj.cells #[.int .i64 0, .int .i64 0, .int .i64 0, .slice none 0 0] 27) = wb1 at hkA hDA hltA ⊢
         clear hWn
         obtain ⟨b34, hbn⟩ : ∃ b, b = waA.heap.size := ⟨_, rfl⟩
         rw [← hbn] at hkA hgeA hltA hleA ⊢
         clear hbn
         try simp only [Act.put, List.setIfInBounds_toArray, List.set_cons_zero, List.set_cons_succ]
         refine wpPlanA_hard _ rfl (by rfl) (fun waB hSB K hK => ?_)
         go_simp
         have hCB := hDA.call hSB rfl
         refine hK _ _ (hCB.alloc hCB.size _) ?_
         clear hK K
         have hkB : (waB.alloc (Obj.cells #[.int .i64 0, .int .i64 0, .int .i64 0, .slice none 0 0] 27)).heap[waB.heap.size]? = some (Obj.cells #[.int .i64 0, .int .i64 0, .int .i64 0, .slice none 0 0] 27) := heap_new rfl
         have hkA2 := blkb (blkb hkA hSB) (bl2 waB (Obj.cells #[.int .i64 0, .int .i64 0, .int .i64 0, .slice none 0 0] 27))
         have hgeB : w61.heap.size ≤ waB.heap.size := hCB.size
         have hDB := hCB.call (bl2 waB (Obj.cells #[.int .i64 0, .int .i64 0, .int .i64 0, .slice none 0 0] 27)) rfl
         have hltB : waB.heap.size < (waB.alloc (Obj.cells #[.int .i64 0, .int .i64 0, .int .i64 0, .slice none 0 0] 27)).heap.size := by simp
         have hleB : wb1.heap.size ≤ waB.heap.size := hSB.size
         clear hCB
         generalize hWn : waB.alloc (Obj.cells #[.int .i64 0, .int .i64 0, .int .i64 0, .slice none 0 0] 27) = wb2 at hkB hDB hltB hkA2 ⊢
         clear hWn
         obtain ⟨b33, hbn⟩ : ∃ b, b = waB.heap.size := ⟨_, rfl⟩
         rw [← hbn] at hkB hgeB hltB hleB ⊢
         clear hbn
         try simp only [Act.put, List.setIfInBounds_toArray, List.set_cons_zero, List.set_cons_succ]
         have hne : b33 ≠ b34 := by omega
         have hg33 : w61.heap.size ≤ b33 := by omega
         have hg34 : w61.heap.size ≤ b34 := by omega
         have h33 := hkB
         have h34 := hkA2
         have hDB' := hDB
         clear hkA hkA2 hkB hSA hSB hDA hDB hgeA hgeB hltA hltB hleA hleB
         revert hDB' h34 h33 hg34 hg33 hne
         exact key b33 b34 wb2
       intro b33 b34 wb2 hne hg33 hg34 h33 h34 hDB'
       refine wpPlanA_hard _ rfl (by rfl) (fun wc1 hSc K hK => ?_)
       have hE1 := hDB'.call hSc rfl
       replace h33 := blkb h33 hSc
       replace h34 := blkb h34 hSc
       clear hSc hDB'
       refine wp_store_blk 27 _ _ rfl b33 _ rfl rfl h33 ?s1 ?s2 ?s3 ?_
       case s1 => rfl
       case s2 => kernel_rfl
       case s3 => simp [Value.oneCell']
       intro wc2 hX6 hg6 hs6
       have hE2 := hE1.grown hg6 hE1.size (fun j hj => by cases hj; exact hg33)
       have h34' := (hg6.block b34 (Array.getElem?_eq_some_iff.1 h34).1 (by simp; exact fun e => hne e.symm)).trans h34
       refine hK _ _ hE2 ?_
       clear hK K hs6 hg6 hE1 h33 h34
       try simp only [Act.put, List.setIfInBounds_toArray, List.set_cons_zero, List.set_cons_succ]
       refine wpPlanA_hard _ rfl (by rfl) (fun wc3 hSc K hK => ?_)
       have hE3 := hE2.call hSc rfl
       replace hX6 := blkb hX6 hSc
       replace h34' := blkb h34' hSc
       clear hSc hE2
       refine wp_store_blk 27 _ _ rfl b34 _ rfl rfl h34' ?s4 ?s5 ?s6 ?_
       case s4 => rfl
       case s5 => kernel_rfl
       case s6 => simp [Value.oneCell']
       intro wc4 hY6 hg6 hs6
       have hE4 := hE3.grown hg6 hE3.size (fun j hj => by cases hj; exact hg34)
       have hX7 := (hg6.block b33 (Array.getElem?_eq_some_iff.1 hX6).1 (by simp; exact fun e => hne e)).trans hX6
       refine hK _ _ hE4 ?_
       clear hK K hs6 hg6 hE3 hX6 h34'
       try simp only [Act.put, List.setIfInBounds_toArray, List.set_cons_zero, List.set_cons_succ]
       refine wpPlanA_nil (fun wc5 hSc => ?_)
       have h33 : Hid (wc5.heap[b33]? = some (.cells #[.int .i64 un, .int .i64 (ln : Nat), .int .i64 256, .slice (some ⟨pb, po, none⟩) 1 capp] 27 (0, 0))) := Lib.hid (blkb hX7 hSc)
       have h34 : Hid (wc5.heap[b34]? = some (.cells #[.int .i64 un, .int .i64 (ln : Nat), .int .i64 256, .slice none 0 0] 27 (0, 0))) := Lib.hid (blkb hY6 hSc)
       have hE5 := Lib.hid (hE4.call hSc rfl)
       clear hSc hE4 hX7 hY6 zhT0 zhT1 zhT2
       clear qhT0_0 qhT0_1 qhT0_2 qhT1_0 qhT1_1 qhT1_2 qhT1_3 qhT2_0 qhT2_1 qhT2_2 qhT2_3 qhT2_4 qhT2_5
       obtain ⟨w300, hww⟩ : ∃ W, W = wc5 := ⟨_, rfl⟩
       subst hww
       have hS := hE5.out
       have hB300 := hB61.call hS rfl
       replace hqp0 := (hS.cell (p := ⟨pb, po, none⟩) zqp).trans hqp0
       replace hqp1 := (hS.cell (p := ⟨pb, po + 1, none⟩) zqp).trans hqp1
       replace zqp := Nat.lt_of_lt_of_le zqp hS.size
       replace H := H.below hS
       replace HP := HP.below hS
       replace HD := HD.below hS
       replace HM := HM.below hS
       replace hst := hst.below hS
       replace hT0 := blkb hT0 hS
       replace hT1 := blkb hT1 hS
       replace hT2 := blkb hT2 hS
       replace hI5 := hI5.below hS
       replace HPt := HPt.below hS
       replace HP1 := HP1.below hS
       replace HDt := HDt.below hS
       replace HD1 := HD1.below hS
       have HS39 := hE5
       have hWle : w61.heap.size ≤ w300.heap.size := hS.size
       clear hS hB61
       replace h33 := h33.out
       replace h34 := h34.out
       have qhT0_0 : w300.cell? ⟨w.heap.size, 0, none⟩ = some (.int .i64 c) := cell_at hT0 rfl
       have qhT0_1 : w300.cell? ⟨w.heap.size, 1, none⟩ = some (.int .i64 r) := cell_at hT0 rfl
       have qhT0_2 : w300.cell? ⟨w.heap.size, 2, none⟩ = some (.slice A n cap) := cell_at hT0 rfl
       have qhT1_0 : w300.cell? ⟨w.heap.size + 1, 0, none⟩ = some (.int .i64 un) := cell_at hT1 rfl
       have qhT1_1 : w300.cell? ⟨w.heap.size + 1, 1, none⟩ = some (.int .i64 (ln : Nat)) := cell_at hT1 rfl
       have qhT1_2 : w300.cell? ⟨w.heap.size + 1, 2, none⟩ = some (.int .i64 256) := cell_at hT1 rfl
       have qhT1_3 : w300.cell? ⟨w.heap.size + 1, 3, none⟩ = some (.slice (some ⟨pb, po, none⟩) np capp) := cell_at hT1 rfl
       have qhT2_0 : w300.cell? ⟨w.heap.size + 1 + 1, 0, none⟩ = some (.slice (some ⟨db, do', none⟩) np cd) := cell_at hT2 rfl
       have qhT2_1 : w300.cell? ⟨w.heap.size + 1 + 1, 1, none⟩ = some (.slice E me ce) := cell_at hT2 rfl
       have qhT2_2 : w300.cell? ⟨w.heap.size + 1 + 1, 2, none⟩ = some (.slice M n cm) := cell_at hT2 rfl
       have qhT2_3 : w300.cell? ⟨w.heap.size + 1 + 1, 3, none⟩ = some (.int .i64 s) := cell_at hT2 rfl
       have qhT2_4 : w300.cell? ⟨w.heap.size + 1 + 1, 4, none⟩ = some (.int .i64 f) := cell_at hT2 rfl
       have qhT2_5 : w300.cell? ⟨w.heap.size + 1 + 1, 5, none⟩ = some (.int .i64 i) := cell_at hT2 rfl
       have qh33_0 : w300.cell? ⟨b33, 0, none⟩ = some (.int .i64 un) := cell_at h33 rfl
       have qh33_1 : w300.cell? ⟨b33, 1, none⟩ = some (.int .i64 (ln : Nat)) := cell_at h33 rfl
       have qh33_2 : w300.cell? ⟨b33, 2, none⟩ = some (.int .i64 256) := cell_at h33 rfl
       have qh33_3 : w300.cell? ⟨b33, 3, none⟩ = some (.slice (some ⟨pb, po, none⟩) 1 capp) := cell_at h33 rfl
       have qh34_0 : w300.cell? ⟨b34, 0, none⟩ = some (.int .i64 un) := cell_at h34 rfl
       have qh34_1 : w300.cell? ⟨b34, 1, none⟩ = some (.int .i64 (ln : Nat)) := cell_at h34 rfl
       have qh34_2 : w300.cell? ⟨b34, 2, none⟩ = some (.int .i64 256) := cell_at h34 rfl
       have qh34_3 : w300.cell? ⟨b34, 3, none⟩ = some (.slice none 0 0) := cell_at h34 rfl
       go_wp2_with fail
       refine wp_region_planL [(0, true), (1, true), (2, true), (3, true), (4, true), (5, true), (6, true), (7, true), (8, true), (9, true), (10, true), (11, true), (12, true), (15, true), (16, true), (17, true), (13, false), (14, false), (18, false), (19, true)] w300.heap.size 20 (by kernel_rfl) (by kernel_rfl) (Nat.le_refl _) (fun _ _ d _ _ h => by cases d <;> exact h) ?_
       have zhT0 : w.heap.size < w300.heap.size := (Array.getElem?_eq_some_iff.1 hT0).1
       have zhT1 : w.heap.size + 1 < w300.heap.size := (Array.getElem?_eq_some_iff.1 hT1).1
       have zhT2 : w.heap.size + 1 + 1 < w300.heap.size := (Array.getElem?_eq_some_iff.1 hT2).1
       have zh33 : b33 < w300.heap.size := (Array.getElem?_eq_some_iff.1 h33).1
       have zh34 : b34 < w300.heap.size := (Array.getElem?_eq_some_iff.1 h34).1
       iterate 12 (refine wpPlanLA_softD _ ?_ _ _ rfl rfl rfl (by rfl) ?_ ?_; rotate_left; (intro wq hq hcq; go_simp; first | exact rfl | exact ⟨rfl, rfl⟩); dsimp only [List.set_cons_zero, List.set_cons_succ])
       refine wpPlanLA_softD _ (.agg #[.int .i64 p0.s, .int .i64 p0.r, .bool true]) _ _ rfl rfl rfl (by rfl) (fun wq hq hcq => build101 rfl rfl rfl rfl) ?_
       dsimp only [List.set_cons_zero, List.set_cons_succ]
       iterate 2 (refine wpPlanLA_softD _ ?_ _ _ rfl rfl rfl (by rfl) ?_ ?_; rotate_left; (intro wq hq hcq; go_simp; first | exact rfl | exact ⟨rfl, rfl⟩); dsimp only [List.set_cons_zero, List.set_cons_succ])
       refine wpPlanLA_softD _ (.slice (some ⟨pb, offS 3 capp po, none⟩) (np - 1) (capp - 1)) _ _ rfl rfl rfl (by rfl) (fun wq hq hcq => soft_slice Tryz.underlying25 rfl rfl rfl rfl (hs2 wq)) ?_
       dsimp only [List.set_cons_zero, List.set_cons_succ]
       refine wpPlanLA_hard _ rfl (by rfl) (fun wd1 hS K hK => ?_)
       go_simp
       refine hK _ _ (hS.alloc hS.size _) ?_
       clear hK K
       have hrd : RdP (wd1.alloc (Obj.cells #[.int .i64 p0.s, .int .i64 p0.r, .bool true] 101)) (some ⟨wd1.heap.size, 0, none⟩) 1 [⟨p0.s, p0.r, true⟩] := RdS.of_new (cs := Pr.enc ⟨p0.s, p0.r, true⟩) rfl rfl
       have hC := hS.alloc hS.size (Obj.cells #[.int .i64 p0.s, .int .i64 p0.r, .bool true] 101)
       clear hS
       generalize wd1.alloc (Obj.cells #[.int .i64 p0.s, .int .i64 p0.r, .bool true] 101) = wd2 at hrd hC ⊢
       generalize wd1.heap.size = g3 at hrd ⊢
       try simp only [Act.put, List.setIfInBounds_toArray, List.set_cons_zero, List.set_cons_succ]
       refine wpPlanLA_hard _ rfl (by rfl) (fun wd3 hS K hK => ?_)
       replace hC := hC.call hS rfl
       replace hrd := hrd.below hS
       clear hS
       refine wp_appP _ _ rfl w300.heap.size (.slice none 0 0) 0 [] [⟨p0.s, p0.r, true⟩] rfl (World.ownsRow_nil _ _ _ _) (some ⟨g3, 0, none⟩) 1 1 rfl hrd (by omega) hC.size ?_
       intro v1 wd4 ho1 hb1
       refine hK _ _ (hC.trans hb1) ?_
       clear hK K hrd
       replace hC := hC.trans hb1
       clear hb1
       obtain ⟨V1, vc1, rfl⟩ := own_slice ho1
       try simp only [Act.put, List.setIfInBounds_toArray, List.set_cons_zero, List.set_cons_succ]
       refine wpPlanLA_hard _ rfl (by rfl) (fun wd5 hS K hK => ?_)
       replace hC := hC.call hS rfl
       replace ho1 := own_below ho1 hS
       clear hS
       have hpt := HPt.below hC
       refine wp_appP _ _ rfl w300.heap.size (.slice V1 1 vc1) 1 [⟨p0.s, p0.r, true⟩] pt rfl ho1 (some ⟨pb, offS 3 capp po, none⟩) (np - 1) (capp - 1) rfl hpt (by omega) hC.size ?_
       intro v2 wd6 ho2 hb1
       refine hK _ _ (hC.trans hb1) ?_
       clear hK K hpt ho1
       replace hC := hC.trans hb1
       clear hb1
       have hnp9 : 1 + (np - 1) = np := by omega
       rw [hnp9] at ho2
       obtain ⟨V2, vc2, rfl⟩ := own_slice ho2
       try simp only [Act.put, List.setIfInBounds_toArray, List.set_cons_zero, List.set_cons_succ]
       iterate 1 (refine wpPlanLA_softD _ ?_ _ _ rfl rfl rfl (by rfl) ?_ ?_; rotate_left; (intro wq hq hcq; go_simp; first | exact rfl | exact ⟨rfl, rfl⟩); dsimp only [List.set_cons_zero, List.set_cons_succ])
       refine wpPlanLA_last _ rfl (by rfl) (fun wd7 hS K hK => ?_)
       replace hC := hC.call hS rfl
       replace ho2 := own_below ho2 hS
       clear hS
       have h347 := blkb h34 hC
       have qc : wd7.cell? ⟨b34, 3, none⟩ = some (.slice none 0 0) := cell_at h347 rfl
       have qf : wd7.frozen? ⟨b34, 3, none⟩ = false := free_at h347
       have zq := cell_lt qc
       go_simp
       refine hK _ _ (fun wd8 hS8 => ?_)
       clear hK K
       have hN34 : Hid (wd8.heap[b34]? = some (.cells #[.int .i64 un, .int .i64 (ln : Nat), .int .i64 256, .slice V2 np vc2] 27 (0, 0))) := Lib.hid (blkb (set_blk (i := 3) h347 _) hS8)
       have hN33 : Hid (wd8.heap[b33]? = some (.cells #[.int .i64 un, .int .i64 (ln : Nat), .int .i64 256, .slice (some ⟨pb, po, none⟩) 1 capp] 27 (0, 0))) := Lib.hid (blkb (heap_set _ (blkb h33 hC) (by show b33 ≠ b34; exact hne)) hS8)
       have hOW : Hid (RdP wd8 V2 np (⟨p0.s, p0.r, true⟩ :: pt) ∧ np ≤ vc2) := Lib.hid (by
        have h := own_below (own_setfar (p := ⟨b34, 3, none⟩) (u := .slice V2 np vc2) ho2 zh34) hS8
        obtain ⟨A9, c9, e9, hr9, hc9, _⟩ := own_form h
        cases e9
        exact ⟨hr9, hc9⟩)
       have hgr : Hid (Below w61.heap.size w61 wd8) := Lib.hid (HS39.out.trans (((hC.mono hWle).setCell (p := ⟨b34, 3, none⟩) hg34 _).trans (hS8.mono (by have := hC.size; simp; omega))))
       clear hS8 qc qf zq h347 ho2 hC zhT0 zhT1 zhT2 zh33 zh34
       clear qhT0_0 qhT0_1 qhT0_2 qhT1_0 qhT1_1 qhT1_2 qhT1_3 qhT2_0 qhT2_1 qhT2_2 qhT2_3 qhT2_4 qhT2_5 qh33_0 qh33_1 qh33_2 qh33_3 qh34_0 qh34_1 qh34_2 qh34_3
       clear H
       clear HP
       clear HD
       clear HM
       clear hst
       clear hT0
       clear hT1
       clear hT2
       clear hI5
       clear HPt
       clear HP1
       clear HDt
       clear HD1
       clear h33
       clear h34
       clear hB300 hqp0 hqp1 zqp
       obtain ⟨w400, hww⟩ : ∃ W, W = wd8 := ⟨_, rfl⟩
       subst hww
       have hB400 := KB.out.call hgr.out rfl
       have H := KH.out.below hgr.out
       have HP := KHP.out.below hgr.out
       have HD := KHD.out.below hgr.out
       have HM := KHM.out.below hgr.out
       have hst := Khst.out.below hgr.out
       have hT0 := blkb KhT0.out hgr.out
       have hT1 := blkb KhT1.out hgr.out
       have hT2 := blkb KhT2.out hgr.out
       have hI5 := KhI5.out.below hgr.out
       have HPt := KHPt.out.below hgr.out
       have HP1 := KHP1.out.below hgr.out
       have HDt := KHDt.out.below hgr.out
       have HD1 := KHD1.out.below hgr.out
       have h33 := hN33.out
       have h34 := hN34.out
       obtain ⟨HP2, hvc2⟩ := hOW.out
       clear hN33 hN34 hOW hgr
       have qhT0_0 : w400.cell? ⟨w.heap.size, 0, none⟩ = some (.int .i64 c) := cell_at hT0 rfl
       have qhT0_1 : w400.cell? ⟨w.heap.size, 1, none⟩ = some (.int .i64 r) := cell_at hT0 rfl
       have qhT0_2 : w400.cell? ⟨w.heap.size, 2, none⟩ = some (.slice A n cap) := cell_at hT0 rfl
       have qhT1_0 : w400.cell? ⟨w.heap.size + 1, 0, none⟩ = some (.int .i64 un) := cell_at hT1 rfl
       have qhT1_1 : w400.cell? ⟨w.heap.size + 1, 1, none⟩ = some (.int .i64 (ln : Nat)) := cell_at hT1 rfl
       have qhT1_2 : w400.cell? ⟨w.heap.size + 1, 2, none⟩ = some (.int .i64 256) := cell_at hT1 rfl
       have qhT1_3 : w400.cell? ⟨w.heap.size + 1, 3, none⟩ = some (.slice (some ⟨pb, po, none⟩) np capp) := cell_at hT1 rfl
       have qhT2_0 : w400.cell? ⟨w.heap.size + 1 + 1, 0, none⟩ = some (.slice (some ⟨db, do', none⟩) np cd) := cell_at hT2 rfl
       have qhT2_1 : w400.cell? ⟨w.heap.size + 1 + 1, 1, none⟩ = some (.slice E me ce) := cell_at hT2 rfl
       have qhT2_2 : w400.cell? ⟨w.heap.size + 1 + 1, 2, none⟩ = some (.slice M n cm) := cell_at hT2 rfl
       have qhT2_3 : w400.cell? ⟨w.heap.size + 1 + 1, 3, none⟩ = some (.int .i64 s) := cell_at hT2 rfl
       have qhT2_4 : w400.cell? ⟨w.heap.size + 1 + 1, 4, none⟩ = some (.int .i64 f) := cell_at hT2 rfl
       have qhT2_5 : w400.cell? ⟨w.heap.size + 1 + 1, 5, none⟩ = some (.int .i64 i) := cell_at hT2 rfl
       have qh33_0 : w400.cell? ⟨b33, 0, none⟩ = some (.int .i64 un) := cell_at h33 rfl
       have qh33_1 : w400.cell? ⟨b33, 1, none⟩ = some (.int .i64 (ln : Nat)) := cell_at h33 rfl
       have qh33_2 : w400.cell? ⟨b33, 2, none⟩ = some (.int .i64 256) := cell_at h33 rfl
       have qh33_3 : w400.cell? ⟨b33, 3, none⟩ = some (.slice (some ⟨pb, po, none⟩) 1 capp) := cell_at h33 rfl
       have qh34_0 : w400.cell? ⟨b34, 0, none⟩ = some (.int .i64 un) := cell_at h34 rfl
       have qh34_1 : w400.cell? ⟨b34, 1, none⟩ = some (.int .i64 (ln : Nat)) := cell_at h34 rfl
       have qh34_2 : w400.cell? ⟨b34, 2, none⟩ = some (.int .i64 256) := cell_at h34 rfl
       have qh34_3 : w400.cell? ⟨b34, 3, none⟩ = some (.slice V2 np vc2) := cell_at h34 rfl
       as_aux_lemma =>
        go_wp2_with fail
        refine wp_region_plan [(0, true), (2, true), (4, true), (5, true), (6, true), (1, false), (3, false), (7, false), (8, false), (9, true), (10, true), (11, true), (12, true), (13, true)] w400.heap.size (by kernel_rfl) (by kernel_rfl) (Nat.le_refl _) (fun _ _ d _ _ h => by cases d <;> exact h) ?_
        have hC : Below w400.heap.size w400 w400 := Below.refl _ _
        have zhT0 : w.heap.size < w400.heap.size := (Array.getElem?_eq_some_iff.1 hT0).1
        have zhT1 : w.heap.size + 1 < w400.heap.size := (Array.getElem?_eq_some_iff.1 hT1).1
        have zhT2 : w.heap.size + 1 + 1 < w400.heap.size := (Array.getElem?_eq_some_iff.1 hT2).1
        have zh33 : b33 < w400.heap.size := (Array.getElem?_eq_some_iff.1 h33).1
        have zh34 : b34 < w400.heap.size := (Array.getElem?_eq_some_iff.1 h34).1
        iterate 4 (refine wpPlanA_softD _ ?_ _ _ rfl rfl rfl (by rfl) ?_ ?_; rotate_left; (intro wq hq hcq; go_simp; first | exact rfl | exact ⟨rfl, rfl⟩); dsimp only [List.set_cons_zero, List.set_cons_succ])
        refine wpPlanA_softD _ (.slice (some ⟨db, do', none⟩) 1 cd) _ _ rfl rfl rfl (by rfl) (fun wq hq hcq => soft_slice Tryz.underlying31 rfl rfl rfl rfl (hs3 wq)) ?_
        dsimp only [List.set_cons_zero, List.set_cons_succ]
        refine wpPlanA_hard _ rfl (by rfl) (fun w401 hS K hK => ?_)
        go_simp
        refine (c20d c r A n cap l _ hl (H.below hS)).mono ?_
        rintro e w402 ⟨B7, cb7, rfl, hr7, hb⟩
        replace hS := hS.call hb rfl
        have hB402 := hB400.call hS rfl
        replace hC := hC.call hS rfl
        replace H := H.below hS
        replace HP := HP.below hS
        replace HD := HD.below hS
        replace HM := HM.below hS
        replace hst := hst.below hS
        replace hT0 := blkb hT0 hS
        replace hT1 := blkb hT1 hS
        replace hT2 := blkb hT2 hS
        replace hI5 := hI5.below hS
        replace HPt := HPt.below hS
        replace HP1 := HP1.below hS
        replace HDt := HDt.below hS
        replace HD1 := HD1.below hS
        replace h33 := blkb h33 hS
        replace h34 := blkb h34 hS
        replace HP2 := HP2.below hS
        refine hK _ _ hC ?_
        clear hS hb hB400 hK K
        try simp only [Act.put, List.setIfInBounds_toArray, List.set_cons_zero, List.set_cons_succ]
        refine wpPlanA_hard _ rfl (by rfl) (fun w403 hS K hK => ?_)
        go_simp
        refine (c21d un ln 256 (some ⟨pb, po, none⟩) 1 capp [p0] _ (by omega) (HP1.below hS)).mono ?_
        rintro e w404 ⟨P8, pc8, rfl, ⟨hp8, hq8⟩, hb⟩
        replace hS := hS.call hb rfl
        have hB404 := hB402.call hS rfl
        replace hC := hC.call hS rfl
        replace H := H.below hS
        replace HP := HP.below hS
        replace HD := HD.below hS
        replace HM := HM.below hS
        replace hst := hst.below hS
        replace hT0 := blkb hT0 hS
        replace hT1 := blkb hT1 hS
        replace hT2 := blkb hT2 hS
        replace hI5 := hI5.below hS
        replace HPt := HPt.below hS
        replace HP1 := HP1.below hS
        replace HDt := HDt.below hS
        replace HD1 := HD1.below hS
        replace h33 := blkb h33 hS
        replace h34 := blkb h34 hS
        replace HP2 := HP2.below hS
        replace hr7 := hr7.below hS
        refine hK _ _ hC ?_
        clear hS hb hB402 hK K
        try simp only [Act.put, List.setIfInBounds_toArray, List.set_cons_zero, List.set_cons_succ]
        refine wpPlanA_hard _ rfl (by rfl) (fun w405 hS K hK => ?_)
        go_simp
        refine (c33d (some ⟨db, do', none⟩) 1 cd [x0] _ (by omega) H45a.out (HD1.below hS)).mono ?_
        rintro e w406 ⟨F9, fc9, rfl, he9, hb⟩
        replace hS := hS.call hb rfl
        have hB406 := hB404.call hS rfl
        replace hC := hC.call hS rfl
        replace H := H.below hS
        replace HP := HP.below hS
        replace HD := HD.below hS
        replace HM := HM.below hS
        replace hst := hst.below hS
        replace hT0 := blkb hT0 hS
        replace hT1 := blkb hT1 hS
        replace hT2 := blkb hT2 hS
        replace hI5 := hI5.below hS
        replace HPt := HPt.below hS
        replace HP1 := HP1.below hS
        replace HDt := HDt.below hS
        replace HD1 := HD1.below hS
        replace h33 := blkb h33 hS
        replace h34 := blkb h34 hS
        replace HP2 := HP2.below hS
        replace hr7 := hr7.below hS
        replace hp8 := hp8.below hS
        refine hK _ _ hC ?_
        clear hS hb hB404 hK K
        try simp only [Act.put, List.setIfInBounds_toArray, List.set_cons_zero, List.set_cons_succ]
        refine wpPlanA_hard _ rfl (by rfl) (fun w407 hS K hK => ?_)
        go_simp
        refine (K50a.out _ _ _ _ _ _ _ hq8 (hr7.below hS) (hp8.below hS) (he9.below hS) (hst.below hS)).mono ?_
        rintro e w408 ⟨J5, jc5, rfl, hJ5, hb⟩
        replace hS := hS.call hb rfl
        have hB408 := hB406.call hS rfl
        replace hC := hC.call hS rfl
        replace H := H.below hS
        replace HP := HP.below hS
        replace HD := HD.below hS
        replace HM := HM.below hS
        replace hst := hst.below hS
        replace hT0 := blkb hT0 hS
        replace hT1 := blkb hT1 hS
        replace hT2 := blkb hT2 hS
        replace hI5 := hI5.below hS
        replace HPt := HPt.below hS
        replace HP1 := HP1.below hS
        replace HDt := HDt.below hS
        replace HD1 := HD1.below hS
        replace h33 := blkb h33 hS
        replace h34 := blkb h34 hS
        replace HP2 := HP2.below hS
        replace hr7 := hr7.below hS
        replace hp8 := hp8.below hS
        replace he9 := he9.below hS
        refine hK _ _ hC ?_
        clear hS hb hB406 hK K
        try simp only [Act.put, List.setIfInBounds_toArray, List.set_cons_zero, List.set_cons_succ]
        repeat (first | (refine wpPlanA_skip _ rfl (by rfl) ?_; simp only [Act.put, List.setIfInBounds_toArray, List.set_cons_zero, List.set_cons_succ]) | (refine wpPlanA_softD _ ?_ _ _ rfl rfl rfl (by rfl) ?_ ?_; rotate_left; (intro wq hq hcq; go_simp; first | exact rfl | exact ⟨rfl, rfl⟩); dsimp only [List.set_cons_zero, List.set_cons_succ]))
        clear hr7
        clear hp8
        clear he9
        clear qhT0_0 qhT0_1 qhT0_2 qhT1_0 qhT1_1 qhT1_2 qhT1_3 qhT2_0 qhT2_1 qhT2_2 qhT2_3 qhT2_4 qhT2_5 qh33_0 qh33_1 qh33_2 qh33_3 qh34_0 qh34_1 qh34_2 qh34_3
        refine wpPlanA_nil (fun w409 hS => ?_)
        clear hC zhT0 zhT1 zhT2 zh33 zh34
        have hB409 := hB408.call hS rfl
        replace H := H.below hS
        replace HP := HP.below hS
        replace HD := HD.below hS
        replace HM := HM.below hS
        replace hst := hst.below hS
        replace hT0 := blkb hT0 hS
        replace hT1 := blkb hT1 hS
        replace hT2 := blkb hT2 hS
        replace hI5 := hI5.below hS
        replace HPt := HPt.below hS
        replace HP1 := HP1.below hS
        replace HDt := HDt.below hS
        replace HD1 := HD1.below hS
        replace h33 := blkb h33 hS
        replace h34 := blkb h34 hS
        replace HP2 := HP2.below hS
        replace hJ5 := hJ5.below hS
        clear hS hB408
        have qhT0_0 : w409.cell? ⟨w.heap.size, 0, none⟩ = some (.int .i64 c) := cell_at hT0 rfl
        have qhT0_1 : w409.cell? ⟨w.heap.size, 1, none⟩ = some (.int .i64 r) := cell_at hT0 rfl
        have qhT0_2 : w409.cell? ⟨w.heap.size, 2, none⟩ = some (.slice A n cap) := cell_at hT0 rfl
        have qhT1_0 : w409.cell? ⟨w.heap.size + 1, 0, none⟩ = some (.int .i64 un) := cell_at hT1 rfl
        have qhT1_1 : w409.cell? ⟨w.heap.size + 1, 1, none⟩ = some (.int .i64 (ln : Nat)) := cell_at hT1 rfl
        have qhT1_2 : w409.cell? ⟨w.heap.size + 1, 2, none⟩ = some (.int .i64 256) := cell_at hT1 rfl
        have qhT1_3 : w409.cell? ⟨w.heap.size + 1, 3, none⟩ = some (.slice (some ⟨pb, po, none⟩) np capp) := cell_at hT1 rfl
        have qhT2_0 : w409.cell? ⟨w.heap.size + 1 + 1, 0, none⟩ = some (.slice (some ⟨db, do', none⟩) np cd) := cell_at hT2 rfl
        have qhT2_1 : w409.cell? ⟨w.heap.size + 1 + 1, 1, none⟩ = some (.slice E me ce) := cell_at hT2 rfl
        have qhT2_2 : w409.cell? ⟨w.heap.size + 1 + 1, 2, none⟩ = some (.slice M n cm) := cell_at hT2 rfl
        have qhT2_3 : w409.cell? ⟨w.heap.size + 1 + 1, 3, none⟩ = some (.int .i64 s) := cell_at hT2 rfl
        have qhT2_4 : w409.cell? ⟨w.heap.size + 1 + 1, 4, none⟩ = some (.int .i64 f) := cell_at hT2 rfl
        have qhT2_5 : w409.cell? ⟨w.heap.size + 1 + 1, 5, none⟩ = some (.int .i64 i) := cell_at hT2 rfl
        have qh33_0 : w409.cell? ⟨b33, 0, none⟩ = some (.int .i64 un) := cell_at h33 rfl
        have qh33_1 : w409.cell? ⟨b33, 1, none⟩ = some (.int .i64 (ln : Nat)) := cell_at h33 rfl
        have qh33_2 : w409.cell? ⟨b33, 2, none⟩ = some (.int .i64 256) := cell_at h33 rfl
        have qh33_3 : w409.cell? ⟨b33, 3, none⟩ = some (.slice (some ⟨pb, po, none⟩) 1 capp) := cell_at h33 rfl
        have qh34_0 : w409.cell? ⟨b34, 0, none⟩ = some (.int .i64 un) := cell_at h34 rfl
        have qh34_1 : w409.cell? ⟨b34, 1, none⟩ = some (.int .i64 (ln : Nat)) := cell_at h34 rfl
        have qh34_2 : w409.cell? ⟨b34, 2, none⟩ = some (.int .i64 256) := cell_at h34 rfl
        have qh34_3 : w409.cell? ⟨b34, 3, none⟩ = some (.slice V2 np vc2) := cell_at h34 rfl
        as_aux_lemma =>
         go_wp2_with fail
         refine wp_region_planF (Φ := FreshN w409.heap.size) [(0, 1), (2, 1), (5, 1), (6, 1), (7, 1), (1, 0), (3, 0), (8, 0), (4, 2), (9, 0), (10, 0), (11, 1), (12, 1), (13, 1), (14, 1), (15, 1)] 4 w409.heap.size _ rfl (by kernel_rfl) (by kernel_rfl) (Nat.le_refl _) (fun _ _ d _ _ h => by cases d <;> exact h) (fun _ _ d _ _ h => by cases d <;> exact h) (fun v w w' hv hb => hv.below hb) ?hF ?_
         case hF =>
          intro a wq hq
          refine ⟨rfl, ?_⟩
          have hsz := hq.size
          go_simp
          exact ⟨_, rfl, ⟨_, rfl, hsz, heap_new rfl⟩, (Below.refl _ _).alloc (Nat.le_refl _) _⟩
         have hC : Below w409.heap.size w409 w409 := Below.refl _ _
         have zhT0 : w.heap.size < w409.heap.size := (Array.getElem?_eq_some_iff.1 hT0).1
         have zhT1 : w.heap.size + 1 < w409.heap.size := (Array.getElem?_eq_some_iff.1 hT1).1
         have zhT2 : w.heap.size + 1 + 1 < w409.heap.size := (Array.getElem?_eq_some_iff.1 hT2).1
         have zh33 : b33 < w409.heap.size := (Array.getElem?_eq_some_iff.1 h33).1
         have zh34 : b34 < w409.heap.size := (Array.getElem?_eq_some_iff.1 h34).1
         iterate 4 (refine wpPlanFA_softD _ ?_ _ _ rfl rfl rfl (by rfl) ?_ ?_; rotate_left; (intro wq hq hcq; go_simp; first | exact rfl | exact ⟨rfl, rfl⟩); dsimp only [List.set_cons_zero, List.set_cons_succ])
         refine wpPlanFA_softD _ (.slice (some ⟨db, offS 1 cd do', none⟩) (np - 1) (cd - 1)) _ _ rfl rfl rfl (by rfl) (fun wq hq hcq => soft_slice Tryz.underlying31 rfl rfl rfl rfl (hs4 wq)) ?_
         dsimp only [List.set_cons_zero, List.set_cons_succ]
         refine wpPlanFA_hard _ rfl (by rfl) (fun w410 hS K hK => ?_)
         have hB410 := hB409.call hS rfl
         replace hC := hC.call hS rfl
         replace H := H.below hS
         replace HP := HP.below hS
         replace HD := HD.below hS
         replace HM := HM.below hS
         replace hst := hst.below hS
         replace hT0 := blkb hT0 hS
         replace hT1 := blkb hT1 hS
         replace hT2 := blkb hT2 hS
         replace hI5 := hI5.below hS
         replace HPt := HPt.below hS
         replace HP1 := HP1.below hS
         replace HDt := HDt.below hS
         replace HD1 := HD1.below hS
         replace h33 := blkb h33 hS
         replace h34 := blkb h34 hS
         replace HP2 := HP2.below hS
         replace hJ5 := hJ5.below hS
         clear hS hB409
         go_simp
         refine (c20d c r A n cap l _ hl H).mono ?_
         rintro e w411 ⟨B10, cb10, rfl, hr10, hb⟩
         have hB411 := hB410.call hb rfl
         replace hC := hC.call hb rfl
         replace H := H.below hb
         replace HP := HP.below hb
         replace HD := HD.below hb
         replace HM := HM.below hb
         replace hst := hst.below hb
         replace hT0 := blkb hT0 hb
         replace hT1 := blkb hT1 hb
         replace hT2 := blkb hT2 hb
         replace hI5 := hI5.below hb
         replace HPt := HPt.below hb
         replace HP1 := HP1.below hb
         replace HDt := HDt.below hb
         replace HD1 := HD1.below hb
         replace h33 := blkb h33 hb
         replace h34 := blkb h34 hb
         replace HP2 := HP2.below hb
         replace hJ5 := hJ5.below hb
         refine hK _ _ hC hb ?_
         clear hK K hb hB410
         try simp only [Act.put, List.setIfInBounds_toArray, List.set_cons_zero, List.set_cons_succ]
         repeat (first | (refine wpPlanFA_skip _ rfl (by rfl) ?_; simp only [Act.put, List.setIfInBounds_toArray, List.set_cons_zero, List.set_cons_succ]) | (refine wpPlanFA_softD _ ?_ _ _ rfl rfl rfl (by rfl) ?_ ?_; rotate_left; (intro wq hq hcq; go_simp; first | exact rfl | exact ⟨rfl, rfl⟩); dsimp only [List.set_cons_zero, List.set_cons_succ]))
         refine wpPlanFA_hard _ rfl (by rfl) (fun w412 hS K hK => ?_)
         have hB412 := hB411.call hS rfl
         replace hC := hC.call hS rfl
         replace H := H.below hS
         replace HP := HP.below hS
         replace HD := HD.below hS
         replace HM := HM.below hS
         replace hst := hst.below hS
         replace hT0 := blkb hT0 hS
         replace hT1 := blkb hT1 hS
         replace hT2 := blkb hT2 hS
         replace hI5 := hI5.below hS
         replace HPt := HPt.below hS
         replace HP1 := HP1.below hS
         replace HDt := HDt.below hS
         replace HD1 := HD1.below hS
         replace h33 := blkb h33 hS
         replace h34 := blkb h34 hS
         replace HP2 := HP2.below hS
         replace hJ5 := hJ5.below hS
         replace hr10 := hr10.below hS
         clear hS hB411
         go_simp
         refine (c21d un ln 256 V2 np vc2 (⟨p0.s, p0.r, true⟩ :: pt) _ (by omega) HP2).mono ?_
         rintro e w413 ⟨P11, pc11, rfl, ⟨hp11, hq11⟩, hb⟩
         have hB413 := hB412.call hb rfl
         replace hC := hC.call hb rfl
         replace H := H.below hb
         replace HP := HP.below hb
         replace HD := HD.below hb
         replace HM := HM.below hb
         replace hst := hst.below hb
         replace hT0 := blkb hT0 hb
         replace hT1 := blkb hT1 hb
         replace hT2 := blkb hT2 hb
         replace hI5 := hI5.below hb
         replace HPt := HPt.below hb
         replace HP1 := HP1.below hb
         replace HDt := HDt.below hb
         replace HD1 := HD1.below hb
         replace h33 := blkb h33 hb
         replace h34 := blkb h34 hb
         replace HP2 := HP2.below hb
         replace hJ5 := hJ5.below hb
         replace hr10 := hr10.below hb
         refine hK _ _ hC hb ?_
         clear hK K hb hB412
         try simp only [Act.put, List.setIfInBounds_toArray, List.set_cons_zero, List.set_cons_succ]
         repeat (first | (refine wpPlanFA_skip _ rfl (by rfl) ?_; simp only [Act.put, List.setIfInBounds_toArray, List.set_cons_zero, List.set_cons_succ]) | (refine wpPlanFA_softD _ ?_ _ _ rfl rfl rfl (by rfl) ?_ ?_; rotate_left; (intro wq hq hcq; go_simp; first | exact rfl | exact ⟨rfl, rfl⟩); dsimp only [List.set_cons_zero, List.set_cons_succ]))
         refine wpPlanFA_hard _ rfl (by rfl) (fun w414 hS K hK => ?_)
         have hB414 := hB413.call hS rfl
         replace hC := hC.call hS rfl
         replace H := H.below hS
         replace HP := HP.below hS
         replace HD := HD.below hS
         replace HM := HM.below hS
         replace hst := hst.below hS
         replace hT0 := blkb hT0 hS
         replace hT1 := blkb hT1 hS
         replace hT2 := blkb hT2 hS
         replace hI5 := hI5.below hS
         replace HPt := HPt.below hS
         replace HP1 := HP1.below hS
         replace HDt := HDt.below hS
         replace HD1 := HD1.below hS
         replace h33 := blkb h33 hS
         replace h34 := blkb h34 hS
         replace HP2 := HP2.below hS
         replace hJ5 := hJ5.below hS
         replace hr10 := hr10.below hS
         replace hp11 := hp11.below hS
         clear hS hB413
         go_simp
         refine (c33d (some ⟨db, offS 1 cd do', none⟩) (np - 1) (cd - 1) dt _ (by omega) H45b.out HDt).mono ?_
         rintro e w415 ⟨F12, fc12, rfl, he12, hb⟩
         have hB415 := hB414.call hb rfl
         replace hC := hC.call hb rfl
         replace H := H.below hb
         replace HP := HP.below hb
         replace HD := HD.below hb
         replace HM := HM.below hb
         replace hst := hst.below hb
         replace hT0 := blkb hT0 hb
         replace hT1 := blkb hT1 hb
         replace hT2 := blkb hT2 hb
         replace hI5 := hI5.below hb
         replace HPt := HPt.below hb
         replace HP1 := HP1.below hb
         replace HDt := HDt.below hb
         replace HD1 := HD1.below hb
         replace h33 := blkb h33 hb
         replace h34 := blkb h34 hb
         replace HP2 := HP2.below hb
         replace hJ5 := hJ5.below hb
         replace hr10 := hr10.below hb
         replace hp11 := hp11.below hb
         refine hK _ _ hC hb ?_
         clear hK K hb hB414
         try simp only [Act.put, List.setIfInBounds_toArray, List.set_cons_zero, List.set_cons_succ]
         repeat (first | (refine wpPlanFA_skip _ rfl (by rfl) ?_; simp only [Act.put, List.setIfInBounds_toArray, List.set_cons_zero, List.set_cons_succ]) | (refine wpPlanFA_softD _ ?_ _ _ rfl rfl rfl (by rfl) ?_ ?_; rotate_left; (intro wq hq hcq; go_simp; first | exact rfl | exact ⟨rfl, rfl⟩); dsimp only [List.set_cons_zero, List.set_cons_succ]))
         refine wpPlanFA_float _ rfl (fun v w416 hS hv => ?_)
         obtain ⟨bhN1, rfl, hge, hN1⟩ := hv
         have hB416 := hB415.call hS rfl
         replace hC := hC.call hS rfl
         replace H := H.below hS
         replace HP := HP.below hS
         replace HD := HD.below hS
         replace HM := HM.below hS
         replace hst := hst.below hS
         replace hT0 := blkb hT0 hS
         replace hT1 := blkb hT1 hS
         replace hT2 := blkb hT2 hS
         replace hI5 := hI5.below hS
         replace HPt := HPt.below hS
         replace HP1 := HP1.below hS
         replace HDt := HDt.below hS
         replace HD1 := HD1.below hS
         replace h33 := blkb h33 hS
         replace h34 := blkb h34 hS
         replace HP2 := HP2.below hS
         replace hJ5 := hJ5.below hS
         replace hr10 := hr10.below hS
         replace hp11 := hp11.below hS
         replace he12 := he12.below hS
         clear hS hB415
         try simp only [Act.put, List.setIfInBounds_toArray, List.set_cons_zero, List.set_cons_succ]
         repeat (first | (refine wpPlanFA_skip _ rfl (by rfl) ?_; simp only [Act.put, List.setIfInBounds_toArray, List.set_cons_zero, List.set_cons_succ]) | (refine wpPlanFA_softD _ ?_ _ _ rfl rfl rfl (by rfl) ?_ ?_; rotate_left; (intro wq hq hcq; go_simp; first | exact rfl | exact ⟨rfl, rfl⟩); dsimp only [List.set_cons_zero, List.set_cons_succ]))
         refine wpPlanFA_hard _ rfl (by rfl) (fun w417 hS K hK => ?_)
         have hB417 := hB416.call hS rfl
         replace hC := hC.call hS rfl
         replace H := H.below hS
         replace HP := HP.below hS
         replace HD := HD.below hS
         replace HM := HM.below hS
         replace hst := hst.below hS
         replace hT0 := blkb hT0 hS
         replace hT1 := blkb hT1 hS
         replace hT2 := blkb hT2 hS
         replace hI5 := hI5.below hS
         replace HPt := HPt.below hS
         replace HP1 := HP1.below hS
         replace HDt := HDt.below hS
         replace HD1 := HD1.below hS
         replace h33 := blkb h33 hS
         replace h34 := blkb h34 hS
         replace HP2 := HP2.below hS
         replace hJ5 := hJ5.below hS
         replace hr10 := hr10.below hS
         replace hp11 := hp11.below hS
         replace he12 := he12.below hS
         replace hN1 := blkb hN1 hS
         clear hS hB416
         refine wp_app_rows _ _ rfl bhN1 hN1 rfl F12 (np - 1) fc12 rfl dt he12 (by omega) ?_
         intro X9 xc9 w418 hX9 hxc9 hb
         have hnp9 : 1 + (np - 1) = np := by omega
         rw [hnp9] at hX9 hxc9 ⊢
         have hB418 := hB417.call hb rfl
         replace hC := hC.call hb rfl
         replace H := H.below hb
         replace HP := HP.below hb
         replace HD := HD.below hb
         replace HM := HM.below hb
         replace hst := hst.below hb
         replace hT0 := blkb hT0 hb
         replace hT1 := blkb hT1 hb
         replace hT2 := blkb hT2 hb
         replace hI5 := hI5.below hb
         replace HPt := HPt.below hb
         replace HP1 := HP1.below hb
         replace HDt := HDt.below hb
         replace HD1 := HD1.below hb
         replace h33 := blkb h33 hb
         replace h34 := blkb h34 hb
         replace HP2 := HP2.below hb
         replace hJ5 := hJ5.below hb
         replace hr10 := hr10.below hb
         replace hp11 := hp11.below hb
         replace he12 := he12.below hb
         replace hN1 := blkb hN1 hb
         refine hK _ _ hC hb ?_
         clear hK K hb hB417
         try simp only [Act.put, List.setIfInBounds_toArray, List.set_cons_zero, List.set_cons_succ]
         repeat (first | (refine wpPlanFA_skip _ rfl (by rfl) ?_; simp only [Act.put, List.setIfInBounds_toArray, List.set_cons_zero, List.set_cons_succ]) | (refine wpPlanFA_softD _ ?_ _ _ rfl rfl rfl (by rfl) ?_ ?_; rotate_left; (intro wq hq hcq; go_simp; first | exact rfl | exact ⟨rfl, rfl⟩); dsimp only [List.set_cons_zero, List.set_cons_succ]))
         refine wpPlanFA_hard _ rfl (by rfl) (fun w419 hS K hK => ?_)
         have hB419 := hB418.call hS rfl
         replace hC := hC.call hS rfl
         replace H := H.below hS
         replace HP := HP.below hS
         replace HD := HD.below hS
         replace HM := HM.below hS
         replace hst := hst.below hS
         replace hT0 := blkb hT0 hS
         replace hT1 := blkb hT1 hS
         replace hT2 := blkb hT2 hS
         replace hI5 := hI5.below hS
         replace HPt := HPt.below hS
         replace HP1 := HP1.below hS
         replace HDt := HDt.below hS
         replace HD1 := HD1.below hS
         replace h33 := blkb h33 hS
         replace h34 := blkb h34 hS
         replace HP2 := HP2.below hS
         replace hJ5 := hJ5.below hS
         replace hr10 := hr10.below hS
         replace hp11 := hp11.below hS
         replace he12 := he12.below hS
         replace hN1 := blkb hN1 hS
         replace hX9 := hX9.below hS
         clear hS hB418
         go_simp
         refine (K50b.out _ _ _ _ _ _ _ hq11 hr10 hp11 hX9 hst).mono ?_
         rintro e w420 ⟨J6, jc6, rfl, hJ6, hb⟩
         have hB420 := hB419.call hb rfl
         replace hC := hC.call hb rfl
         replace H := H.below hb
         replace HP := HP.below hb
         replace HD := HD.below hb
         replace HM := HM.below hb
         replace hst := hst.below hb
         replace hT0 := blkb hT0 hb
         replace hT1 := blkb hT1 hb
         replace hT2 := blkb hT2 hb
         replace hI5 := hI5.below hb
         replace HPt := HPt.below hb
         replace HP1 := HP1.below hb
         replace HDt := HDt.below hb
         replace HD1 := HD1.below hb
         replace h33 := blkb h33 hb
         replace h34 := blkb h34 hb
         replace HP2 := HP2.below hb
         replace hJ5 := hJ5.below hb
         replace hr10 := hr10.below hb
         replace hp11 := hp11.below hb
         replace he12 := he12.below hb
         replace hN1 := blkb hN1 hb
         replace hX9 := hX9.below hb
         refine hK _ _ hC hb ?_
         clear hK K hb hB419
         try simp only [Act.put, List.setIfInBounds_toArray, List.set_cons_zero, List.set_cons_succ]
         repeat (first | (refine wpPlanFA_skip _ rfl (by rfl) ?_; simp only [Act.put, List.setIfInBounds_toArray, List.set_cons_zero, List.set_cons_succ]) | (refine wpPlanFA_softD _ ?_ _ _ rfl rfl rfl (by rfl) ?_ ?_; rotate_left; (intro wq hq hcq; go_simp; first | exact rfl | exact ⟨rfl, rfl⟩); dsimp only [List.set_cons_zero, List.set_cons_succ]))
         clear hr10
         clear hp11
         clear he12
         clear hX9
         clear hN1
         clear qhT0_0 qhT0_1 qhT0_2 qhT1_0 qhT1_1 qhT1_2 qhT1_3 qhT2_0 qhT2_1 qhT2_2 qhT2_3 qhT2_4 qhT2_5 qh33_0 qh33_1 qh33_2 qh33_3 qh34_0 qh34_1 qh34_2 qh34_3
         refine wpPlanFA_nil (fun w421 hS => ?_)
         clear hC hge zhT0 zhT1 zhT2 zh33 zh34
         have hB421 := hB420.call hS rfl
         replace H := H.below hS
         replace HP := HP.below hS
         replace HD := HD.below hS
         replace HM := HM.below hS
         replace hst := hst.below hS
         replace hT0 := blkb hT0 hS
         replace hT1 := blkb hT1 hS
         replace hT2 := blkb hT2 hS
         replace hI5 := hI5.below hS
         replace HPt := HPt.below hS
         replace HP1 := HP1.below hS
         replace HDt := HDt.below hS
         replace HD1 := HD1.below hS
         replace h33 := blkb h33 hS
         replace h34 := blkb h34 hS
         replace HP2 := HP2.below hS
         replace hJ5 := hJ5.below hS
         replace hJ6 := hJ6.below hS
         clear hS hB420
         have qhT0_0 : w421.cell? ⟨w.heap.size, 0, none⟩ = some (.int .i64 c) := cell_at hT0 rfl
         have qhT0_1 : w421.cell? ⟨w.heap.size, 1, none⟩ = some (.int .i64 r) := cell_at hT0 rfl
         have qhT0_2 : w421.cell? ⟨w.heap.size, 2, none⟩ = some (.slice A n cap) := cell_at hT0 rfl
         have qhT1_0 : w421.cell? ⟨w.heap.size + 1, 0, none⟩ = some (.int .i64 un) := cell_at hT1 rfl
         have qhT1_1 : w421.cell? ⟨w.heap.size + 1, 1, none⟩ = some (.int .i64 (ln : Nat)) := cell_at hT1 rfl
         have qhT1_2 : w421.cell? ⟨w.heap.size + 1, 2, none⟩ = some (.int .i64 256) := cell_at hT1 rfl
         have qhT1_3 : w421.cell? ⟨w.heap.size + 1, 3, none⟩ = some (.slice (some ⟨pb, po, none⟩) np capp) := cell_at hT1 rfl
         have qhT2_0 : w421.cell? ⟨w.heap.size + 1 + 1, 0, none⟩ = some (.slice (some ⟨db, do', none⟩) np cd) := cell_at hT2 rfl
         have qhT2_1 : w421.cell? ⟨w.heap.size + 1 + 1, 1, none⟩ = some (.slice E me ce) := cell_at hT2 rfl
         have qhT2_2 : w421.cell? ⟨w.heap.size + 1 + 1, 2, none⟩ = some (.slice M n cm) := cell_at hT2 rfl
         have qhT2_3 : w421.cell? ⟨w.heap.size + 1 + 1, 3, none⟩ = some (.int .i64 s) := cell_at hT2 rfl
         have qhT2_4 : w421.cell? ⟨w.heap.size + 1 + 1, 4, none⟩ = some (.int .i64 f) := cell_at hT2 rfl
         have qhT2_5 : w421.cell? ⟨w.heap.size + 1 + 1, 5, none⟩ = some (.int .i64 i) := cell_at hT2 rfl
         have qh33_0 : w421.cell? ⟨b33, 0, none⟩ = some (.int .i64 un) := cell_at h33 rfl
         have qh33_1 : w421.cell? ⟨b33, 1, none⟩ = some (.int .i64 (ln : Nat)) := cell_at h33 rfl
         have qh33_2 : w421.cell? ⟨b33, 2, none⟩ = some (.int .i64 256) := cell_at h33 rfl
         have qh33_3 : w421.cell? ⟨b33, 3, none⟩ = some (.slice (some ⟨pb, po, none⟩) 1 capp) := cell_at h33 rfl
         have qh34_0 : w421.cell? ⟨b34, 0, none⟩ = some (.int .i64 un) := cell_at h34 rfl
         have qh34_1 : w421.cell? ⟨b34, 1, none⟩ = some (.int .i64 (ln : Nat)) := cell_at h34 rfl
         have qh34_2 : w421.cell? ⟨b34, 2, none⟩ = some (.int .i64 256) := cell_at h34 rfl
         have qh34_3 : w421.cell? ⟨b34, 3, none⟩ = some (.slice V2 np vc2) := cell_at h34 rfl
         clear HP1
         clear HD1
         clear HPt
         clear HDt
         clear HP2
         clear h33
         clear h34
         clear qhT0_0 qhT0_1 qhT0_2 qhT1_0 qhT1_1 qhT1_2 qhT1_3 qhT2_0 qhT2_1 qhT2_2 qhT2_3 qhT2_4 qhT2_5 qh33_0 qh33_1 qh33_2 qh33_3 qh34_0 qh34_1 qh34_2 qh34_3
         have qhT0_0 : w421.cell? ⟨w.heap.size, 0, none⟩ = some (.int .i64 c) := cell_at hT0 rfl
         have qhT0_1 : w421.cell? ⟨w.heap.size, 1, none⟩ = some (.int .i64 r) := cell_at hT0 rfl
         have qhT0_2 : w421.cell? ⟨w.heap.size, 2, none⟩ = some (.slice A n cap) := cell_at hT0 rfl
         have qhT1_0 : w421.cell? ⟨w.heap.size + 1, 0, none⟩ = some (.int .i64 un) := cell_at hT1 rfl
         have qhT1_1 : w421.cell? ⟨w.heap.size + 1, 1, none⟩ = some (.int .i64 (ln : Nat)) := cell_at hT1 rfl
         have qhT1_2 : w421.cell? ⟨w.heap.size + 1, 2, none⟩ = some (.int .i64 256) := cell_at hT1 rfl
         have qhT1_3 : w421.cell? ⟨w.heap.size + 1, 3, none⟩ = some (.slice (some ⟨pb, po, none⟩) np capp) := cell_at hT1 rfl
         have qhT2_0 : w421.cell? ⟨w.heap.size + 1 + 1, 0, none⟩ = some (.slice (some ⟨db, do', none⟩) np cd) := cell_at hT2 rfl
         have qhT2_1 : w421.cell? ⟨w.heap.size + 1 + 1, 1, none⟩ = some (.slice E me ce) := cell_at hT2 rfl
         have qhT2_2 : w421.cell? ⟨w.heap.size + 1 + 1, 2, none⟩ = some (.slice M n cm) := cell_at hT2 rfl
         have qhT2_3 : w421.cell? ⟨w.heap.size + 1 + 1, 3, none⟩ = some (.int .i64 s) := cell_at hT2 rfl
         have qhT2_4 : w421.cell? ⟨w.heap.size + 1 + 1, 4, none⟩ = some (.int .i64 f) := cell_at hT2 rfl
         have qhT2_5 : w421.cell? ⟨w.heap.size + 1 + 1, 5, none⟩ = some (.int .i64 i) := cell_at hT2 rfl
         as_aux_lemma =>
          obtain ⟨j1, jo1, rfl, zj1⟩ := hJ5.form hn0
          obtain ⟨j2, jo2, rfl, zj2⟩ := hJ6.form hn0
          obtain ⟨j3, jo3, rfl, zj3⟩ := hI5.form hn0
          clear zj1 zj2 zj3
          have hnne2 : ((n : Int) != (n : Int)) = false := by simp
          go_wp2_with fail
          go_loopw [353] (fun iv wr => ∃ k : Nat, k ≤ n ∧ iv = .int .i64 k ∧ Below w421.heap.size w421 wr) (fun iv _ => n - (intOf iv).toNat)
          case atStart => exact ⟨0, Nat.zero_le _, rfl, Below.refl _ _⟩
          case round =>
           obtain ⟨k, hk, rfl, hbr⟩ := hrel
           obtain ⟨w422, hww⟩ : ∃ W, W = wr := ⟨_, rfl⟩
           subst hww
           have hB422 := hB421.call hbr rfl
           replace H := H.below hbr
           replace HP := HP.below hbr
           replace HD := HD.below hbr
           replace HM := HM.below hbr
           replace hst := hst.below hbr
           replace hT0 := blkb hT0 hbr
           replace hT1 := blkb hT1 hbr
           replace hT2 := blkb hT2 hbr
           replace hI5 := hI5.below hbr
           replace hJ5 := hJ5.below hbr
           replace hJ6 := hJ6.below hbr
           clear hB421
           have qhT0_0 : w422.cell? ⟨w.heap.size, 0, none⟩ = some (.int .i64 c) := cell_at hT0 rfl
           have qhT0_1 : w422.cell? ⟨w.heap.size, 1, none⟩ = some (.int .i64 r) := cell_at hT0 rfl
           have qhT0_2 : w422.cell? ⟨w.heap.size, 2, none⟩ = some (.slice A n cap) := cell_at hT0 rfl
           have qhT1_0 : w422.cell? ⟨w.heap.size + 1, 0, none⟩ = some (.int .i64 un) := cell_at hT1 rfl
           have qhT1_1 : w422.cell? ⟨w.heap.size + 1, 1, none⟩ = some (.int .i64 (ln : Nat)) := cell_at hT1 rfl
           have qhT1_2 : w422.cell? ⟨w.heap.size + 1, 2, none⟩ = some (.int .i64 256) := cell_at hT1 rfl
           have qhT1_3 : w422.cell? ⟨w.heap.size + 1, 3, none⟩ = some (.slice (some ⟨pb, po, none⟩) np capp) := cell_at hT1 rfl
           have qhT2_0 : w422.cell? ⟨w.heap.size + 1 + 1, 0, none⟩ = some (.slice (some ⟨db, do', none⟩) np cd) := cell_at hT2 rfl
           have qhT2_1 : w422.cell? ⟨w.heap.size + 1 + 1, 1, none⟩ = some (.slice E me ce) := cell_at hT2 rfl
           have qhT2_2 : w422.cell? ⟨w.heap.size + 1 + 1, 2, none⟩ = some (.slice M n cm) := cell_at hT2 rfl
           have qhT2_3 : w422.cell? ⟨w.heap.size + 1 + 1, 3, none⟩ = some (.int .i64 s) := cell_at hT2 rfl
           have qhT2_4 : w422.cell? ⟨w.heap.size + 1 + 1, 4, none⟩ = some (.int .i64 f) := cell_at hT2 rfl
           have qhT2_5 : w422.cell? ⟨w.heap.size + 1 + 1, 5, none⟩ = some (.int .i64 i) := cell_at hT2 rfl
           have hwk : IntKind.i64.wrap ((k : Int) + 1) = ((k + 1 : Nat) : Int) := by rw [wrapI (by omega)]; simp
           by_cases hlt : k < n
           ·
             have hlt2 : (k : Int) < (n : Int) := by omega
             have hk0 : (0 : Int) ≤ (k : Int) := by omega
             have q1 := hJ5.get hlt
             have q2 := hJ6.get hlt
             have q3 := hI5.get hlt
             have y1 := cell_lt q1
             have y2 := cell_lt q2
             have y3 := cell_lt q3
             have hj := HJ.out k hlt
             generalize Im.at0 J1 k = u1 at q1 hj
             generalize Im.at0 J2 k = u2 at q2 hj
             generalize Im.at0 IM k = u3 at q3 hj
             have hwu : IntKind.i64.wrap (u1 + u2) = u3 := by rw [wrapI (by omega)]; exact hj.1
             have huu : (u3 != u3) = false := by simp
             clear hj
             go_wp2_with fail
             refine wp_region_plan [(0, true), (1, true), (2, true), (3, true), (4, true), (5, true), (6, true), (7, true), (8, true), (9, true), (10, true), (11, true), (12, true), (13, true)] w422.heap.size (by kernel_rfl) (by kernel_rfl) (Nat.le_refl _) (fun _ _ d _ _ h => by cases d <;> exact h) ?_
             have hC : Below w422.heap.size w422 w422 := Below.refl _ _
             have zhT0 : w.heap.size < w422.heap.size := (Array.getElem?_eq_some_iff.1 hT0).1
             have zhT1 : w.heap.size + 1 < w422.heap.size := (Array.getElem?_eq_some_iff.1 hT1).1
             have zhT2 : w.heap.size + 1 + 1 < w422.heap.size := (Array.getElem?_eq_some_iff.1 hT2).1
             repeat (first | (refine wpPlanA_skip _ rfl (by rfl) ?_; simp only [Act.put, List.setIfInBounds_toArray, List.set_cons_zero, List.set_cons_succ]) | (refine wpPlanA_softD _ ?_ _ _ rfl rfl rfl (by rfl) ?_ ?_; rotate_left; (intro wq hq hcq; go_simp; first | exact rfl | exact ⟨rfl, rfl⟩); dsimp only [List.set_cons_zero, List.set_cons_succ]))
             clear qhT0_0 qhT0_1 qhT0_2 qhT1_0 qhT1_1 qhT1_2 qhT1_3 qhT2_0 qhT2_1 qhT2_2 qhT2_3 qhT2_4 qhT2_5
             refine wpPlanA_nil (fun w423 hS => ?_)
             clear hC zhT0 zhT1 zhT2
             have hB423 := hB422.call hS rfl
             replace H := H.below hS
             replace HP := HP.below hS
             replace HD := HD.below hS
             replace HM := HM.below hS
             replace hst := hst.below hS
             replace hT0 := blkb hT0 hS
             replace hT1 := blkb hT1 hS
             replace hT2 := blkb hT2 hS
             replace hI5 := hI5.below hS
             replace hJ5 := hJ5.below hS
             replace hJ6 := hJ6.below hS
             replace hbr := hbr.call hS rfl
             clear hS hB422
             have qhT0_0 : w423.cell? ⟨w.heap.size, 0, none⟩ = some (.int .i64 c) := cell_at hT0 rfl
             have qhT0_1 : w423.cell? ⟨w.heap.size, 1, none⟩ = some (.int .i64 r) := cell_at hT0 rfl
             have qhT0_2 : w423.cell? ⟨w.heap.size, 2, none⟩ = some (.slice A n cap) := cell_at hT0 rfl
             have qhT1_0 : w423.cell? ⟨w.heap.size + 1, 0, none⟩ = some (.int .i64 un) := cell_at hT1 rfl
             have qhT1_1 : w423.cell? ⟨w.heap.size + 1, 1, none⟩ = some (.int .i64 (ln : Nat)) := cell_at hT1 rfl
             have qhT1_2 : w423.cell? ⟨w.heap.size + 1, 2, none⟩ = some (.int .i64 256) := cell_at hT1 rfl
             have qhT1_3 : w423.cell? ⟨w.heap.size + 1, 3, none⟩ = some (.slice (some ⟨pb, po, none⟩) np capp) := cell_at hT1 rfl
             have qhT2_0 : w423.cell? ⟨w.heap.size + 1 + 1, 0, none⟩ = some (.slice (some ⟨db, do', none⟩) np cd) := cell_at hT2 rfl
             have qhT2_1 : w423.cell? ⟨w.heap.size + 1 + 1, 1, none⟩ = some (.slice E me ce) := cell_at hT2 rfl
             have qhT2_2 : w423.cell? ⟨w.heap.size + 1 + 1, 2, none⟩ = some (.slice M n cm) := cell_at hT2 rfl
             have qhT2_3 : w423.cell? ⟨w.heap.size + 1 + 1, 3, none⟩ = some (.int .i64 s) := cell_at hT2 rfl
             have qhT2_4 : w423.cell? ⟨w.heap.size + 1 + 1, 4, none⟩ = some (.int .i64 f) := cell_at hT2 rfl
             have qhT2_5 : w423.cell? ⟨w.heap.size + 1 + 1, 5, none⟩ = some (.int .i64 i) := cell_at hT2 rfl
             have HBN := Lib.hid hbr
             clear hbr q1 q2 q3 y1 y2 y3
             go_wp2
             go_roundw
             case rel => exact ⟨k + 1, by omega, by go_num, HBN.out⟩
             case measure => simp [intOf]; omega
           obtain rfl : n = k := by omega
           clear hlt hk hwk
           go_wp2_with fail
           refine (c18 _ hst).mono ?_
           rintro e wz ⟨rfl, hz⟩
           go_wp2
           go_ret
           exact ⟨rfl, hB422.call hz rfl⟩
   subst hzz
   have hk1 : (k2 : Int) < 2 := by omega
   have hk0 : (0 : Int) ≤ (k2 : Int) := by omega
   obtain ⟨x, hx⟩ : ∃ x : Int, x = if k2 = 0 then most else 256 := ⟨_, rfl⟩
   have qx : wr.cell? ⟨bq, k2, none⟩ = some (.int .i64 x) := by
    rw [hx]
    have h : k2 = 0 ∨ k2 = 1 := by omega
    rcases h with rfl | rfl
    ·exact cell_at RQ.out rfl
    ·exact cell_at RQ.out rfl
   have hx0 : 0 ≤ x ∧ x ≤ 256 := by rw [hx]; split <;> omega
   have HFX : Hid (Mo.fit c r l un ln x ps ms dl = 0) := Lib.hid (fit_most HFIT.out hx0)
   obtain ⟨zn, hzn⟩ : ∃ z : Int, z = ((k2 + 1 : Nat) : Int) := ⟨_, rfl⟩
   have hwz : IntKind.i64.wrap ((k2 : Int) + 1) = zn := by rw [hzn, wrapI (by omega)]; simp
   have HKN : Hid (∃ kn : Nat, kn ≤ 2 ∧ zn = kn ∧ (kn = 2 → x = 256)) := Lib.hid ⟨k2 + 1, by omega, hzn, fun h => by rw [hx, if_neg (by omega)]⟩
   have HME : Hid (2 - zn.toNat < 2 - k2) := Lib.hid (by omega)
   clear hx hzn hk3 hmv hk2
   as_aux_lemma =>
    have qT1 : ∀ j v, (#[.int .i64 un, .int .i64 (ln : Nat), .int .i64 mv, .slice P np capp] : Array Value)[j]? = some v → wr.cell? ⟨w.heap.size + 1, j, none⟩ = some v := fun j v h => cell_at RT1.out h
    have qm := qT1 2 _ rfl
    have qf := free_at (i := 2) RT1.out
    have zq := cell_lt qx
    have zm := cell_lt qm
    clear qT1
    go_wp2_with fail
    obtain ⟨wX, hwn⟩ : ∃ V, V = wr.setCell ⟨w.heap.size + 1, 2, none⟩ (.int .i64 x) := ⟨_, rfl⟩
    have XB : Hid (Below w.heap.size w wX) := Lib.hid (by rw [hwn]; exact RB.out.setCell (p := ⟨w.heap.size + 1, 2, none⟩) (by show _ ≤ w.heap.size + 1; omega) _)
    have XT0 : Hid (wX.heap[w.heap.size]? = some (.cells #[.int .i64 c, .int .i64 r, .slice A n cap] 24 (0, 0))) := Lib.hid (by rw [hwn]; exact heap_set _ RT0.out (by show _ ≠ w.heap.size + 1; omega))
    have XT1 : Hid (wX.heap[w.heap.size + 1]? = some (.cells #[.int .i64 un, .int .i64 (ln : Nat), .int .i64 x, .slice P np capp] 27 (0, 0))) := Lib.hid (by rw [hwn]; exact set_blk (i := 2) RT1.out _)
    have XT2 : Hid (wX.heap[w.heap.size + 1 + 1]? = some (.cells #[.slice D np cd, .slice E me ce, .slice M n cm, .int .i64 s, .int .i64 f, .int .i64 i] 55 (0, 0))) := Lib.hid (by rw [hwn]; exact heap_set _ RT2.out (by show _ ≠ w.heap.size + 1; omega))
    have XQ := Lib.hid (show wX.heap[bq]? = some (.cells #[.int .i64 most, .int .i64 256] 3 (0, 0)) from by rw [hwn]; exact heap_set _ RQ.out (by show _ ≠ w.heap.size + 1; omega))
    try rw [← hwn]
    clear hwn qx qm qf zq zm RB RT0 RT1 RT2 RQ
    obtain ⟨w150, hww⟩ : ∃ W, W = wX := ⟨_, rfl⟩
    subst hww
    have hB150 := XB.out
    have H := H0.out.below hB150
    have HP := HP0.out.below hB150
    have HD := HD0.out.below hB150
    have HM := HM0.out.below hB150
    have hst := HST0.out.below hB150
    have hT0 := XT0.out
    have hT1 := XT1.out
    have hT2 := XT2.out
    have hqq := XQ.out
    clear XB XT0 XT1 XT2 XQ
    have qhT0_0 : w150.cell? ⟨w.heap.size, 0, none⟩ = some (.int .i64 c) := cell_at hT0 rfl
    have qhT0_1 : w150.cell? ⟨w.heap.size, 1, none⟩ = some (.int .i64 r) := cell_at hT0 rfl
    have qhT0_2 : w150.cell? ⟨w.heap.size, 2, none⟩ = some (.slice A n cap) := cell_at hT0 rfl
    have qhT1_0 : w150.cell? ⟨w.heap.size + 1, 0, none⟩ = some (.int .i64 un) := cell_at hT1 rfl
    have qhT1_1 : w150.cell? ⟨w.heap.size + 1, 1, none⟩ = some (.int .i64 (ln : Nat)) := cell_at hT1 rfl
    have qhT1_2 : w150.cell? ⟨w.heap.size + 1, 2, none⟩ = some (.int .i64 x) := cell_at hT1 rfl
    have qhT1_3 : w150.cell? ⟨w.heap.size + 1, 3, none⟩ = some (.slice P np capp) := cell_at hT1 rfl
    have qhT2_0 : w150.cell? ⟨w.heap.size + 1 + 1, 0, none⟩ = some (.slice D np cd) := cell_at hT2 rfl
    have qhT2_1 : w150.cell? ⟨w.heap.size + 1 + 1, 1, none⟩ = some (.slice E me ce) := cell_at hT2 rfl
    have qhT2_2 : w150.cell? ⟨w.heap.size + 1 + 1, 2, none⟩ = some (.slice M n cm) := cell_at hT2 rfl
    have qhT2_3 : w150.cell? ⟨w.heap.size + 1 + 1, 3, none⟩ = some (.int .i64 s) := cell_at hT2 rfl
    have qhT2_4 : w150.cell? ⟨w.heap.size + 1 + 1, 4, none⟩ = some (.int .i64 f) := cell_at hT2 rfl
    have qhT2_5 : w150.cell? ⟨w.heap.size + 1 + 1, 5, none⟩ = some (.int .i64 i) := cell_at hT2 rfl
    obtain ⟨T, fl, df, IM, AG, N, V, W0, hIM, _, hT45, hW0, hN, k19, k48, k50, k49t, k49d, k50t, k40a, k40b, k40c, k40d⟩ := adj_most c r n np l un ln x ps ms dl hc hr HG.out HLN.out hn30 HPL.out HFX.out HD5.out HD45.out
    have HT45 := Lib.hid hT45
    have K19 := Lib.hid k19
    have K48 := Lib.hid k48
    have K50 := Lib.hid k50
    have K49t := Lib.hid k49t
    have K49d := Lib.hid k49d
    have K50t := Lib.hid k50t
    have K40a := Lib.hid k40a
    have K40b := Lib.hid k40b
    have K40c := Lib.hid k40c
    have K40d := Lib.hid k40d
    have hw0d : decide (W0 < 0) = false := by simpa using hW0
    clear hIM hT45 hW0 HFX k19 k48 k50 k49t k49d k50t k40a k40b k40c k40d
    go_wp2_with fail
    refine wp_region_plan [(0, true), (2, true), (4, true), (5, true), (1, false), (3, false), (6, false), (7, false), (8, true), (9, true), (10, true), (11, true), (12, true)] w150.heap.size (by kernel_rfl) (by kernel_rfl) (Nat.le_refl _) (fun _ _ d _ _ h => by cases d <;> exact h) ?_
    have hC : Below w150.heap.size w150 w150 := Below.refl _ _
    have zhT0 : w.heap.size < w150.heap.size := (Array.getElem?_eq_some_iff.1 hT0).1
    have zhT1 : w.heap.size + 1 < w150.heap.size := (Array.getElem?_eq_some_iff.1 hT1).1
    have zhT2 : w.heap.size + 1 + 1 < w150.heap.size := (Array.getElem?_eq_some_iff.1 hT2).1
    repeat (first | (refine wpPlanA_skip _ rfl (by rfl) ?_; simp only [Act.put, List.setIfInBounds_toArray, List.set_cons_zero, List.set_cons_succ]) | (refine wpPlanA_softD _ ?_ _ _ rfl rfl rfl (by rfl) ?_ ?_; rotate_left; (intro wq hq hcq; go_simp; first | exact rfl | exact ⟨rfl, rfl⟩); dsimp only [List.set_cons_zero, List.set_cons_succ]))
    refine wpPlanA_hard _ rfl (by rfl) (fun w151 hS K hK => ?_)
    go_simp
    refine (c20d c r A n cap l _ hl (H.below hS)).mono ?_
    rintro e w152 ⟨B13, cb13, rfl, hr13, hb⟩
    replace hS := hS.call hb rfl
    have hB152 := hB150.call hS rfl
    replace hC := hC.call hS rfl
    replace H := H.below hS
    replace HP := HP.below hS
    replace HD := HD.below hS
    replace HM := HM.below hS
    replace hst := hst.below hS
    replace hT0 := blkb hT0 hS
    replace hT1 := blkb hT1 hS
    replace hT2 := blkb hT2 hS
    replace hqq := blkb hqq hS
    refine hK _ _ hC ?_
    clear hS hb hB150 hK K
    try simp only [Act.put, List.setIfInBounds_toArray, List.set_cons_zero, List.set_cons_succ]
    refine wpPlanA_hard _ rfl (by rfl) (fun w153 hS K hK => ?_)
    go_simp
    refine (c21d un ln x P np capp ps _ hp (HP.below hS)).mono ?_
    rintro e w154 ⟨P14, pc14, rfl, ⟨hp14, hq14⟩, hb⟩
    replace hS := hS.call hb rfl
    have hB154 := hB152.call hS rfl
    replace hC := hC.call hS rfl
    replace H := H.below hS
    replace HP := HP.below hS
    replace HD := HD.below hS
    replace HM := HM.below hS
    replace hst := hst.below hS
    replace hT0 := blkb hT0 hS
    replace hT1 := blkb hT1 hS
    replace hT2 := blkb hT2 hS
    replace hqq := blkb hqq hS
    replace hr13 := hr13.below hS
    refine hK _ _ hC ?_
    clear hS hb hB152 hK K
    try simp only [Act.put, List.setIfInBounds_toArray, List.set_cons_zero, List.set_cons_succ]
    refine wpPlanA_hard _ rfl (by rfl) (fun w155 hS K hK => ?_)
    go_simp
    refine (c22d M n cm ms _ hl (HM.below hS)).mono ?_
    rintro e w156 ⟨D15, dc15, rfl, hd15, hb⟩
    replace hS := hS.call hb rfl
    have hB156 := hB154.call hS rfl
    replace hC := hC.call hS rfl
    replace H := H.below hS
    replace HP := HP.below hS
    replace HD := HD.below hS
    replace HM := HM.below hS
    replace hst := hst.below hS
    replace hT0 := blkb hT0 hS
    replace hT1 := blkb hT1 hS
    replace hT2 := blkb hT2 hS
    replace hqq := blkb hqq hS
    replace hr13 := hr13.below hS
    replace hp14 := hp14.below hS
    refine hK _ _ hC ?_
    clear hS hb hB154 hK K
    try simp only [Act.put, List.setIfInBounds_toArray, List.set_cons_zero, List.set_cons_succ]
    refine wpPlanA_hard _ rfl (by rfl) (fun w157 hS K hK => ?_)
    go_simp
    refine (K19.out _ _ _ _ _ _ _ hq14 (hr13.below hS) (hp14.below hS) (hd15.below hS) (hst.below hS)).mono ?_
    rintro e w158 ⟨go, rfl, hT, hb⟩
    replace hS := hS.call hb rfl
    have hB158 := hB156.call hS rfl
    replace hC := hC.call hS rfl
    replace H := H.below hS
    replace HP := HP.below hS
    replace HD := HD.below hS
    replace HM := HM.below hS
    replace hst := hst.below hS
    replace hT0 := blkb hT0 hS
    replace hT1 := blkb hT1 hS
    replace hT2 := blkb hT2 hS
    replace hqq := blkb hqq hS
    replace hr13 := hr13.below hS
    replace hp14 := hp14.below hS
    replace hd15 := hd15.below hS
    refine hK _ _ hC ?_
    clear hS hb hB156 hK K
    try simp only [Act.put, List.setIfInBounds_toArray, List.set_cons_zero, List.set_cons_succ]
    repeat (first | (refine wpPlanA_skip _ rfl (by rfl) ?_; simp only [Act.put, List.setIfInBounds_toArray, List.set_cons_zero, List.set_cons_succ]) | (refine wpPlanA_softD _ ?_ _ _ rfl rfl rfl (by rfl) ?_ ?_; rotate_left; (intro wq hq hcq; go_simp; first | exact rfl | exact ⟨rfl, rfl⟩); dsimp only [List.set_cons_zero, List.set_cons_succ]))
    clear hr13
    clear hp14
    clear hd15
    clear qhT0_0 qhT0_1 qhT0_2 qhT1_0 qhT1_1 qhT1_2 qhT1_3 qhT2_0 qhT2_1 qhT2_2 qhT2_3 qhT2_4 qhT2_5
    refine wpPlanA_nil (fun w159 hS => ?_)
    clear hC zhT0 zhT1 zhT2
    have hB159 := hB158.call hS rfl
    replace H := H.below hS
    replace HP := HP.below hS
    replace HD := HD.below hS
    replace HM := HM.below hS
    replace hst := hst.below hS
    replace hT0 := blkb hT0 hS
    replace hT1 := blkb hT1 hS
    replace hT2 := blkb hT2 hS
    replace hqq := blkb hqq hS
    replace hT := hT.below hS
    clear hS hB158
    have qhT0_0 : w159.cell? ⟨w.heap.size, 0, none⟩ = some (.int .i64 c) := cell_at hT0 rfl
    have qhT0_1 : w159.cell? ⟨w.heap.size, 1, none⟩ = some (.int .i64 r) := cell_at hT0 rfl
    have qhT0_2 : w159.cell? ⟨w.heap.size, 2, none⟩ = some (.slice A n cap) := cell_at hT0 rfl
    have qhT1_0 : w159.cell? ⟨w.heap.size + 1, 0, none⟩ = some (.int .i64 un) := cell_at hT1 rfl
    have qhT1_1 : w159.cell? ⟨w.heap.size + 1, 1, none⟩ = some (.int .i64 (ln : Nat)) := cell_at hT1 rfl
    have qhT1_2 : w159.cell? ⟨w.heap.size + 1, 2, none⟩ = some (.int .i64 x) := cell_at hT1 rfl
    have qhT1_3 : w159.cell? ⟨w.heap.size + 1, 3, none⟩ = some (.slice P np capp) := cell_at hT1 rfl
    have qhT2_0 : w159.cell? ⟨w.heap.size + 1 + 1, 0, none⟩ = some (.slice D np cd) := cell_at hT2 rfl
    have qhT2_1 : w159.cell? ⟨w.heap.size + 1 + 1, 1, none⟩ = some (.slice E me ce) := cell_at hT2 rfl
    have qhT2_2 : w159.cell? ⟨w.heap.size + 1 + 1, 2, none⟩ = some (.slice M n cm) := cell_at hT2 rfl
    have qhT2_3 : w159.cell? ⟨w.heap.size + 1 + 1, 3, none⟩ = some (.int .i64 s) := cell_at hT2 rfl
    have qhT2_4 : w159.cell? ⟨w.heap.size + 1 + 1, 4, none⟩ = some (.int .i64 f) := cell_at hT2 rfl
    have qhT2_5 : w159.cell? ⟨w.heap.size + 1 + 1, 5, none⟩ = some (.int .i64 i) := cell_at hT2 rfl
    go_wp2_with fail
    refine (K48.out _ _ _ hT).mono ?_
    rintro e w160 ⟨rfl, hb⟩
    clear qhT0_0 qhT0_1 qhT0_2 qhT1_0 qhT1_1 qhT1_2 qhT1_3 qhT2_0 qhT2_1 qhT2_2 qhT2_3 qhT2_4 qhT2_5
    have hS := hb
    have hB160 := hB159.call hS rfl
    replace H := H.below hS
    replace HP := HP.below hS
    replace HD := HD.below hS
    replace HM := HM.below hS
    replace hst := hst.below hS
    replace hT0 := blkb hT0 hS
    replace hT1 := blkb hT1 hS
    replace hT2 := blkb hT2 hS
    replace hqq := blkb hqq hS
    replace hT := hT.below hS
    clear hS hB159
    have qhT0_0 : w160.cell? ⟨w.heap.size, 0, none⟩ = some (.int .i64 c) := cell_at hT0 rfl
    have qhT0_1 : w160.cell? ⟨w.heap.size, 1, none⟩ = some (.int .i64 r) := cell_at hT0 rfl
    have qhT0_2 : w160.cell? ⟨w.heap.size, 2, none⟩ = some (.slice A n cap) := cell_at hT0 rfl
    have qhT1_0 : w160.cell? ⟨w.heap.size + 1, 0, none⟩ = some (.int .i64 un) := cell_at hT1 rfl
    have qhT1_1 : w160.cell? ⟨w.heap.size + 1, 1, none⟩ = some (.int .i64 (ln : Nat)) := cell_at hT1 rfl
    have qhT1_2 : w160.cell? ⟨w.heap.size + 1, 2, none⟩ = some (.int .i64 x) := cell_at hT1 rfl
    have qhT1_3 : w160.cell? ⟨w.heap.size + 1, 3, none⟩ = some (.slice P np capp) := cell_at hT1 rfl
    have qhT2_0 : w160.cell? ⟨w.heap.size + 1 + 1, 0, none⟩ = some (.slice D np cd) := cell_at hT2 rfl
    have qhT2_1 : w160.cell? ⟨w.heap.size + 1 + 1, 1, none⟩ = some (.slice E me ce) := cell_at hT2 rfl
    have qhT2_2 : w160.cell? ⟨w.heap.size + 1 + 1, 2, none⟩ = some (.slice M n cm) := cell_at hT2 rfl
    have qhT2_3 : w160.cell? ⟨w.heap.size + 1 + 1, 3, none⟩ = some (.int .i64 s) := cell_at hT2 rfl
    have qhT2_4 : w160.cell? ⟨w.heap.size + 1 + 1, 4, none⟩ = some (.int .i64 f) := cell_at hT2 rfl
    have qhT2_5 : w160.cell? ⟨w.heap.size + 1 + 1, 5, none⟩ = some (.int .i64 i) := cell_at hT2 rfl
    clear hb
    go_wp2_with fail
    refine wp_region_plan [(0, true), (2, true), (4, true), (5, true), (1, false), (3, false), (6, false), (7, false), (8, true), (9, true), (10, true), (11, true), (12, true)] w160.heap.size (by kernel_rfl) (by kernel_rfl) (Nat.le_refl _) (fun _ _ d _ _ h => by cases d <;> exact h) ?_
    have hC : Below w160.heap.size w160 w160 := Below.refl _ _
    have zhT0 : w.heap.size < w160.heap.size := (Array.getElem?_eq_some_iff.1 hT0).1
    have zhT1 : w.heap.size + 1 < w160.heap.size := (Array.getElem?_eq_some_iff.1 hT1).1
    have zhT2 : w.heap.size + 1 + 1 < w160.heap.size := (Array.getElem?_eq_some_iff.1 hT2).1
    repeat (first | (refine wpPlanA_skip _ rfl (by rfl) ?_; simp only [Act.put, List.setIfInBounds_toArray, List.set_cons_zero, List.set_cons_succ]) | (refine wpPlanA_softD _ ?_ _ _ rfl rfl rfl (by rfl) ?_ ?_; rotate_left; (intro wq hq hcq; go_simp; first | exact rfl | exact ⟨rfl, rfl⟩); dsimp only [List.set_cons_zero, List.set_cons_succ]))
    refine wpPlanA_hard _ rfl (by rfl) (fun w161 hS K hK => ?_)
    go_simp
    refine (c20d c r A n cap l _ hl (H.below hS)).mono ?_
    rintro e w162 ⟨B16, cb16, rfl, hr16, hb⟩
    replace hS := hS.call hb rfl
    have hB162 := hB160.call hS rfl
    replace hC := hC.call hS rfl
    replace H := H.below hS
    replace HP := HP.below hS
    replace HD := HD.below hS
    replace HM := HM.below hS
    replace hst := hst.below hS
    replace hT0 := blkb hT0 hS
    replace hT1 := blkb hT1 hS
    replace hT2 := blkb hT2 hS
    replace hqq := blkb hqq hS
    replace hT := hT.below hS
    refine hK _ _ hC ?_
    clear hS hb hB160 hK K
    try simp only [Act.put, List.setIfInBounds_toArray, List.set_cons_zero, List.set_cons_succ]
    refine wpPlanA_hard _ rfl (by rfl) (fun w163 hS K hK => ?_)
    go_simp
    refine (c21d un ln x P np capp ps _ hp (HP.below hS)).mono ?_
    rintro e w164 ⟨P17, pc17, rfl, ⟨hp17, hq17⟩, hb⟩
    replace hS := hS.call hb rfl
    have hB164 := hB162.call hS rfl
    replace hC := hC.call hS rfl
    replace H := H.below hS
    replace HP := HP.below hS
    replace HD := HD.below hS
    replace HM := HM.below hS
    replace hst := hst.below hS
    replace hT0 := blkb hT0 hS
    replace hT1 := blkb hT1 hS
    replace hT2 := blkb hT2 hS
    replace hqq := blkb hqq hS
    replace hT := hT.below hS
    replace hr16 := hr16.below hS
    refine hK _ _ hC ?_
    clear hS hb hB162 hK K
    try simp only [Act.put, List.setIfInBounds_toArray, List.set_cons_zero, List.set_cons_succ]
    refine wpPlanA_hard _ rfl (by rfl) (fun w165 hS K hK => ?_)
    go_simp
    refine (c33d D np cd dl _ hnp5 HD45.out (HD.below hS)).mono ?_
    rintro e w166 ⟨F18, fc18, rfl, he18, hb⟩
    replace hS := hS.call hb rfl
    have hB166 := hB164.call hS rfl
    replace hC := hC.call hS rfl
    replace H := H.below hS
    replace HP := HP.below hS
    replace HD := HD.below hS
    replace HM := HM.below hS
    replace hst := hst.below hS
    replace hT0 := blkb hT0 hS
    replace hT1 := blkb hT1 hS
    replace hT2 := blkb hT2 hS
    replace hqq := blkb hqq hS
    replace hT := hT.below hS
    replace hr16 := hr16.below hS
    replace hp17 := hp17.below hS
    refine hK _ _ hC ?_
    clear hS hb hB164 hK K
    try simp only [Act.put, List.setIfInBounds_toArray, List.set_cons_zero, List.set_cons_succ]
    refine wpPlanA_hard _ rfl (by rfl) (fun w167 hS K hK => ?_)
    go_simp
    refine (K50.out _ _ _ _ _ _ _ hq17 (hr16.below hS) (hp17.below hS) (he18.below hS) (hst.below hS)).mono ?_
    rintro e w168 ⟨I1, ic1, rfl, hI1, hb⟩
    replace hS := hS.call hb rfl
    have hB168 := hB166.call hS rfl
    replace hC := hC.call hS rfl
    replace H := H.below hS
    replace HP := HP.below hS
    replace HD := HD.below hS
    replace HM := HM.below hS
    replace hst := hst.below hS
    replace hT0 := blkb hT0 hS
    replace hT1 := blkb hT1 hS
    replace hT2 := blkb hT2 hS
    replace hqq := blkb hqq hS
    replace hT := hT.below hS
    replace hr16 := hr16.below hS
    replace hp17 := hp17.below hS
    replace he18 := he18.below hS
    refine hK _ _ hC ?_
    clear hS hb hB166 hK K
    try simp only [Act.put, List.setIfInBounds_toArray, List.set_cons_zero, List.set_cons_succ]
    repeat (first | (refine wpPlanA_skip _ rfl (by rfl) ?_; simp only [Act.put, List.setIfInBounds_toArray, List.set_cons_zero, List.set_cons_succ]) | (refine wpPlanA_softD _ ?_ _ _ rfl rfl rfl (by rfl) ?_ ?_; rotate_left; (intro wq hq hcq; go_simp; first | exact rfl | exact ⟨rfl, rfl⟩); dsimp only [List.set_cons_zero, List.set_cons_succ]))
    clear hr16
    clear hp17
    clear he18
    clear qhT0_0 qhT0_1 qhT0_2 qhT1_0 qhT1_1 qhT1_2 qhT1_3 qhT2_0 qhT2_1 qhT2_2 qhT2_3 qhT2_4 qhT2_5
    refine wpPlanA_nil (fun w169 hS => ?_)
    clear hC zhT0 zhT1 zhT2
    have hB169 := hB168.call hS rfl
    replace H := H.below hS
    replace HP := HP.below hS
    replace HD := HD.below hS
    replace HM := HM.below hS
    replace hst := hst.below hS
    replace hT0 := blkb hT0 hS
    replace hT1 := blkb hT1 hS
    replace hT2 := blkb hT2 hS
    replace hqq := blkb hqq hS
    replace hT := hT.below hS
    replace hI1 := hI1.below hS
    clear hS hB168
    have qhT0_0 : w169.cell? ⟨w.heap.size, 0, none⟩ = some (.int .i64 c) := cell_at hT0 rfl
    have qhT0_1 : w169.cell? ⟨w.heap.size, 1, none⟩ = some (.int .i64 r) := cell_at hT0 rfl
    have qhT0_2 : w169.cell? ⟨w.heap.size, 2, none⟩ = some (.slice A n cap) := cell_at hT0 rfl
    have qhT1_0 : w169.cell? ⟨w.heap.size + 1, 0, none⟩ = some (.int .i64 un) := cell_at hT1 rfl
    have qhT1_1 : w169.cell? ⟨w.heap.size + 1, 1, none⟩ = some (.int .i64 (ln : Nat)) := cell_at hT1 rfl
    have qhT1_2 : w169.cell? ⟨w.heap.size + 1, 2, none⟩ = some (.int .i64 x) := cell_at hT1 rfl
    have qhT1_3 : w169.cell? ⟨w.heap.size + 1, 3, none⟩ = some (.slice P np capp) := cell_at hT1 rfl
    have qhT2_0 : w169.cell? ⟨w.heap.size + 1 + 1, 0, none⟩ = some (.slice D np cd) := cell_at hT2 rfl
    have qhT2_1 : w169.cell? ⟨w.heap.size + 1 + 1, 1, none⟩ = some (.slice E me ce) := cell_at hT2 rfl
    have qhT2_2 : w169.cell? ⟨w.heap.size + 1 + 1, 2, none⟩ = some (.slice M n cm) := cell_at hT2 rfl
    have qhT2_3 : w169.cell? ⟨w.heap.size + 1 + 1, 3, none⟩ = some (.int .i64 s) := cell_at hT2 rfl
    have qhT2_4 : w169.cell? ⟨w.heap.size + 1 + 1, 4, none⟩ = some (.int .i64 f) := cell_at hT2 rfl
    have qhT2_5 : w169.cell? ⟨w.heap.size + 1 + 1, 5, none⟩ = some (.int .i64 i) := cell_at hT2 rfl
    go_wp2_with fail
    refine wp_region_plan [(0, true), (2, true), (4, true), (1, false), (3, false), (5, false), (6, false), (7, true), (8, true), (9, true), (10, true), (11, true)] w169.heap.size (by kernel_rfl) (by kernel_rfl) (Nat.le_refl _) (fun _ _ d _ _ h => by cases d <;> exact h) ?_
    have hC : Below w169.heap.size w169 w169 := Below.refl _ _
    have zhT0 : w.heap.size < w169.heap.size := (Array.getElem?_eq_some_iff.1 hT0).1
    have zhT1 : w.heap.size + 1 < w169.heap.size := (Array.getElem?_eq_some_iff.1 hT1).1
    have zhT2 : w.heap.size + 1 + 1 < w169.heap.size := (Array.getElem?_eq_some_iff.1 hT2).1
    repeat (first | (refine wpPlanA_skip _ rfl (by rfl) ?_; simp only [Act.put, List.setIfInBounds_toArray, List.set_cons_zero, List.set_cons_succ]) | (refine wpPlanA_softD _ ?_ _ _ rfl rfl rfl (by rfl) ?_ ?_; rotate_left; (intro wq hq hcq; go_simp; first | exact rfl | exact ⟨rfl, rfl⟩); dsimp only [List.set_cons_zero, List.set_cons_succ]))
    refine wpPlanA_hard _ rfl (by rfl) (fun w170 hS K hK => ?_)
    go_simp
    refine (c20d c r A n cap l _ hl (H.below hS)).mono ?_
    rintro e w171 ⟨B19, cb19, rfl, hr19, hb⟩
    replace hS := hS.call hb rfl
    have hB171 := hB169.call hS rfl
    replace hC := hC.call hS rfl
    replace H := H.below hS
    replace HP := HP.below hS
    replace HD := HD.below hS
    replace HM := HM.below hS
    replace hst := hst.below hS
    replace hT0 := blkb hT0 hS
    replace hT1 := blkb hT1 hS
    replace hT2 := blkb hT2 hS
    replace hqq := blkb hqq hS
    replace hT := hT.below hS
    replace hI1 := hI1.below hS
    refine hK _ _ hC ?_
    clear hS hb hB169 hK K
    try simp only [Act.put, List.setIfInBounds_toArray, List.set_cons_zero, List.set_cons_succ]
    refine wpPlanA_hard _ rfl (by rfl) (fun w172 hS K hK => ?_)
    go_simp
    refine (c21d un ln x P np capp ps _ hp (HP.below hS)).mono ?_
    rintro e w173 ⟨P20, pc20, rfl, ⟨hp20, hq20⟩, hb⟩
    replace hS := hS.call hb rfl
    have hB173 := hB171.call hS rfl
    replace hC := hC.call hS rfl
    replace H := H.below hS
    replace HP := HP.below hS
    replace HD := HD.below hS
    replace HM := HM.below hS
    replace hst := hst.below hS
    replace hT0 := blkb hT0 hS
    replace hT1 := blkb hT1 hS
    replace hT2 := blkb hT2 hS
    replace hqq := blkb hqq hS
    replace hT := hT.below hS
    replace hI1 := hI1.below hS
    replace hr19 := hr19.below hS
    refine hK _ _ hC ?_
    clear hS hb hB171 hK K
    try simp only [Act.put, List.setIfInBounds_toArray, List.set_cons_zero, List.set_cons_succ]
    refine wpPlanA_hard _ rfl (by rfl) (fun w174 hS K hK => ?_)
    go_simp
    refine (c33d _ np _ T _ hnp5 HT45.out (hT.below hS)).mono ?_
    rintro e w175 ⟨F21, fc21, rfl, he21, hb⟩
    replace hS := hS.call hb rfl
    have hB175 := hB173.call hS rfl
    replace hC := hC.call hS rfl
    replace H := H.below hS
    replace HP := HP.below hS
    replace HD := HD.below hS
    replace HM := HM.below hS
    replace hst := hst.below hS
    replace hT0 := blkb hT0 hS
    replace hT1 := blkb hT1 hS
    replace hT2 := blkb hT2 hS
    replace hqq := blkb hqq hS
    replace hT := hT.below hS
    replace hI1 := hI1.below hS
    replace hr19 := hr19.below hS
    replace hp20 := hp20.below hS
    refine hK _ _ hC ?_
    clear hS hb hB173 hK K
    try simp only [Act.put, List.setIfInBounds_toArray, List.set_cons_zero, List.set_cons_succ]
    refine wpPlanA_hard _ rfl (by rfl) (fun w176 hS K hK => ?_)
    go_simp
    refine (K49t.out _ _ _ _ _ _ _ (hr19.below hS) (hp20.below hS) (he21.below hS)).mono ?_
    rintro e w177 ⟨I2, ic2, rfl, hI2, hb⟩
    replace hS := hS.call hb rfl
    have hB177 := hB175.call hS rfl
    replace hC := hC.call hS rfl
    replace H := H.below hS
    replace HP := HP.below hS
    replace HD := HD.below hS
    replace HM := HM.below hS
    replace hst := hst.below hS
    replace hT0 := blkb hT0 hS
    replace hT1 := blkb hT1 hS
    replace hT2 := blkb hT2 hS
    replace hqq := blkb hqq hS
    replace hT := hT.below hS
    replace hI1 := hI1.below hS
    replace hr19 := hr19.below hS
    replace hp20 := hp20.below hS
    replace he21 := he21.below hS
    refine hK _ _ hC ?_
    clear hS hb hB175 hK K
    try simp only [Act.put, List.setIfInBounds_toArray, List.set_cons_zero, List.set_cons_succ]
    repeat (first | (refine wpPlanA_skip _ rfl (by rfl) ?_; simp only [Act.put, List.setIfInBounds_toArray, List.set_cons_zero, List.set_cons_succ]) | (refine wpPlanA_softD _ ?_ _ _ rfl rfl rfl (by rfl) ?_ ?_; rotate_left; (intro wq hq hcq; go_simp; first | exact rfl | exact ⟨rfl, rfl⟩); dsimp only [List.set_cons_zero, List.set_cons_succ]))
    clear hr19
    clear hp20
    clear he21
    clear qhT0_0 qhT0_1 qhT0_2 qhT1_0 qhT1_1 qhT1_2 qhT1_3 qhT2_0 qhT2_1 qhT2_2 qhT2_3 qhT2_4 qhT2_5
    refine wpPlanA_nil (fun w178 hS => ?_)
    clear hC zhT0 zhT1 zhT2
    have hB178 := hB177.call hS rfl
    replace H := H.below hS
    replace HP := HP.below hS
    replace HD := HD.below hS
    replace HM := HM.below hS
    replace hst := hst.below hS
    replace hT0 := blkb hT0 hS
    replace hT1 := blkb hT1 hS
    replace hT2 := blkb hT2 hS
    replace hqq := blkb hqq hS
    replace hT := hT.below hS
    replace hI1 := hI1.below hS
    replace hI2 := hI2.below hS
    clear hS hB177
    have qhT0_0 : w178.cell? ⟨w.heap.size, 0, none⟩ = some (.int .i64 c) := cell_at hT0 rfl
    have qhT0_1 : w178.cell? ⟨w.heap.size, 1, none⟩ = some (.int .i64 r) := cell_at hT0 rfl
    have qhT0_2 : w178.cell? ⟨w.heap.size, 2, none⟩ = some (.slice A n cap) := cell_at hT0 rfl
    have qhT1_0 : w178.cell? ⟨w.heap.size + 1, 0, none⟩ = some (.int .i64 un) := cell_at hT1 rfl
    have qhT1_1 : w178.cell? ⟨w.heap.size + 1, 1, none⟩ = some (.int .i64 (ln : Nat)) := cell_at hT1 rfl
    have qhT1_2 : w178.cell? ⟨w.heap.size + 1, 2, none⟩ = some (.int .i64 x) := cell_at hT1 rfl
    have qhT1_3 : w178.cell? ⟨w.heap.size + 1, 3, none⟩ = some (.slice P np capp) := cell_at hT1 rfl
    have qhT2_0 : w178.cell? ⟨w.heap.size + 1 + 1, 0, none⟩ = some (.slice D np cd) := cell_at hT2 rfl
    have qhT2_1 : w178.cell? ⟨w.heap.size + 1 + 1, 1, none⟩ = some (.slice E me ce) := cell_at hT2 rfl
    have qhT2_2 : w178.cell? ⟨w.heap.size + 1 + 1, 2, none⟩ = some (.slice M n cm) := cell_at hT2 rfl
    have qhT2_3 : w178.cell? ⟨w.heap.size + 1 + 1, 3, none⟩ = some (.int .i64 s) := cell_at hT2 rfl
    have qhT2_4 : w178.cell? ⟨w.heap.size + 1 + 1, 4, none⟩ = some (.int .i64 f) := cell_at hT2 rfl
    have qhT2_5 : w178.cell? ⟨w.heap.size + 1 + 1, 5, none⟩ = some (.int .i64 i) := cell_at hT2 rfl
    go_wp2_with fail
    refine wp_region_plan [(0, true), (2, true), (4, true), (5, true), (1, false), (3, false), (6, false), (7, false), (8, true), (9, true), (10, true), (11, true), (12, true)] w178.heap.size (by kernel_rfl) (by kernel_rfl) (Nat.le_refl _) (fun _ _ d _ _ h => by cases d <;> exact h) ?_
    have hC : Below w178.heap.size w178 w178 := Below.refl _ _
    have zhT0 : w.heap.size < w178.heap.size := (Array.getElem?_eq_some_iff.1 hT0).1
    have zhT1 : w.heap.size + 1 < w178.heap.size := (Array.getElem?_eq_some_iff.1 hT1).1
    have zhT2 : w.heap.size + 1 + 1 < w178.heap.size := (Array.getElem?_eq_some_iff.1 hT2).1
    repeat (first | (refine wpPlanA_skip _ rfl (by rfl) ?_; simp only [Act.put, List.setIfInBounds_toArray, List.set_cons_zero, List.set_cons_succ]) | (refine wpPlanA_softD _ ?_ _ _ rfl rfl rfl (by rfl) ?_ ?_; rotate_left; (intro wq hq hcq; go_simp; first | exact rfl | exact ⟨rfl, rfl⟩); dsimp only [List.set_cons_zero, List.set_cons_succ]))
    refine wpPlanA_hard _ rfl (by rfl) (fun w179 hS K hK => ?_)
    go_simp
    refine (c20d c r A n cap l _ hl (H.below hS)).mono ?_
    rintro e w180 ⟨B22, cb22, rfl, hr22, hb⟩
    replace hS := hS.call hb rfl
    have hB180 := hB178.call hS rfl
    replace hC := hC.call hS rfl
    replace H := H.below hS
    replace HP := HP.below hS
    replace HD := HD.below hS
    replace HM := HM.below hS
    replace hst := hst.below hS
    replace hT0 := blkb hT0 hS
    replace hT1 := blkb hT1 hS
    replace hT2 := blkb hT2 hS
    replace hqq := blkb hqq hS
    replace hT := hT.below hS
    replace hI1 := hI1.below hS
    replace hI2 := hI2.below hS
    refine hK _ _ hC ?_
    clear hS hb hB178 hK K
    try simp only [Act.put, List.setIfInBounds_toArray, List.set_cons_zero, List.set_cons_succ]
    refine wpPlanA_hard _ rfl (by rfl) (fun w181 hS K hK => ?_)
    go_simp
    refine (c21d un ln x P np capp ps _ hp (HP.below hS)).mono ?_
    rintro e w182 ⟨P23, pc23, rfl, ⟨hp23, hq23⟩, hb⟩
    replace hS := hS.call hb rfl
    have hB182 := hB180.call hS rfl
    replace hC := hC.call hS rfl
    replace H := H.below hS
    replace HP := HP.below hS
    replace HD := HD.below hS
    replace HM := HM.below hS
    replace hst := hst.below hS
    replace hT0 := blkb hT0 hS
    replace hT1 := blkb hT1 hS
    replace hT2 := blkb hT2 hS
    replace hqq := blkb hqq hS
    replace hT := hT.below hS
    replace hI1 := hI1.below hS
    replace hI2 := hI2.below hS
    replace hr22 := hr22.below hS
    refine hK _ _ hC ?_
    clear hS hb hB180 hK K
    try simp only [Act.put, List.setIfInBounds_toArray, List.set_cons_zero, List.set_cons_succ]
    refine wpPlanA_hard _ rfl (by rfl) (fun w183 hS K hK => ?_)
    go_simp
    refine (c33d D np cd dl _ hnp5 HD45.out (HD.below hS)).mono ?_
    rintro e w184 ⟨F24, fc24, rfl, he24, hb⟩
    replace hS := hS.call hb rfl
    have hB184 := hB182.call hS rfl
    replace hC := hC.call hS rfl
    replace H := H.below hS
    replace HP := HP.below hS
    replace HD := HD.below hS
    replace HM := HM.below hS
    replace hst := hst.below hS
    replace hT0 := blkb hT0 hS
    replace hT1 := blkb hT1 hS
    replace hT2 := blkb hT2 hS
    replace hqq := blkb hqq hS
    replace hT := hT.below hS
    replace hI1 := hI1.below hS
    replace hI2 := hI2.below hS
    replace hr22 := hr22.below hS
    replace hp23 := hp23.below hS
    refine hK _ _ hC ?_
    clear hS hb hB182 hK K
    try simp only [Act.put, List.setIfInBounds_toArray, List.set_cons_zero, List.set_cons_succ]
    refine wpPlanA_hard _ rfl (by rfl) (fun w185 hS K hK => ?_)
    go_simp
    refine (K49d.out _ _ _ _ _ _ _ (hr22.below hS) (hp23.below hS) (he24.below hS)).mono ?_
    rintro e w186 ⟨I3, ic3, rfl, hI3, hb⟩
    replace hS := hS.call hb rfl
    have hB186 := hB184.call hS rfl
    replace hC := hC.call hS rfl
    replace H := H.below hS
    replace HP := HP.below hS
    replace HD := HD.below hS
    replace HM := HM.below hS
    replace hst := hst.below hS
    replace hT0 := blkb hT0 hS
    replace hT1 := blkb hT1 hS
    replace hT2 := blkb hT2 hS
    replace hqq := blkb hqq hS
    replace hT := hT.below hS
    replace hI1 := hI1.below hS
    replace hI2 := hI2.below hS
    replace hr22 := hr22.below hS
    replace hp23 := hp23.below hS
    replace he24 := he24.below hS
    refine hK _ _ hC ?_
    clear hS hb hB184 hK K
    try simp only [Act.put, List.setIfInBounds_toArray, List.set_cons_zero, List.set_cons_succ]
    repeat (first | (refine wpPlanA_skip _ rfl (by rfl) ?_; simp only [Act.put, List.setIfInBounds_toArray, List.set_cons_zero, List.set_cons_succ]) | (refine wpPlanA_softD _ ?_ _ _ rfl rfl rfl (by rfl) ?_ ?_; rotate_left; (intro wq hq hcq; go_simp; first | exact rfl | exact ⟨rfl, rfl⟩); dsimp only [List.set_cons_zero, List.set_cons_succ]))
    clear hr22
    clear hp23
    clear he24
    clear qhT0_0 qhT0_1 qhT0_2 qhT1_0 qhT1_1 qhT1_2 qhT1_3 qhT2_0 qhT2_1 qhT2_2 qhT2_3 qhT2_4 qhT2_5
    refine wpPlanA_nil (fun w187 hS => ?_)
    clear hC zhT0 zhT1 zhT2
    have hB187 := hB186.call hS rfl
    replace H := H.below hS
    replace HP := HP.below hS
    replace HD := HD.below hS
    replace HM := HM.below hS
    replace hst := hst.below hS
    replace hT0 := blkb hT0 hS
    replace hT1 := blkb hT1 hS
    replace hT2 := blkb hT2 hS
    replace hqq := blkb hqq hS
    replace hT := hT.below hS
    replace hI1 := hI1.below hS
    replace hI2 := hI2.below hS
    replace hI3 := hI3.below hS
    clear hS hB186
    have qhT0_0 : w187.cell? ⟨w.heap.size, 0, none⟩ = some (.int .i64 c) := cell_at hT0 rfl
    have qhT0_1 : w187.cell? ⟨w.heap.size, 1, none⟩ = some (.int .i64 r) := cell_at hT0 rfl
    have qhT0_2 : w187.cell? ⟨w.heap.size, 2, none⟩ = some (.slice A n cap) := cell_at hT0 rfl
    have qhT1_0 : w187.cell? ⟨w.heap.size + 1, 0, none⟩ = some (.int .i64 un) := cell_at hT1 rfl
    have qhT1_1 : w187.cell? ⟨w.heap.size + 1, 1, none⟩ = some (.int .i64 (ln : Nat)) := cell_at hT1 rfl
    have qhT1_2 : w187.cell? ⟨w.heap.size + 1, 2, none⟩ = some (.int .i64 x) := cell_at hT1 rfl
    have qhT1_3 : w187.cell? ⟨w.heap.size + 1, 3, none⟩ = some (.slice P np capp) := cell_at hT1 rfl
    have qhT2_0 : w187.cell? ⟨w.heap.size + 1 + 1, 0, none⟩ = some (.slice D np cd) := cell_at hT2 rfl
    have qhT2_1 : w187.cell? ⟨w.heap.size + 1 + 1, 1, none⟩ = some (.slice E me ce) := cell_at hT2 rfl
    have qhT2_2 : w187.cell? ⟨w.heap.size + 1 + 1, 2, none⟩ = some (.slice M n cm) := cell_at hT2 rfl
    have qhT2_3 : w187.cell? ⟨w.heap.size + 1 + 1, 3, none⟩ = some (.int .i64 s) := cell_at hT2 rfl
    have qhT2_4 : w187.cell? ⟨w.heap.size + 1 + 1, 4, none⟩ = some (.int .i64 f) := cell_at hT2 rfl
    have qhT2_5 : w187.cell? ⟨w.heap.size + 1 + 1, 5, none⟩ = some (.int .i64 i) := cell_at hT2 rfl
    go_wp2_with fail
    refine wp_region_plan [(0, true), (2, true), (4, true), (1, false), (3, false), (5, false), (6, false), (7, true), (8, true), (9, true), (10, true), (11, true)] w187.heap.size (by kernel_rfl) (by kernel_rfl) (Nat.le_refl _) (fun _ _ d _ _ h => by cases d <;> exact h) ?_
    have hC : Below w187.heap.size w187 w187 := Below.refl _ _
    have zhT0 : w.heap.size < w187.heap.size := (Array.getElem?_eq_some_iff.1 hT0).1
    have zhT1 : w.heap.size + 1 < w187.heap.size := (Array.getElem?_eq_some_iff.1 hT1).1
    have zhT2 : w.heap.size + 1 + 1 < w187.heap.size := (Array.getElem?_eq_some_iff.1 hT2).1
    repeat (first | (refine wpPlanA_skip _ rfl (by rfl) ?_; simp only [Act.put, List.setIfInBounds_toArray, List.set_cons_zero, List.set_cons_succ]) | (refine wpPlanA_softD _ ?_ _ _ rfl rfl rfl (by rfl) ?_ ?_; rotate_left; (intro wq hq hcq; go_simp; first | exact rfl | exact ⟨rfl, rfl⟩); dsimp only [List.set_cons_zero, List.set_cons_succ]))
    refine wpPlanA_hard _ rfl (by rfl) (fun w188 hS K hK => ?_)
    go_simp
    refine (c20d c r A n cap l _ hl (H.below hS)).mono ?_
    rintro e w189 ⟨B25, cb25, rfl, hr25, hb⟩
    replace hS := hS.call hb rfl
    have hB189 := hB187.call hS rfl
    replace hC := hC.call hS rfl
    replace H := H.below hS
    replace HP := HP.below hS
    replace HD := HD.below hS
    replace HM := HM.below hS
    replace hst := hst.below hS
    replace hT0 := blkb hT0 hS
    replace hT1 := blkb hT1 hS
    replace hT2 := blkb hT2 hS
    replace hqq := blkb hqq hS
    replace hT := hT.below hS
    replace hI1 := hI1.below hS
    replace hI2 := hI2.below hS
    replace hI3 := hI3.below hS
    refine hK _ _ hC ?_
    clear hS hb hB187 hK K
    try simp only [Act.put, List.setIfInBounds_toArray, List.set_cons_zero, List.set_cons_succ]
    refine wpPlanA_hard _ rfl (by rfl) (fun w190 hS K hK => ?_)
    go_simp
    refine (c21d un ln x P np capp ps _ hp (HP.below hS)).mono ?_
    rintro e w191 ⟨P26, pc26, rfl, ⟨hp26, hq26⟩, hb⟩
    replace hS := hS.call hb rfl
    have hB191 := hB189.call hS rfl
    replace hC := hC.call hS rfl
    replace H := H.below hS
    replace HP := HP.below hS
    replace HD := HD.below hS
    replace HM := HM.below hS
    replace hst := hst.below hS
    replace hT0 := blkb hT0 hS
    replace hT1 := blkb hT1 hS
    replace hT2 := blkb hT2 hS
    replace hqq := blkb hqq hS
    replace hT := hT.below hS
    replace hI1 := hI1.below hS
    replace hI2 := hI2.below hS
    replace hI3 := hI3.below hS
    replace hr25 := hr25.below hS
    refine hK _ _ hC ?_
    clear hS hb hB189 hK K
    try simp only [Act.put, List.setIfInBounds_toArray, List.set_cons_zero, List.set_cons_succ]
    refine wpPlanA_hard _ rfl (by rfl) (fun w192 hS K hK => ?_)
    go_simp
    refine (c33d _ np _ T _ hnp5 HT45.out (hT.below hS)).mono ?_
    rintro e w193 ⟨F27, fc27, rfl, he27, hb⟩
    replace hS := hS.call hb rfl
    have hB193 := hB191.call hS rfl
    replace hC := hC.call hS rfl
    replace H := H.below hS
    replace HP := HP.below hS
    replace HD := HD.below hS
    replace HM := HM.below hS
    replace hst := hst.below hS
    replace hT0 := blkb hT0 hS
    replace hT1 := blkb hT1 hS
    replace hT2 := blkb hT2 hS
    replace hqq := blkb hqq hS
    replace hT := hT.below hS
    replace hI1 := hI1.below hS
    replace hI2 := hI2.below hS
    replace hI3 := hI3.below hS
    replace hr25 := hr25.below hS
    replace hp26 := hp26.below hS
    refine hK _ _ hC ?_
    clear hS hb hB191 hK K
    try simp only [Act.put, List.setIfInBounds_toArray, List.set_cons_zero, List.set_cons_succ]
    refine wpPlanA_hard _ rfl (by rfl) (fun w194 hS K hK => ?_)
    go_simp
    refine (K50t.out _ _ _ _ _ _ _ hq26 (hr25.below hS) (hp26.below hS) (he27.below hS) (hst.below hS)).mono ?_
    rintro e w195 ⟨I4, ic4, rfl, hI4, hb⟩
    replace hS := hS.call hb rfl
    have hB195 := hB193.call hS rfl
    replace hC := hC.call hS rfl
    replace H := H.below hS
    replace HP := HP.below hS
    replace HD := HD.below hS
    replace HM := HM.below hS
    replace hst := hst.below hS
    replace hT0 := blkb hT0 hS
    replace hT1 := blkb hT1 hS
    replace hT2 := blkb hT2 hS
    replace hqq := blkb hqq hS
    replace hT := hT.below hS
    replace hI1 := hI1.below hS
    replace hI2 := hI2.below hS
    replace hI3 := hI3.below hS
    replace hr25 := hr25.below hS
    replace hp26 := hp26.below hS
    replace he27 := he27.below hS
    refine hK _ _ hC ?_
    clear hS hb hB193 hK K
    try simp only [Act.put, List.setIfInBounds_toArray, List.set_cons_zero, List.set_cons_succ]
    repeat (first | (refine wpPlanA_skip _ rfl (by rfl) ?_; simp only [Act.put, List.setIfInBounds_toArray, List.set_cons_zero, List.set_cons_succ]) | (refine wpPlanA_softD _ ?_ _ _ rfl rfl rfl (by rfl) ?_ ?_; rotate_left; (intro wq hq hcq; go_simp; first | exact rfl | exact ⟨rfl, rfl⟩); dsimp only [List.set_cons_zero, List.set_cons_succ]))
    clear hr25
    clear hp26
    clear he27
    clear hT
    clear qhT0_0 qhT0_1 qhT0_2 qhT1_0 qhT1_1 qhT1_2 qhT1_3 qhT2_0 qhT2_1 qhT2_2 qhT2_3 qhT2_4 qhT2_5
    refine wpPlanA_nil (fun w196 hS => ?_)
    clear hC zhT0 zhT1 zhT2
    have hB196 := hB195.call hS rfl
    replace H := H.below hS
    replace HP := HP.below hS
    replace HD := HD.below hS
    replace HM := HM.below hS
    replace hst := hst.below hS
    replace hT0 := blkb hT0 hS
    replace hT1 := blkb hT1 hS
    replace hT2 := blkb hT2 hS
    replace hqq := blkb hqq hS
    replace hI1 := hI1.below hS
    replace hI2 := hI2.below hS
    replace hI3 := hI3.below hS
    replace hI4 := hI4.below hS
    clear hS hB195
    have qhT0_0 : w196.cell? ⟨w.heap.size, 0, none⟩ = some (.int .i64 c) := cell_at hT0 rfl
    have qhT0_1 : w196.cell? ⟨w.heap.size, 1, none⟩ = some (.int .i64 r) := cell_at hT0 rfl
    have qhT0_2 : w196.cell? ⟨w.heap.size, 2, none⟩ = some (.slice A n cap) := cell_at hT0 rfl
    have qhT1_0 : w196.cell? ⟨w.heap.size + 1, 0, none⟩ = some (.int .i64 un) := cell_at hT1 rfl
    have qhT1_1 : w196.cell? ⟨w.heap.size + 1, 1, none⟩ = some (.int .i64 (ln : Nat)) := cell_at hT1 rfl
    have qhT1_2 : w196.cell? ⟨w.heap.size + 1, 2, none⟩ = some (.int .i64 x) := cell_at hT1 rfl
    have qhT1_3 : w196.cell? ⟨w.heap.size + 1, 3, none⟩ = some (.slice P np capp) := cell_at hT1 rfl
    have qhT2_0 : w196.cell? ⟨w.heap.size + 1 + 1, 0, none⟩ = some (.slice D np cd) := cell_at hT2 rfl
    have qhT2_1 : w196.cell? ⟨w.heap.size + 1 + 1, 1, none⟩ = some (.slice E me ce) := cell_at hT2 rfl
    have qhT2_2 : w196.cell? ⟨w.heap.size + 1 + 1, 2, none⟩ = some (.slice M n cm) := cell_at hT2 rfl
    have qhT2_3 : w196.cell? ⟨w.heap.size + 1 + 1, 3, none⟩ = some (.int .i64 s) := cell_at hT2 rfl
    have qhT2_4 : w196.cell? ⟨w.heap.size + 1 + 1, 4, none⟩ = some (.int .i64 f) := cell_at hT2 rfl
    have qhT2_5 : w196.cell? ⟨w.heap.size + 1 + 1, 5, none⟩ = some (.int .i64 i) := cell_at hT2 rfl
    as_aux_lemma =>
     go_wp2_with fail
     refine (c22d _ N _ fl _ hN hI2).mono ?_
     rintro e w197 ⟨D28, dc28, rfl, hd28, hb⟩
     clear qhT0_0 qhT0_1 qhT0_2 qhT1_0 qhT1_1 qhT1_2 qhT1_3 qhT2_0 qhT2_1 qhT2_2 qhT2_3 qhT2_4 qhT2_5
     have hS := hb
     have hB197 := hB196.call hS rfl
     replace H := H.below hS
     replace HP := HP.below hS
     replace HD := HD.below hS
     replace HM := HM.below hS
     replace hst := hst.below hS
     replace hT0 := blkb hT0 hS
     replace hT1 := blkb hT1 hS
     replace hT2 := blkb hT2 hS
     replace hqq := blkb hqq hS
     replace hI1 := hI1.below hS
     replace hI2 := hI2.below hS
     replace hI3 := hI3.below hS
     replace hI4 := hI4.below hS
     clear hS hB196
     have qhT0_0 : w197.cell? ⟨w.heap.size, 0, none⟩ = some (.int .i64 c) := cell_at hT0 rfl
     have qhT0_1 : w197.cell? ⟨w.heap.size, 1, none⟩ = some (.int .i64 r) := cell_at hT0 rfl
     have qhT0_2 : w197.cell? ⟨w.heap.size, 2, none⟩ = some (.slice A n cap) := cell_at hT0 rfl
     have qhT1_0 : w197.cell? ⟨w.heap.size + 1, 0, none⟩ = some (.int .i64 un) := cell_at hT1 rfl
     have qhT1_1 : w197.cell? ⟨w.heap.size + 1, 1, none⟩ = some (.int .i64 (ln : Nat)) := cell_at hT1 rfl
     have qhT1_2 : w197.cell? ⟨w.heap.size + 1, 2, none⟩ = some (.int .i64 x) := cell_at hT1 rfl
     have qhT1_3 : w197.cell? ⟨w.heap.size + 1, 3, none⟩ = some (.slice P np capp) := cell_at hT1 rfl
     have qhT2_0 : w197.cell? ⟨w.heap.size + 1 + 1, 0, none⟩ = some (.slice D np cd) := cell_at hT2 rfl
     have qhT2_1 : w197.cell? ⟨w.heap.size + 1 + 1, 1, none⟩ = some (.slice E me ce) := cell_at hT2 rfl
     have qhT2_2 : w197.cell? ⟨w.heap.size + 1 + 1, 2, none⟩ = some (.slice M n cm) := cell_at hT2 rfl
     have qhT2_3 : w197.cell? ⟨w.heap.size + 1 + 1, 3, none⟩ = some (.int .i64 s) := cell_at hT2 rfl
     have qhT2_4 : w197.cell? ⟨w.heap.size + 1 + 1, 4, none⟩ = some (.int .i64 f) := cell_at hT2 rfl
     have qhT2_5 : w197.cell? ⟨w.heap.size + 1 + 1, 5, none⟩ = some (.int .i64 i) := cell_at hT2 rfl
     clear hb
     go_wp2_with fail
     refine (c22d _ N _ df _ hN hI3).mono ?_
     rintro e w198 ⟨D29, dc29, rfl, hd29, hb⟩
     clear qhT0_0 qhT0_1 qhT0_2 qhT1_0 qhT1_1 qhT1_2 qhT1_3 qhT2_0 qhT2_1 qhT2_2 qhT2_3 qhT2_4 qhT2_5
     have hS := hb
     have hB198 := hB197.call hS rfl
     replace H := H.below hS
     replace HP := HP.below hS
     replace HD := HD.below hS
     replace HM := HM.below hS
     replace hst := hst.below hS
     replace hT0 := blkb hT0 hS
     replace hT1 := blkb hT1 hS
     replace hT2 := blkb hT2 hS
     replace hqq := blkb hqq hS
     replace hI1 := hI1.below hS
     replace hI2 := hI2.below hS
     replace hI3 := hI3.below hS
     replace hI4 := hI4.below hS
     replace hd28 := hd28.below hS
     clear hS hB197
     have qhT0_0 : w198.cell? ⟨w.heap.size, 0, none⟩ = some (.int .i64 c) := cell_at hT0 rfl
     have qhT0_1 : w198.cell? ⟨w.heap.size, 1, none⟩ = some (.int .i64 r) := cell_at hT0 rfl
     have qhT0_2 : w198.cell? ⟨w.heap.size, 2, none⟩ = some (.slice A n cap) := cell_at hT0 rfl
     have qhT1_0 : w198.cell? ⟨w.heap.size + 1, 0, none⟩ = some (.int .i64 un) := cell_at hT1 rfl
     have qhT1_1 : w198.cell? ⟨w.heap.size + 1, 1, none⟩ = some (.int .i64 (ln : Nat)) := cell_at hT1 rfl
     have qhT1_2 : w198.cell? ⟨w.heap.size + 1, 2, none⟩ = some (.int .i64 x) := cell_at hT1 rfl
     have qhT1_3 : w198.cell? ⟨w.heap.size + 1, 3, none⟩ = some (.slice P np capp) := cell_at hT1 rfl
     have qhT2_0 : w198.cell? ⟨w.heap.size + 1 + 1, 0, none⟩ = some (.slice D np cd) := cell_at hT2 rfl
     have qhT2_1 : w198.cell? ⟨w.heap.size + 1 + 1, 1, none⟩ = some (.slice E me ce) := cell_at hT2 rfl
     have qhT2_2 : w198.cell? ⟨w.heap.size + 1 + 1, 2, none⟩ = some (.slice M n cm) := cell_at hT2 rfl
     have qhT2_3 : w198.cell? ⟨w.heap.size + 1 + 1, 3, none⟩ = some (.int .i64 s) := cell_at hT2 rfl
     have qhT2_4 : w198.cell? ⟨w.heap.size + 1 + 1, 4, none⟩ = some (.int .i64 f) := cell_at hT2 rfl
     have qhT2_5 : w198.cell? ⟨w.heap.size + 1 + 1, 5, none⟩ = some (.int .i64 i) := cell_at hT2 rfl
     clear hb
     go_wp2_with fail
     refine (K40a.out _ _ _ _ _ hd28 hd29).mono ?_
     rintro e w199 ⟨rfl, hb⟩
     clear qhT0_0 qhT0_1 qhT0_2 qhT1_0 qhT1_1 qhT1_2 qhT1_3 qhT2_0 qhT2_1 qhT2_2 qhT2_3 qhT2_4 qhT2_5
     have hS := hb
     have hB199 := hB198.call hS rfl
     replace H := H.below hS
     replace HP := HP.below hS
     replace HD := HD.below hS
     replace HM := HM.below hS
     replace hst := hst.below hS
     replace hT0 := blkb hT0 hS
     replace hT1 := blkb hT1 hS
     replace hT2 := blkb hT2 hS
     replace hqq := blkb hqq hS
     replace hI1 := hI1.below hS
     replace hI2 := hI2.below hS
     replace hI3 := hI3.below hS
     replace hI4 := hI4.below hS
     replace hd28 := hd28.below hS
     replace hd29 := hd29.below hS
     clear hS hB198
     have qhT0_0 : w199.cell? ⟨w.heap.size, 0, none⟩ = some (.int .i64 c) := cell_at hT0 rfl
     have qhT0_1 : w199.cell? ⟨w.heap.size, 1, none⟩ = some (.int .i64 r) := cell_at hT0 rfl
     have qhT0_2 : w199.cell? ⟨w.heap.size, 2, none⟩ = some (.slice A n cap) := cell_at hT0 rfl
     have qhT1_0 : w199.cell? ⟨w.heap.size + 1, 0, none⟩ = some (.int .i64 un) := cell_at hT1 rfl
     have qhT1_1 : w199.cell? ⟨w.heap.size + 1, 1, none⟩ = some (.int .i64 (ln : Nat)) := cell_at hT1 rfl
     have qhT1_2 : w199.cell? ⟨w.heap.size + 1, 2, none⟩ = some (.int .i64 x) := cell_at hT1 rfl
     have qhT1_3 : w199.cell? ⟨w.heap.size + 1, 3, none⟩ = some (.slice P np capp) := cell_at hT1 rfl
     have qhT2_0 : w199.cell? ⟨w.heap.size + 1 + 1, 0, none⟩ = some (.slice D np cd) := cell_at hT2 rfl
     have qhT2_1 : w199.cell? ⟨w.heap.size + 1 + 1, 1, none⟩ = some (.slice E me ce) := cell_at hT2 rfl
     have qhT2_2 : w199.cell? ⟨w.heap.size + 1 + 1, 2, none⟩ = some (.slice M n cm) := cell_at hT2 rfl
     have qhT2_3 : w199.cell? ⟨w.heap.size + 1 + 1, 3, none⟩ = some (.int .i64 s) := cell_at hT2 rfl
     have qhT2_4 : w199.cell? ⟨w.heap.size + 1 + 1, 4, none⟩ = some (.int .i64 f) := cell_at hT2 rfl
     have qhT2_5 : w199.cell? ⟨w.heap.size + 1 + 1, 5, none⟩ = some (.int .i64 i) := cell_at hT2 rfl
     clear hb
     clear hd28
     clear hd29
     go_wp2_with fail
     refine (c22d M n cm ms _ hl HM).mono ?_
     rintro e w200 ⟨D30, dc30, rfl, hd30, hb⟩
     clear qhT0_0 qhT0_1 qhT0_2 qhT1_0 qhT1_1 qhT1_2 qhT1_3 qhT2_0 qhT2_1 qhT2_2 qhT2_3 qhT2_4 qhT2_5
     have hS := hb
     have hB200 := hB199.call hS rfl
     replace H := H.below hS
     replace HP := HP.below hS
     replace HD := HD.below hS
     replace HM := HM.below hS
     replace hst := hst.below hS
     replace hT0 := blkb hT0 hS
     replace hT1 := blkb hT1 hS
     replace hT2 := blkb hT2 hS
     replace hqq := blkb hqq hS
     replace hI1 := hI1.below hS
     replace hI2 := hI2.below hS
     replace hI3 := hI3.below hS
     replace hI4 := hI4.below hS
     clear hS hB199
     have qhT0_0 : w200.cell? ⟨w.heap.size, 0, none⟩ = some (.int .i64 c) := cell_at hT0 rfl
     have qhT0_1 : w200.cell? ⟨w.heap.size, 1, none⟩ = some (.int .i64 r) := cell_at hT0 rfl
     have qhT0_2 : w200.cell? ⟨w.heap.size, 2, none⟩ = some (.slice A n cap) := cell_at hT0 rfl
     have qhT1_0 : w200.cell? ⟨w.heap.size + 1, 0, none⟩ = some (.int .i64 un) := cell_at hT1 rfl
     have qhT1_1 : w200.cell? ⟨w.heap.size + 1, 1, none⟩ = some (.int .i64 (ln : Nat)) := cell_at hT1 rfl
     have qhT1_2 : w200.cell? ⟨w.heap.size + 1, 2, none⟩ = some (.int .i64 x) := cell_at hT1 rfl
     have qhT1_3 : w200.cell? ⟨w.heap.size + 1, 3, none⟩ = some (.slice P np capp) := cell_at hT1 rfl
     have qhT2_0 : w200.cell? ⟨w.heap.size + 1 + 1, 0, none⟩ = some (.slice D np cd) := cell_at hT2 rfl
     have qhT2_1 : w200.cell? ⟨w.heap.size + 1 + 1, 1, none⟩ = some (.slice E me ce) := cell_at hT2 rfl
     have qhT2_2 : w200.cell? ⟨w.heap.size + 1 + 1, 2, none⟩ = some (.slice M n cm) := cell_at hT2 rfl
     have qhT2_3 : w200.cell? ⟨w.heap.size + 1 + 1, 3, none⟩ = some (.int .i64 s) := cell_at hT2 rfl
     have qhT2_4 : w200.cell? ⟨w.heap.size + 1 + 1, 4, none⟩ = some (.int .i64 f) := cell_at hT2 rfl
     have qhT2_5 : w200.cell? ⟨w.heap.size + 1 + 1, 5, none⟩ = some (.int .i64 i) := cell_at hT2 rfl
     clear hb
     go_wp2_with fail
     refine (c22d _ n _ IM _ hl hI1).mono ?_
     rintro e w201 ⟨D31, dc31, rfl, hd31, hb⟩
     clear qhT0_0 qhT0_1 qhT0_2 qhT1_0 qhT1_1 qhT1_2 qhT1_3 qhT2_0 qhT2_1 qhT2_2 qhT2_3 qhT2_4 qhT2_5
     have hS := hb
     have hB201 := hB200.call hS rfl
     replace H := H.below hS
     replace HP := HP.below hS
     replace HD := HD.below hS
     replace HM := HM.below hS
     replace hst := hst.below hS
     replace hT0 := blkb hT0 hS
     replace hT1 := blkb hT1 hS
     replace hT2 := blkb hT2 hS
     replace hqq := blkb hqq hS
     replace hI1 := hI1.below hS
     replace hI2 := hI2.below hS
     replace hI3 := hI3.below hS
     replace hI4 := hI4.below hS
     replace hd30 := hd30.below hS
     clear hS hB200
     have qhT0_0 : w201.cell? ⟨w.heap.size, 0, none⟩ = some (.int .i64 c) := cell_at hT0 rfl
     have qhT0_1 : w201.cell? ⟨w.heap.size, 1, none⟩ = some (.int .i64 r) := cell_at hT0 rfl
     have qhT0_2 : w201.cell? ⟨w.heap.size, 2, none⟩ = some (.slice A n cap) := cell_at hT0 rfl
     have qhT1_0 : w201.cell? ⟨w.heap.size + 1, 0, none⟩ = some (.int .i64 un) := cell_at hT1 rfl
     have qhT1_1 : w201.cell? ⟨w.heap.size + 1, 1, none⟩ = some (.int .i64 (ln : Nat)) := cell_at hT1 rfl
     have qhT1_2 : w201.cell? ⟨w.heap.size + 1, 2, none⟩ = some (.int .i64 x) := cell_at hT1 rfl
     have qhT1_3 : w201.cell? ⟨w.heap.size + 1, 3, none⟩ = some (.slice P np capp) := cell_at hT1 rfl
     have qhT2_0 : w201.cell? ⟨w.heap.size + 1 + 1, 0, none⟩ = some (.slice D np cd) := cell_at hT2 rfl
     have qhT2_1 : w201.cell? ⟨w.heap.size + 1 + 1, 1, none⟩ = some (.slice E me ce) := cell_at hT2 rfl
     have qhT2_2 : w201.cell? ⟨w.heap.size + 1 + 1, 2, none⟩ = some (.slice M n cm) := cell_at hT2 rfl
     have qhT2_3 : w201.cell? ⟨w.heap.size + 1 + 1, 3, none⟩ = some (.int .i64 s) := cell_at hT2 rfl
     have qhT2_4 : w201.cell? ⟨w.heap.size + 1 + 1, 4, none⟩ = some (.int .i64 f) := cell_at hT2 rfl
     have qhT2_5 : w201.cell? ⟨w.heap.size + 1 + 1, 5, none⟩ = some (.int .i64 i) := cell_at hT2 rfl
     clear hb
     go_wp2_with fail
     refine (K40b.out _ _ _ _ _ hd30 hd31).mono ?_
     rintro e w202 ⟨rfl, hb⟩
     clear qhT0_0 qhT0_1 qhT0_2 qhT1_0 qhT1_1 qhT1_2 qhT1_3 qhT2_0 qhT2_1 qhT2_2 qhT2_3 qhT2_4 qhT2_5
     have hS := hb
     have hB202 := hB201.call hS rfl
     replace H := H.below hS
     replace HP := HP.below hS
     replace HD := HD.below hS
     replace HM := HM.below hS
     replace hst := hst.below hS
     replace hT0 := blkb hT0 hS
     replace hT1 := blkb hT1 hS
     replace hT2 := blkb hT2 hS
     replace hqq := blkb hqq hS
     replace hI1 := hI1.below hS
     replace hI2 := hI2.below hS
     replace hI3 := hI3.below hS
     replace hI4 := hI4.below hS
     replace hd30 := hd30.below hS
     replace hd31 := hd31.below hS
     clear hS hB201
     have qhT0_0 : w202.cell? ⟨w.heap.size, 0, none⟩ = some (.int .i64 c) := cell_at hT0 rfl
     have qhT0_1 : w202.cell? ⟨w.heap.size, 1, none⟩ = some (.int .i64 r) := cell_at hT0 rfl
     have qhT0_2 : w202.cell? ⟨w.heap.size, 2, none⟩ = some (.slice A n cap) := cell_at hT0 rfl
     have qhT1_0 : w202.cell? ⟨w.heap.size + 1, 0, none⟩ = some (.int .i64 un) := cell_at hT1 rfl
     have qhT1_1 : w202.cell? ⟨w.heap.size + 1, 1, none⟩ = some (.int .i64 (ln : Nat)) := cell_at hT1 rfl
     have qhT1_2 : w202.cell? ⟨w.heap.size + 1, 2, none⟩ = some (.int .i64 x) := cell_at hT1 rfl
     have qhT1_3 : w202.cell? ⟨w.heap.size + 1, 3, none⟩ = some (.slice P np capp) := cell_at hT1 rfl
     have qhT2_0 : w202.cell? ⟨w.heap.size + 1 + 1, 0, none⟩ = some (.slice D np cd) := cell_at hT2 rfl
     have qhT2_1 : w202.cell? ⟨w.heap.size + 1 + 1, 1, none⟩ = some (.slice E me ce) := cell_at hT2 rfl
     have qhT2_2 : w202.cell? ⟨w.heap.size + 1 + 1, 2, none⟩ = some (.slice M n cm) := cell_at hT2 rfl
     have qhT2_3 : w202.cell? ⟨w.heap.size + 1 + 1, 3, none⟩ = some (.int .i64 s) := cell_at hT2 rfl
     have qhT2_4 : w202.cell? ⟨w.heap.size + 1 + 1, 4, none⟩ = some (.int .i64 f) := cell_at hT2 rfl
     have qhT2_5 : w202.cell? ⟨w.heap.size + 1 + 1, 5, none⟩ = some (.int .i64 i) := cell_at hT2 rfl
     clear hb
     clear hd30
     clear hd31
     go_wp2_with fail
     refine (c22d _ N _ fl _ hN hI2).mono ?_
     rintro e w203 ⟨D32, dc32, rfl, hd32, hb⟩
     clear qhT0_0 qhT0_1 qhT0_2 qhT1_0 qhT1_1 qhT1_2 qhT1_3 qhT2_0 qhT2_1 qhT2_2 qhT2_3 qhT2_4 qhT2_5
     have hS := hb
     have hB203 := hB202.call hS rfl
     replace H := H.below hS
     replace HP := HP.below hS
     replace HD := HD.below hS
     replace HM := HM.below hS
     replace hst := hst.below hS
     replace hT0 := blkb hT0 hS
     replace hT1 := blkb hT1 hS
     replace hT2 := blkb hT2 hS
     replace hqq := blkb hqq hS
     replace hI1 := hI1.below hS
     replace hI2 := hI2.below hS
     replace hI3 := hI3.below hS
     replace hI4 := hI4.below hS
     clear hS hB202
     have qhT0_0 : w203.cell? ⟨w.heap.size, 0, none⟩ = some (.int .i64 c) := cell_at hT0 rfl
     have qhT0_1 : w203.cell? ⟨w.heap.size, 1, none⟩ = some (.int .i64 r) := cell_at hT0 rfl
     have qhT0_2 : w203.cell? ⟨w.heap.size, 2, none⟩ = some (.slice A n cap) := cell_at hT0 rfl
     have qhT1_0 : w203.cell? ⟨w.heap.size + 1, 0, none⟩ = some (.int .i64 un) := cell_at hT1 rfl
     have qhT1_1 : w203.cell? ⟨w.heap.size + 1, 1, none⟩ = some (.int .i64 (ln : Nat)) := cell_at hT1 rfl
     have qhT1_2 : w203.cell? ⟨w.heap.size + 1, 2, none⟩ = some (.int .i64 x) := cell_at hT1 rfl
     have qhT1_3 : w203.cell? ⟨w.heap.size + 1, 3, none⟩ = some (.slice P np capp) := cell_at hT1 rfl
     have qhT2_0 : w203.cell? ⟨w.heap.size + 1 + 1, 0, none⟩ = some (.slice D np cd) := cell_at hT2 rfl
     have qhT2_1 : w203.cell? ⟨w.heap.size + 1 + 1, 1, none⟩ = some (.slice E me ce) := cell_at hT2 rfl
     have qhT2_2 : w203.cell? ⟨w.heap.size + 1 + 1, 2, none⟩ = some (.slice M n cm) := cell_at hT2 rfl
     have qhT2_3 : w203.cell? ⟨w.heap.size + 1 + 1, 3, none⟩ = some (.int .i64 s) := cell_at hT2 rfl
     have qhT2_4 : w203.cell? ⟨w.heap.size + 1 + 1, 4, none⟩ = some (.int .i64 f) := cell_at hT2 rfl
     have qhT2_5 : w203.cell? ⟨w.heap.size + 1 + 1, 5, none⟩ = some (.int .i64 i) := cell_at hT2 rfl
     clear hb
     go_wp2_with fail
     refine (c22d _ N _ fl _ hN hI2).mono ?_
     rintro e w204 ⟨D33, dc33, rfl, hd33, hb⟩
     clear qhT0_0 qhT0_1 qhT0_2 qhT1_0 qhT1_1 qhT1_2 qhT1_3 qhT2_0 qhT2_1 qhT2_2 qhT2_3 qhT2_4 qhT2_5
     have hS := hb
     have hB204 := hB203.call hS rfl
     replace H := H.below hS
     replace HP := HP.below hS
     replace HD := HD.below hS
     replace HM := HM.below hS
     replace hst := hst.below hS
     replace hT0 := blkb hT0 hS
     replace hT1 := blkb hT1 hS
     replace hT2 := blkb hT2 hS
     replace hqq := blkb hqq hS
     replace hI1 := hI1.below hS
     replace hI2 := hI2.below hS
     replace hI3 := hI3.below hS
     replace hI4 := hI4.below hS
     replace hd32 := hd32.below hS
     clear hS hB203
     have qhT0_0 : w204.cell? ⟨w.heap.size, 0, none⟩ = some (.int .i64 c) := cell_at hT0 rfl
     have qhT0_1 : w204.cell? ⟨w.heap.size, 1, none⟩ = some (.int .i64 r) := cell_at hT0 rfl
     have qhT0_2 : w204.cell? ⟨w.heap.size, 2, none⟩ = some (.slice A n cap) := cell_at hT0 rfl
     have qhT1_0 : w204.cell? ⟨w.heap.size + 1, 0, none⟩ = some (.int .i64 un) := cell_at hT1 rfl
     have qhT1_1 : w204.cell? ⟨w.heap.size + 1, 1, none⟩ = some (.int .i64 (ln : Nat)) := cell_at hT1 rfl
     have qhT1_2 : w204.cell? ⟨w.heap.size + 1, 2, none⟩ = some (.int .i64 x) := cell_at hT1 rfl
     have qhT1_3 : w204.cell? ⟨w.heap.size + 1, 3, none⟩ = some (.slice P np capp) := cell_at hT1 rfl
     have qhT2_0 : w204.cell? ⟨w.heap.size + 1 + 1, 0, none⟩ = some (.slice D np cd) := cell_at hT2 rfl
     have qhT2_1 : w204.cell? ⟨w.heap.size + 1 + 1, 1, none⟩ = some (.slice E me ce) := cell_at hT2 rfl
     have qhT2_2 : w204.cell? ⟨w.heap.size + 1 + 1, 2, none⟩ = some (.slice M n cm) := cell_at hT2 rfl
     have qhT2_3 : w204.cell? ⟨w.heap.size + 1 + 1, 3, none⟩ = some (.int .i64 s) := cell_at hT2 rfl
     have qhT2_4 : w204.cell? ⟨w.heap.size + 1 + 1, 4, none⟩ = some (.int .i64 f) := cell_at hT2 rfl
     have qhT2_5 : w204.cell? ⟨w.heap.size + 1 + 1, 5, none⟩ = some (.int .i64 i) := cell_at hT2 rfl
     clear hb
     go_wp2_with fail
     refine (K40c.out _ _ _ _ _ hd32 hd33).mono ?_
     rintro e w205 ⟨rfl, hb⟩
     clear qhT0_0 qhT0_1 qhT0_2 qhT1_0 qhT1_1 qhT1_2 qhT1_3 qhT2_0 qhT2_1 qhT2_2 qhT2_3 qhT2_4 qhT2_5
     have hS := hb
     have hB205 := hB204.call hS rfl
     replace H := H.below hS
     replace HP := HP.below hS
     replace HD := HD.below hS
     replace HM := HM.below hS
     replace hst := hst.below hS
     replace hT0 := blkb hT0 hS
     replace hT1 := blkb hT1 hS
     replace hT2 := blkb hT2 hS
     replace hqq := blkb hqq hS
     replace hI1 := hI1.below hS
     replace hI2 := hI2.below hS
     replace hI3 := hI3.below hS
     replace hI4 := hI4.below hS
     replace hd32 := hd32.below hS
     replace hd33 := hd33.below hS
     clear hS hB204
     have qhT0_0 : w205.cell? ⟨w.heap.size, 0, none⟩ = some (.int .i64 c) := cell_at hT0 rfl
     have qhT0_1 : w205.cell? ⟨w.heap.size, 1, none⟩ = some (.int .i64 r) := cell_at hT0 rfl
     have qhT0_2 : w205.cell? ⟨w.heap.size, 2, none⟩ = some (.slice A n cap) := cell_at hT0 rfl
     have qhT1_0 : w205.cell? ⟨w.heap.size + 1, 0, none⟩ = some (.int .i64 un) := cell_at hT1 rfl
     have qhT1_1 : w205.cell? ⟨w.heap.size + 1, 1, none⟩ = some (.int .i64 (ln : Nat)) := cell_at hT1 rfl
     have qhT1_2 : w205.cell? ⟨w.heap.size + 1, 2, none⟩ = some (.int .i64 x) := cell_at hT1 rfl
     have qhT1_3 : w205.cell? ⟨w.heap.size + 1, 3, none⟩ = some (.slice P np capp) := cell_at hT1 rfl
     have qhT2_0 : w205.cell? ⟨w.heap.size + 1 + 1, 0, none⟩ = some (.slice D np cd) := cell_at hT2 rfl
     have qhT2_1 : w205.cell? ⟨w.heap.size + 1 + 1, 1, none⟩ = some (.slice E me ce) := cell_at hT2 rfl
     have qhT2_2 : w205.cell? ⟨w.heap.size + 1 + 1, 2, none⟩ = some (.slice M n cm) := cell_at hT2 rfl
     have qhT2_3 : w205.cell? ⟨w.heap.size + 1 + 1, 3, none⟩ = some (.int .i64 s) := cell_at hT2 rfl
     have qhT2_4 : w205.cell? ⟨w.heap.size + 1 + 1, 4, none⟩ = some (.int .i64 f) := cell_at hT2 rfl
     have qhT2_5 : w205.cell? ⟨w.heap.size + 1 + 1, 5, none⟩ = some (.int .i64 i) := cell_at hT2 rfl
     clear hb
     clear hd32
     clear hd33
     go_wp2_with fail
     refine (c22d M n cm ms _ hl HM).mono ?_
     rintro e w206 ⟨D34, dc34, rfl, hd34, hb⟩
     clear qhT0_0 qhT0_1 qhT0_2 qhT1_0 qhT1_1 qhT1_2 qhT1_3 qhT2_0 qhT2_1 qhT2_2 qhT2_3 qhT2_4 qhT2_5
     have hS := hb
     have hB206 := hB205.call hS rfl
     replace H := H.below hS
     replace HP := HP.below hS
     replace HD := HD.below hS
     replace HM := HM.below hS
     replace hst := hst.below hS
     replace hT0 := blkb hT0 hS
     replace hT1 := blkb hT1 hS
     replace hT2 := blkb hT2 hS
     replace hqq := blkb hqq hS
     replace hI1 := hI1.below hS
     replace hI2 := hI2.below hS
     replace hI3 := hI3.below hS
     replace hI4 := hI4.below hS
     clear hS hB205
     have qhT0_0 : w206.cell? ⟨w.heap.size, 0, none⟩ = some (.int .i64 c) := cell_at hT0 rfl
     have qhT0_1 : w206.cell? ⟨w.heap.size, 1, none⟩ = some (.int .i64 r) := cell_at hT0 rfl
     have qhT0_2 : w206.cell? ⟨w.heap.size, 2, none⟩ = some (.slice A n cap) := cell_at hT0 rfl
     have qhT1_0 : w206.cell? ⟨w.heap.size + 1, 0, none⟩ = some (.int .i64 un) := cell_at hT1 rfl
     have qhT1_1 : w206.cell? ⟨w.heap.size + 1, 1, none⟩ = some (.int .i64 (ln : Nat)) := cell_at hT1 rfl
     have qhT1_2 : w206.cell? ⟨w.heap.size + 1, 2, none⟩ = some (.int .i64 x) := cell_at hT1 rfl
     have qhT1_3 : w206.cell? ⟨w.heap.size + 1, 3, none⟩ = some (.slice P np capp) := cell_at hT1 rfl
     have qhT2_0 : w206.cell? ⟨w.heap.size + 1 + 1, 0, none⟩ = some (.slice D np cd) := cell_at hT2 rfl
     have qhT2_1 : w206.cell? ⟨w.heap.size + 1 + 1, 1, none⟩ = some (.slice E me ce) := cell_at hT2 rfl
     have qhT2_2 : w206.cell? ⟨w.heap.size + 1 + 1, 2, none⟩ = some (.slice M n cm) := cell_at hT2 rfl
     have qhT2_3 : w206.cell? ⟨w.heap.size + 1 + 1, 3, none⟩ = some (.int .i64 s) := cell_at hT2 rfl
     have qhT2_4 : w206.cell? ⟨w.heap.size + 1 + 1, 4, none⟩ = some (.int .i64 f) := cell_at hT2 rfl
     have qhT2_5 : w206.cell? ⟨w.heap.size + 1 + 1, 5, none⟩ = some (.int .i64 i) := cell_at hT2 rfl
     clear hb
     go_wp2_with fail
     refine (c22d _ n _ AG _ hl hI4).mono ?_
     rintro e w207 ⟨D35, dc35, rfl, hd35, hb⟩
     clear qhT0_0 qhT0_1 qhT0_2 qhT1_0 qhT1_1 qhT1_2 qhT1_3 qhT2_0 qhT2_1 qhT2_2 qhT2_3 qhT2_4 qhT2_5
     have hS := hb
     have hB207 := hB206.call hS rfl
     replace H := H.below hS
     replace HP := HP.below hS
     replace HD := HD.below hS
     replace HM := HM.below hS
     replace hst := hst.below hS
     replace hT0 := blkb hT0 hS
     replace hT1 := blkb hT1 hS
     replace hT2 := blkb hT2 hS
     replace hqq := blkb hqq hS
     replace hI1 := hI1.below hS
     replace hI2 := hI2.below hS
     replace hI3 := hI3.below hS
     replace hI4 := hI4.below hS
     replace hd34 := hd34.below hS
     clear hS hB206
     have qhT0_0 : w207.cell? ⟨w.heap.size, 0, none⟩ = some (.int .i64 c) := cell_at hT0 rfl
     have qhT0_1 : w207.cell? ⟨w.heap.size, 1, none⟩ = some (.int .i64 r) := cell_at hT0 rfl
     have qhT0_2 : w207.cell? ⟨w.heap.size, 2, none⟩ = some (.slice A n cap) := cell_at hT0 rfl
     have qhT1_0 : w207.cell? ⟨w.heap.size + 1, 0, none⟩ = some (.int .i64 un) := cell_at hT1 rfl
     have qhT1_1 : w207.cell? ⟨w.heap.size + 1, 1, none⟩ = some (.int .i64 (ln : Nat)) := cell_at hT1 rfl
     have qhT1_2 : w207.cell? ⟨w.heap.size + 1, 2, none⟩ = some (.int .i64 x) := cell_at hT1 rfl
     have qhT1_3 : w207.cell? ⟨w.heap.size + 1, 3, none⟩ = some (.slice P np capp) := cell_at hT1 rfl
     have qhT2_0 : w207.cell? ⟨w.heap.size + 1 + 1, 0, none⟩ = some (.slice D np cd) := cell_at hT2 rfl
     have qhT2_1 : w207.cell? ⟨w.heap.size + 1 + 1, 1, none⟩ = some (.slice E me ce) := cell_at hT2 rfl
     have qhT2_2 : w207.cell? ⟨w.heap.size + 1 + 1, 2, none⟩ = some (.slice M n cm) := cell_at hT2 rfl
     have qhT2_3 : w207.cell? ⟨w.heap.size + 1 + 1, 3, none⟩ = some (.int .i64 s) := cell_at hT2 rfl
     have qhT2_4 : w207.cell? ⟨w.heap.size + 1 + 1, 4, none⟩ = some (.int .i64 f) := cell_at hT2 rfl
     have qhT2_5 : w207.cell? ⟨w.heap.size + 1 + 1, 5, none⟩ = some (.int .i64 i) := cell_at hT2 rfl
     clear hb
     go_wp2_with fail
     refine (K40d.out _ _ _ _ _ hd34 hd35).mono ?_
     rintro e w208 ⟨rfl, hb⟩
     clear qhT0_0 qhT0_1 qhT0_2 qhT1_0 qhT1_1 qhT1_2 qhT1_3 qhT2_0 qhT2_1 qhT2_2 qhT2_3 qhT2_4 qhT2_5
     have hS := hb
     have hB208 := hB207.call hS rfl
     replace H := H.below hS
     replace HP := HP.below hS
     replace HD := HD.below hS
     replace HM := HM.below hS
     replace hst := hst.below hS
     replace hT0 := blkb hT0 hS
     replace hT1 := blkb hT1 hS
     replace hT2 := blkb hT2 hS
     replace hqq := blkb hqq hS
     replace hI1 := hI1.below hS
     replace hI2 := hI2.below hS
     replace hI3 := hI3.below hS
     replace hI4 := hI4.below hS
     replace hd34 := hd34.below hS
     replace hd35 := hd35.below hS
     clear hS hB207
     have qhT0_0 : w208.cell? ⟨w.heap.size, 0, none⟩ = some (.int .i64 c) := cell_at hT0 rfl
     have qhT0_1 : w208.cell? ⟨w.heap.size, 1, none⟩ = some (.int .i64 r) := cell_at hT0 rfl
     have qhT0_2 : w208.cell? ⟨w.heap.size, 2, none⟩ = some (.slice A n cap) := cell_at hT0 rfl
     have qhT1_0 : w208.cell? ⟨w.heap.size + 1, 0, none⟩ = some (.int .i64 un) := cell_at hT1 rfl
     have qhT1_1 : w208.cell? ⟨w.heap.size + 1, 1, none⟩ = some (.int .i64 (ln : Nat)) := cell_at hT1 rfl
     have qhT1_2 : w208.cell? ⟨w.heap.size + 1, 2, none⟩ = some (.int .i64 x) := cell_at hT1 rfl
     have qhT1_3 : w208.cell? ⟨w.heap.size + 1, 3, none⟩ = some (.slice P np capp) := cell_at hT1 rfl
     have qhT2_0 : w208.cell? ⟨w.heap.size + 1 + 1, 0, none⟩ = some (.slice D np cd) := cell_at hT2 rfl
     have qhT2_1 : w208.cell? ⟨w.heap.size + 1 + 1, 1, none⟩ = some (.slice E me ce) := cell_at hT2 rfl
     have qhT2_2 : w208.cell? ⟨w.heap.size + 1 + 1, 2, none⟩ = some (.slice M n cm) := cell_at hT2 rfl
     have qhT2_3 : w208.cell? ⟨w.heap.size + 1 + 1, 3, none⟩ = some (.int .i64 s) := cell_at hT2 rfl
     have qhT2_4 : w208.cell? ⟨w.heap.size + 1 + 1, 4, none⟩ = some (.int .i64 f) := cell_at hT2 rfl
     have qhT2_5 : w208.cell? ⟨w.heap.size + 1 + 1, 5, none⟩ = some (.int .i64 i) := cell_at hT2 rfl
     clear hb
     clear hd34
     clear hd35
     clear qhT0_0 qhT0_1 qhT0_2 qhT1_0 qhT1_1 qhT1_2 qhT1_3 qhT2_0 qhT2_1 qhT2_2 qhT2_3 qhT2_4 qhT2_5
     have RB := Lib.hid hB208
     have RT0 := Lib.hid hT0
     have RT1 := Lib.hid hT1
     have RT2 := Lib.hid hT2
     have RQ := Lib.hid hqq
     clear H HP HD HM hst hT0 hT1 hT2 hqq hI1 hI2 hI3 hI4
     go_wp2
     go_roundw
     case rel =>
      obtain ⟨kn, h1, h2, h3⟩ := HKN.out
      exact ⟨kn, zn, x, h1, rfl, h2, h3, RB, RT0, RT1, RT2, RQ⟩
     case measure =>
      simp [intOf]
      exact HME.out
end Go.Proofs.YtdimmlljjmmdbaaGreatDoor
