/- A part of the proofs about chapter 7 (image): contracts of functions and plain laws (V69). -/
import Derived.Test.YtdimmlljjmmdbaaGreatDoorA14
import Derived.Test.YtdimmlljjmmdbaaGreatDoorA11
set_option linter.all false
namespace Go.Proofs.YtdimmlljjmmdbaaGreatDoor
open Go.RowKit Go.Shelf
set_option maxHeartbeats 16000000
set_option maxRecDepth 100000
def Fresh (B : Nat) (zs : Array Value) (t : TypeId) (v : Value) (w : World) : Prop := ∃ g : Nat, v = .pointer (some ⟨g, 0, none⟩) ∧ B ≤ g ∧ w.heap[g]? = some (.cells zs t (0, 0))
theorem Fresh.below {B : Nat} {zs : Array Value} {t : TypeId} {v : Value} {w w' : World} (h : Fresh B zs t v w) (hb : Below w.heap.size w w') : Fresh B zs t v w' := by
  obtain ⟨g, h1, h2, h3⟩ := h
  exact ⟨g, h1, h2, blkb h3 hb⟩
theorem c33d (D : Option Addr) (m capd : Nat) (d : List (List Int)) (w : World) (hm : m ≤ 5) (hsh : ∀ x, x ∈ d → x.length ≤ 45) (HD : RdD w D m d) :
   Calls Tryz.prog 33 #[.slice D m capd] w fun en w' => ∃ B cb, en = .returned (.slice B m cb) ∧ RdD w' B m d ∧ Below w.heap.size w w' :=
  c33 D m capd d w (by omega) (fun x hx => Nat.le_trans (hsh x hx) (by decide)) HD
theorem c22d (A : Option Addr) (n cap : Nat) (l : List Int) (w : World) (hn : n ≤ 1000000) (H : RdI w A n l) :
    Calls Tryz.prog 22 #[.slice A n cap] w fun en w' => ∃ B cb, en = .returned (.slice B n cb) ∧ RdI w' B n l ∧ Below w.heap.size w w' := by
  refine (c22 A n cap l w hn H).mono ?_
  rintro e w' ⟨v, rfl, ho, hb⟩
  obtain ⟨B, cb, rfl, hr, _⟩ := own_form ho
  exact ⟨B, cb, rfl, hr, hb⟩
theorem c20d (c r : Int) (A : Option Addr) (n cap : Nat) (l : List Int) (w : World) (hl : n ≤ 1000000) (H : RdI w A n l) :
   Calls Tryz.prog 20 #[.agg #[.int .i64 c, .int .i64 r, .slice A n cap]] w fun en w' => ∃ B cb, en = .returned (.agg #[.int .i64 c, .int .i64 r, .slice B n cb]) ∧ RdI w' B n l ∧ Below w.heap.size w w' := by
  refine (c20 c r A n cap l w hl H).mono ?_
  rintro e w' ⟨B, cb, h1, h2, _, _, h3⟩
  exact ⟨B, cb, h1, h2, h3⟩
theorem c21d (un len most : Int) (P : Option Addr) (np capp : Nat) (ps : List Pr) (w : World) (hp : np ≤ 1000000) (HP : RdP w P np ps) :
   Calls Tryz.prog 21 #[.agg #[.int .i64 un, .int .i64 len, .int .i64 most, .slice P np capp]] w fun en w' => ∃ P' cap', en = .returned (.agg #[.int .i64 un, .int .i64 len, .int .i64 most, .slice P' np cap']) ∧ (RdP w' P' np ps ∧ np ≤ cap') ∧ Below w.heap.size w w' := by
  refine (c21 un len most P np capp ps w hp HP).mono ?_
  rintro e w' ⟨B, cb, h1, h2, h3, h4⟩
  exact ⟨B, cb, h1, ⟨h2, h3⟩, h4⟩

theorem l7 (c r : Int) (A : Option Addr) (n cap : Nat) (l : List Int) (un len most : Int) (P : Option Addr) (np capp : Nat) (ps : List Pr) (D : Option Addr) (md cd : Nat) (dl : List (List Int)) (E : Option Addr) (me ce : Nat) (el : List (List Int)) (M : Option Addr) (mk cm : Nat) (ms : List Int) (s f i : Int) (w : World) (hmd : md ≤ 9223372036854775807) (hme : me ≤ 9223372036854775807) (H : RdI w A n l) (HP : RdP w P np ps) (HD : RdD w D md dl) (HE : RdD w E me el) (HM : RdI w M mk ms) (hst : Steps w) :
   Calls Tryz.prog 7 #[.agg #[.int .i64 c, .int .i64 r, .slice A n cap], .agg #[.int .i64 un, .int .i64 len, .int .i64 most, .slice P np capp], .agg #[.slice D md cd, .slice E me ce, .slice M mk cm, .int .i64 s, .int .i64 f, .int .i64 i]] w fun en w' => en = .returned (.bool true) ∧ Below w.heap.size w w' := by
  obtain ⟨w0, hW⟩ : ∃ W, W = ((w.alloc (Obj.cells #[.int .i64 c, .int .i64 r, .slice A n cap] 24)).alloc (Obj.cells #[.int .i64 un, .int .i64 len, .int .i64 most, .slice P np capp] 27)).alloc (Obj.cells #[.slice D md cd, .slice E me ce, .slice M mk cm, .int .i64 s, .int .i64 f, .int .i64 i] 55) := ⟨_, rfl⟩
  have hT0 : w0.heap[w.heap.size]? = some (.cells #[.int .i64 c, .int .i64 r, .slice A n cap] 24 (0, 0)) := by rw [hW]; exact heap_old (by simp <;> omega) (heap_old (by simp <;> omega) (heap_new (by simp)))
  have hT1 : w0.heap[w.heap.size + 1]? = some (.cells #[.int .i64 un, .int .i64 len, .int .i64 most, .slice P np capp] 27 (0, 0)) := by rw [hW]; exact heap_old (by simp <;> omega) (heap_new (by simp))
  have hT2 : w0.heap[w.heap.size + 1 + 1]? = some (.cells #[.slice D md cd, .slice E me ce, .slice M mk cm, .int .i64 s, .int .i64 f, .int .i64 i] 55 (0, 0)) := by rw [hW]; exact heap_new (by simp)
  have hB0 : Below w.heap.size w w0 := by rw [hW]; exact ((((Below.refl _ _).alloc (by first | omega | (simp <;> omega)) _).alloc (by first | omega | (simp <;> omega)) _).alloc (by first | omega | (simp <;> omega)) _)
  replace H := H.below hB0
  replace HP := HP.below hB0
  replace HD := HD.below hB0
  replace HE := HE.below hB0
  replace HM := HM.below hB0
  replace hst := hst.below hB0
  go_enter Tryz.func7, Tryz.ntmps7
  go_wp2_with fail
  rw [← hW]
  clear hW
  have qhT0_0 : w0.cell? ⟨w.heap.size, 0, none⟩ = some (.int .i64 c) := cell_at hT0 rfl
  have qhT0_1 : w0.cell? ⟨w.heap.size, 1, none⟩ = some (.int .i64 r) := cell_at hT0 rfl
  have qhT0_2 : w0.cell? ⟨w.heap.size, 2, none⟩ = some (.slice A n cap) := cell_at hT0 rfl
  have qhT1_0 : w0.cell? ⟨w.heap.size + 1, 0, none⟩ = some (.int .i64 un) := cell_at hT1 rfl
  have qhT1_1 : w0.cell? ⟨w.heap.size + 1, 1, none⟩ = some (.int .i64 len) := cell_at hT1 rfl
  have qhT1_2 : w0.cell? ⟨w.heap.size + 1, 2, none⟩ = some (.int .i64 most) := cell_at hT1 rfl
  have qhT1_3 : w0.cell? ⟨w.heap.size + 1, 3, none⟩ = some (.slice P np capp) := cell_at hT1 rfl
  have qhT2_0 : w0.cell? ⟨w.heap.size + 1 + 1, 0, none⟩ = some (.slice D md cd) := cell_at hT2 rfl
  have qhT2_1 : w0.cell? ⟨w.heap.size + 1 + 1, 1, none⟩ = some (.slice E me ce) := cell_at hT2 rfl
  have qhT2_2 : w0.cell? ⟨w.heap.size + 1 + 1, 2, none⟩ = some (.slice M mk cm) := cell_at hT2 rfl
  have qhT2_3 : w0.cell? ⟨w.heap.size + 1 + 1, 3, none⟩ = some (.int .i64 s) := cell_at hT2 rfl
  have qhT2_4 : w0.cell? ⟨w.heap.size + 1 + 1, 4, none⟩ = some (.int .i64 f) := cell_at hT2 rfl
  have qhT2_5 : w0.cell? ⟨w.heap.size + 1 + 1, 5, none⟩ = some (.int .i64 i) := cell_at hT2 rfl
  go_wp2_with fail
  refine (c16 c r A n cap _).mono ?_
  rintro e w1 ⟨⟨b, rfl, hg1⟩, hb⟩
  clear qhT0_0 qhT0_1 qhT0_2 qhT1_0 qhT1_1 qhT1_2 qhT1_3 qhT2_0 qhT2_1 qhT2_2 qhT2_3 qhT2_4 qhT2_5
  have hS := hb
  have hB1 := hB0.call hS rfl
  replace hT0 := blkb hT0 hS
  replace hT1 := blkb hT1 hS
  replace hT2 := blkb hT2 hS
  replace H := H.below hS
  replace HP := HP.below hS
  replace HD := HD.below hS
  replace HE := HE.below hS
  replace HM := HM.below hS
  replace hst := hst.below hS
  clear hS hB0
  have qhT0_0 : w1.cell? ⟨w.heap.size, 0, none⟩ = some (.int .i64 c) := cell_at hT0 rfl
  have qhT0_1 : w1.cell? ⟨w.heap.size, 1, none⟩ = some (.int .i64 r) := cell_at hT0 rfl
  have qhT0_2 : w1.cell? ⟨w.heap.size, 2, none⟩ = some (.slice A n cap) := cell_at hT0 rfl
  have qhT1_0 : w1.cell? ⟨w.heap.size + 1, 0, none⟩ = some (.int .i64 un) := cell_at hT1 rfl
  have qhT1_1 : w1.cell? ⟨w.heap.size + 1, 1, none⟩ = some (.int .i64 len) := cell_at hT1 rfl
  have qhT1_2 : w1.cell? ⟨w.heap.size + 1, 2, none⟩ = some (.int .i64 most) := cell_at hT1 rfl
  have qhT1_3 : w1.cell? ⟨w.heap.size + 1, 3, none⟩ = some (.slice P np capp) := cell_at hT1 rfl
  have qhT2_0 : w1.cell? ⟨w.heap.size + 1 + 1, 0, none⟩ = some (.slice D md cd) := cell_at hT2 rfl
  have qhT2_1 : w1.cell? ⟨w.heap.size + 1 + 1, 1, none⟩ = some (.slice E me ce) := cell_at hT2 rfl
  have qhT2_2 : w1.cell? ⟨w.heap.size + 1 + 1, 2, none⟩ = some (.slice M mk cm) := cell_at hT2 rfl
  have qhT2_3 : w1.cell? ⟨w.heap.size + 1 + 1, 3, none⟩ = some (.int .i64 s) := cell_at hT2 rfl
  have qhT2_4 : w1.cell? ⟨w.heap.size + 1 + 1, 4, none⟩ = some (.int .i64 f) := cell_at hT2 rfl
  have qhT2_5 : w1.cell? ⟨w.heap.size + 1 + 1, 5, none⟩ = some (.int .i64 i) := cell_at hT2 rfl
  clear hb
  have HG1 := Lib.hid hg1
  clear hg1
  cases b
  ·
      go_wp2_with fail
      refine (c18 _ hst).mono ?_
      rintro e wz ⟨rfl, hz⟩
      go_wp2
      go_ret
      exact ⟨rfl, hB1.call hz rfl⟩
  go_wp2_with fail
  refine (c17 un len most P np capp _).mono ?_
  rintro e w2 ⟨⟨b, rfl, hg2⟩, hb⟩
  clear qhT0_0 qhT0_1 qhT0_2 qhT1_0 qhT1_1 qhT1_2 qhT1_3 qhT2_0 qhT2_1 qhT2_2 qhT2_3 qhT2_4 qhT2_5
  have hS := hb
  have hB2 := hB1.call hS rfl
  replace hT0 := blkb hT0 hS
  replace hT1 := blkb hT1 hS
  replace hT2 := blkb hT2 hS
  replace H := H.below hS
  replace HP := HP.below hS
  replace HD := HD.below hS
  replace HE := HE.below hS
  replace HM := HM.below hS
  replace hst := hst.below hS
  clear hS hB1
  have qhT0_0 : w2.cell? ⟨w.heap.size, 0, none⟩ = some (.int .i64 c) := cell_at hT0 rfl
  have qhT0_1 : w2.cell? ⟨w.heap.size, 1, none⟩ = some (.int .i64 r) := cell_at hT0 rfl
  have qhT0_2 : w2.cell? ⟨w.heap.size, 2, none⟩ = some (.slice A n cap) := cell_at hT0 rfl
  have qhT1_0 : w2.cell? ⟨w.heap.size + 1, 0, none⟩ = some (.int .i64 un) := cell_at hT1 rfl
  have qhT1_1 : w2.cell? ⟨w.heap.size + 1, 1, none⟩ = some (.int .i64 len) := cell_at hT1 rfl
  have qhT1_2 : w2.cell? ⟨w.heap.size + 1, 2, none⟩ = some (.int .i64 most) := cell_at hT1 rfl
  have qhT1_3 : w2.cell? ⟨w.heap.size + 1, 3, none⟩ = some (.slice P np capp) := cell_at hT1 rfl
  have qhT2_0 : w2.cell? ⟨w.heap.size + 1 + 1, 0, none⟩ = some (.slice D md cd) := cell_at hT2 rfl
  have qhT2_1 : w2.cell? ⟨w.heap.size + 1 + 1, 1, none⟩ = some (.slice E me ce) := cell_at hT2 rfl
  have qhT2_2 : w2.cell? ⟨w.heap.size + 1 + 1, 2, none⟩ = some (.slice M mk cm) := cell_at hT2 rfl
  have qhT2_3 : w2.cell? ⟨w.heap.size + 1 + 1, 3, none⟩ = some (.int .i64 s) := cell_at hT2 rfl
  have qhT2_4 : w2.cell? ⟨w.heap.size + 1 + 1, 4, none⟩ = some (.int .i64 f) := cell_at hT2 rfl
  have qhT2_5 : w2.cell? ⟨w.heap.size + 1 + 1, 5, none⟩ = some (.int .i64 i) := cell_at hT2 rfl
  clear hb
  have HG2 := Lib.hid hg2
  clear hg2
  cases b
  ·
      go_wp2_with fail
      refine (c18 _ hst).mono ?_
      rintro e wz ⟨rfl, hz⟩
      go_wp2
      go_ret
      exact ⟨rfl, hB2.call hz rfl⟩
  go_wp2_with fail
  refine (c31s D E M md me mk cd ce cm dl el s f i _ hmd hme HD HE).mono ?_
  rintro e w3 ⟨⟨b, rfl, hg3⟩, hb⟩
  clear qhT0_0 qhT0_1 qhT0_2 qhT1_0 qhT1_1 qhT1_2 qhT1_3 qhT2_0 qhT2_1 qhT2_2 qhT2_3 qhT2_4 qhT2_5
  have hS := hb
  have hB3 := hB2.call hS rfl
  replace hT0 := blkb hT0 hS
  replace hT1 := blkb hT1 hS
  replace hT2 := blkb hT2 hS
  replace H := H.below hS
  replace HP := HP.below hS
  replace HD := HD.below hS
  replace HE := HE.below hS
  replace HM := HM.below hS
  replace hst := hst.below hS
  clear hS hB2
  have qhT0_0 : w3.cell? ⟨w.heap.size, 0, none⟩ = some (.int .i64 c) := cell_at hT0 rfl
  have qhT0_1 : w3.cell? ⟨w.heap.size, 1, none⟩ = some (.int .i64 r) := cell_at hT0 rfl
  have qhT0_2 : w3.cell? ⟨w.heap.size, 2, none⟩ = some (.slice A n cap) := cell_at hT0 rfl
  have qhT1_0 : w3.cell? ⟨w.heap.size + 1, 0, none⟩ = some (.int .i64 un) := cell_at hT1 rfl
  have qhT1_1 : w3.cell? ⟨w.heap.size + 1, 1, none⟩ = some (.int .i64 len) := cell_at hT1 rfl
  have qhT1_2 : w3.cell? ⟨w.heap.size + 1, 2, none⟩ = some (.int .i64 most) := cell_at hT1 rfl
  have qhT1_3 : w3.cell? ⟨w.heap.size + 1, 3, none⟩ = some (.slice P np capp) := cell_at hT1 rfl
  have qhT2_0 : w3.cell? ⟨w.heap.size + 1 + 1, 0, none⟩ = some (.slice D md cd) := cell_at hT2 rfl
  have qhT2_1 : w3.cell? ⟨w.heap.size + 1 + 1, 1, none⟩ = some (.slice E me ce) := cell_at hT2 rfl
  have qhT2_2 : w3.cell? ⟨w.heap.size + 1 + 1, 2, none⟩ = some (.slice M mk cm) := cell_at hT2 rfl
  have qhT2_3 : w3.cell? ⟨w.heap.size + 1 + 1, 3, none⟩ = some (.int .i64 s) := cell_at hT2 rfl
  have qhT2_4 : w3.cell? ⟨w.heap.size + 1 + 1, 4, none⟩ = some (.int .i64 f) := cell_at hT2 rfl
  have qhT2_5 : w3.cell? ⟨w.heap.size + 1 + 1, 5, none⟩ = some (.int .i64 i) := cell_at hT2 rfl
  clear hb
  have HG3 := Lib.hid hg3
  clear hg3
  cases b
  ·
      go_wp2_with fail
      refine (c18 _ hst).mono ?_
      rintro e wz ⟨rfl, hz⟩
      go_wp2
      go_ret
      exact ⟨rfl, hB3.call hz rfl⟩
  have hn30 : n ≤ 30 := (by first | exact HG1.out rfl | exact HG1.out trivial)
  have hp17 : np ≤ 17 := (by first | exact HG2.out rfl | exact HG2.out trivial)
  have h3 : ((md ≤ 5 ∨ md = 17) ∧ ∀ x, x ∈ dl → x.length ≤ 45) ∧ ((me ≤ 5 ∨ me = 17) ∧ ∀ x, x ∈ el → x.length ≤ 45) ∧ mk ≤ 30 := (by first | exact HG3.out rfl | exact HG3.out trivial)
  obtain ⟨⟨hd5, hd45⟩, ⟨he5, he45⟩, hm30⟩ := h3
  have hl : n ≤ 1000000 := by omega
  have hp : np ≤ 1000000 := by omega
  have HDB : Hid (∀ x, x ∈ dl → x.length ≤ 1000000) := Lib.hid (fun x hx => Nat.le_trans (hd45 x hx) (by decide))
  have HEB : Hid (∀ x, x ∈ el → x.length ≤ 1000000) := Lib.hid (fun x hx => Nat.le_trans (he45 x hx) (by decide))
  have HD45 := Lib.hid hd45
  clear HG1 HG2 HG3 hd45 he45
  go_wp2_with fail
  refine (c36 c r A n cap l un len most P np capp ps M mk cm ms D md cd dl _ hl hp (by omega) (by omega) HDB.out H HP HM HD).mono ?_
  rintro e w4 ⟨rfl, hb⟩
  clear qhT0_0 qhT0_1 qhT0_2 qhT1_0 qhT1_1 qhT1_2 qhT1_3 qhT2_0 qhT2_1 qhT2_2 qhT2_3 qhT2_4 qhT2_5
  have hS := hb
  have hB4 := hB3.call hS rfl
  replace hT0 := blkb hT0 hS
  replace hT1 := blkb hT1 hS
  replace hT2 := blkb hT2 hS
  replace H := H.below hS
  replace HP := HP.below hS
  replace HD := HD.below hS
  replace HE := HE.below hS
  replace HM := HM.below hS
  replace hst := hst.below hS
  clear hS hB3
  have qhT0_0 : w4.cell? ⟨w.heap.size, 0, none⟩ = some (.int .i64 c) := cell_at hT0 rfl
  have qhT0_1 : w4.cell? ⟨w.heap.size, 1, none⟩ = some (.int .i64 r) := cell_at hT0 rfl
  have qhT0_2 : w4.cell? ⟨w.heap.size, 2, none⟩ = some (.slice A n cap) := cell_at hT0 rfl
  have qhT1_0 : w4.cell? ⟨w.heap.size + 1, 0, none⟩ = some (.int .i64 un) := cell_at hT1 rfl
  have qhT1_1 : w4.cell? ⟨w.heap.size + 1, 1, none⟩ = some (.int .i64 len) := cell_at hT1 rfl
  have qhT1_2 : w4.cell? ⟨w.heap.size + 1, 2, none⟩ = some (.int .i64 most) := cell_at hT1 rfl
  have qhT1_3 : w4.cell? ⟨w.heap.size + 1, 3, none⟩ = some (.slice P np capp) := cell_at hT1 rfl
  have qhT2_0 : w4.cell? ⟨w.heap.size + 1 + 1, 0, none⟩ = some (.slice D md cd) := cell_at hT2 rfl
  have qhT2_1 : w4.cell? ⟨w.heap.size + 1 + 1, 1, none⟩ = some (.slice E me ce) := cell_at hT2 rfl
  have qhT2_2 : w4.cell? ⟨w.heap.size + 1 + 1, 2, none⟩ = some (.slice M mk cm) := cell_at hT2 rfl
  have qhT2_3 : w4.cell? ⟨w.heap.size + 1 + 1, 3, none⟩ = some (.int .i64 s) := cell_at hT2 rfl
  have qhT2_4 : w4.cell? ⟨w.heap.size + 1 + 1, 4, none⟩ = some (.int .i64 f) := cell_at hT2 rfl
  have qhT2_5 : w4.cell? ⟨w.heap.size + 1 + 1, 5, none⟩ = some (.int .i64 i) := cell_at hT2 rfl
  clear hb
  obtain ⟨Va, hVa⟩ : ∃ V, V = Mo.fit c r l un len most ps ms dl := ⟨_, rfl⟩
  rw [← hVa]
  have HVa := Lib.hid hVa
  clear hVa
  by_cases ha : Va = 0
  rotate_left
  ·
      have hef : (Va != 0) = true := by simpa using ha
      clear ha
      go_wp2_with fail
      refine (c18 _ hst).mono ?_
      rintro e wz ⟨rfl, hz⟩
      go_wp2
      go_ret
      exact ⟨rfl, hB4.call hz rfl⟩
  subst ha
  go_wp2_with fail
  refine (c46 c r A n cap l un len most P np capp ps D md cd dl E me ce el _ hl hp (by omega) HDB.out (by omega) HEB.out H HP HD HE).mono ?_
  rintro e w5 ⟨rfl, hb⟩
  clear qhT0_0 qhT0_1 qhT0_2 qhT1_0 qhT1_1 qhT1_2 qhT1_3 qhT2_0 qhT2_1 qhT2_2 qhT2_3 qhT2_4 qhT2_5
  have hS := hb
  have hB5 := hB4.call hS rfl
  replace hT0 := blkb hT0 hS
  replace hT1 := blkb hT1 hS
  replace hT2 := blkb hT2 hS
  replace H := H.below hS
  replace HP := HP.below hS
  replace HD := HD.below hS
  replace HE := HE.below hS
  replace HM := HM.below hS
  replace hst := hst.below hS
  clear hS hB4
  have qhT0_0 : w5.cell? ⟨w.heap.size, 0, none⟩ = some (.int .i64 c) := cell_at hT0 rfl
  have qhT0_1 : w5.cell? ⟨w.heap.size, 1, none⟩ = some (.int .i64 r) := cell_at hT0 rfl
  have qhT0_2 : w5.cell? ⟨w.heap.size, 2, none⟩ = some (.slice A n cap) := cell_at hT0 rfl
  have qhT1_0 : w5.cell? ⟨w.heap.size + 1, 0, none⟩ = some (.int .i64 un) := cell_at hT1 rfl
  have qhT1_1 : w5.cell? ⟨w.heap.size + 1, 1, none⟩ = some (.int .i64 len) := cell_at hT1 rfl
  have qhT1_2 : w5.cell? ⟨w.heap.size + 1, 2, none⟩ = some (.int .i64 most) := cell_at hT1 rfl
  have qhT1_3 : w5.cell? ⟨w.heap.size + 1, 3, none⟩ = some (.slice P np capp) := cell_at hT1 rfl
  have qhT2_0 : w5.cell? ⟨w.heap.size + 1 + 1, 0, none⟩ = some (.slice D md cd) := cell_at hT2 rfl
  have qhT2_1 : w5.cell? ⟨w.heap.size + 1 + 1, 1, none⟩ = some (.slice E me ce) := cell_at hT2 rfl
  have qhT2_2 : w5.cell? ⟨w.heap.size + 1 + 1, 2, none⟩ = some (.slice M mk cm) := cell_at hT2 rfl
  have qhT2_3 : w5.cell? ⟨w.heap.size + 1 + 1, 3, none⟩ = some (.int .i64 s) := cell_at hT2 rfl
  have qhT2_4 : w5.cell? ⟨w.heap.size + 1 + 1, 4, none⟩ = some (.int .i64 f) := cell_at hT2 rfl
  have qhT2_5 : w5.cell? ⟨w.heap.size + 1 + 1, 5, none⟩ = some (.int .i64 i) := cell_at hT2 rfl
  clear hb
  obtain ⟨Vb, hVb⟩ : ∃ V, V = Mo.bth c r l un len most ps dl el := ⟨_, rfl⟩
  rw [← hVb]
  have HVb := Lib.hid hVb
  clear hVb
  by_cases hb : Vb = 0
  rotate_left
  ·
      have hef : (Vb != 0) = true := by simpa using hb
      clear hb
      go_wp2_with fail
      refine (c18 _ hst).mono ?_
      rintro e wz ⟨rfl, hz⟩
      go_wp2
      go_ret
      exact ⟨rfl, hB5.call hz rfl⟩
  subst hb
  go_wp2_with fail
  refine (c47 c r A n cap i _).mono ?_
  rintro e w6 ⟨rfl, hb⟩
  clear qhT0_0 qhT0_1 qhT0_2 qhT1_0 qhT1_1 qhT1_2 qhT1_3 qhT2_0 qhT2_1 qhT2_2 qhT2_3 qhT2_4 qhT2_5
  have hS := hb
  have hB6 := hB5.call hS rfl
  replace hT0 := blkb hT0 hS
  replace hT1 := blkb hT1 hS
  replace hT2 := blkb hT2 hS
  replace H := H.below hS
  replace HP := HP.below hS
  replace HD := HD.below hS
  replace HE := HE.below hS
  replace HM := HM.below hS
  replace hst := hst.below hS
  clear hS hB5
  have qhT0_0 : w6.cell? ⟨w.heap.size, 0, none⟩ = some (.int .i64 c) := cell_at hT0 rfl
  have qhT0_1 : w6.cell? ⟨w.heap.size, 1, none⟩ = some (.int .i64 r) := cell_at hT0 rfl
  have qhT0_2 : w6.cell? ⟨w.heap.size, 2, none⟩ = some (.slice A n cap) := cell_at hT0 rfl
  have qhT1_0 : w6.cell? ⟨w.heap.size + 1, 0, none⟩ = some (.int .i64 un) := cell_at hT1 rfl
  have qhT1_1 : w6.cell? ⟨w.heap.size + 1, 1, none⟩ = some (.int .i64 len) := cell_at hT1 rfl
  have qhT1_2 : w6.cell? ⟨w.heap.size + 1, 2, none⟩ = some (.int .i64 most) := cell_at hT1 rfl
  have qhT1_3 : w6.cell? ⟨w.heap.size + 1, 3, none⟩ = some (.slice P np capp) := cell_at hT1 rfl
  have qhT2_0 : w6.cell? ⟨w.heap.size + 1 + 1, 0, none⟩ = some (.slice D md cd) := cell_at hT2 rfl
  have qhT2_1 : w6.cell? ⟨w.heap.size + 1 + 1, 1, none⟩ = some (.slice E me ce) := cell_at hT2 rfl
  have qhT2_2 : w6.cell? ⟨w.heap.size + 1 + 1, 2, none⟩ = some (.slice M mk cm) := cell_at hT2 rfl
  have qhT2_3 : w6.cell? ⟨w.heap.size + 1 + 1, 3, none⟩ = some (.int .i64 s) := cell_at hT2 rfl
  have qhT2_4 : w6.cell? ⟨w.heap.size + 1 + 1, 4, none⟩ = some (.int .i64 f) := cell_at hT2 rfl
  have qhT2_5 : w6.cell? ⟨w.heap.size + 1 + 1, 5, none⟩ = some (.int .i64 i) := cell_at hT2 rfl
  clear hb
  obtain ⟨Vg, hVg⟩ : ∃ V, V = Mo.cell n i := ⟨_, rfl⟩
  rw [← hVg]
  have HVg := Lib.hid hVg
  clear hVg
  by_cases hg : Vg = 0
  rotate_left
  ·
      have hef : (Vg != 0) = true := by simpa using hg
      clear hg
      go_wp2_with fail
      refine (c18 _ hst).mono ?_
      rintro e wz ⟨rfl, hz⟩
      go_wp2
      go_ret
      exact ⟨rfl, hB6.call hz rfl⟩
  subst hg
  have hfit := HVa.out.symm
  have hbth := HVb.out.symm
  have hcl := Mo.cell_ok.1 HVg.out.symm
  have hml := (Mo.mdl_zero (Mo.fit_zero hfit).1)
  have hdt := (Mo.dta_zero (Mo.fit_zero hfit).2)
  have hdte : Mo.dta c r l un len most ps el = 0 := by unfold Mo.dta; exact first2 hml.1 (Mo.first_zero hbth (Mo.dat len ps el) (by simp))
  have hsv := surv_ok hml.1
  obtain ⟨c, r, rfl, rfl, hc, hr, g⟩ := Mo.ground_ok hsv.1
  obtain ⟨len, rfl⟩ : ∃ k : Nat, len = k := ⟨len.toNat, by omega⟩
  obtain ⟨i, rfl⟩ : ∃ k : Nat, i = k := ⟨i.toNat, by omega⟩
  have hiN : i < n := by omega
  have hpl := HP.len
  obtain rfl : n = mk := by rw [← HM.len, hml.2.1, H.len]
  obtain rfl : np = md := by rw [← HD.len, hdt.2.1, hpl]
  obtain rfl : np = me := by rw [← HE.len, (Mo.dta_zero hdte).2.1, hpl]
  obtain ⟨T, MIS, BV, BE, ENE, AE, NUM, DEN, N, many, ef, IMG, DS, h5, hT45, hd45, he45, hm0, hmT, hBE, hmany, hA0, hA1, k19, k32, k32T, k34, k34e, hN, k49, k40, k50, k28, k35⟩ := bnd_calls c r n np i l un len most ps ms dl el hc hr g H.len hn30 hpl hiN hfit hbth (by rw [HD.len]; exact hd5) HD45.out
  have HT45 := Lib.hid hT45
  have HD45' := Lib.hid hd45
  have HE45 := Lib.hid he45
  have HBE := Lib.hid hBE
  have HMANY := Lib.hid hmany
  have HA0 := Lib.hid hA0
  have HA1 := Lib.hid hA1
  have K19 := Lib.hid k19
  have K32 := Lib.hid k32
  have K32T := Lib.hid k32T
  have K34 := Lib.hid k34
  have K34e := Lib.hid k34e
  have K49 := Lib.hid k49
  have K40 := Lib.hid k40
  have K50 := Lib.hid k50
  have K28 := Lib.hid k28
  have K35 := Lib.hid k35
  have K48 : Hid (∀ (C : Option Addr) (cc : Nat) (W : World), RdD W C np T → Calls Tryz.prog 48 #[.slice C np cc] W fun en w' => en = .returned (.bool true) ∧ Below W.heap.size W w') := Lib.hid (fun C cc W h => (c48s C np cc T W (by omega) h).mono fun e w' h => ⟨h.2.1 ⟨h5, hT45⟩, h.2.2⟩)
  have K27 : Hid (∀ (C B : Option Addr) (cc cb : Nat) (W : World), RdD W C np T → RdD W B np dl → Calls Tryz.prog 27 #[.slice C np cc, .slice B np cb] W fun en w' => en = .returned (.bool (MIS == 0)) ∧ Below W.heap.size W w') := Lib.hid (fun C B cc cb W h1 h2 => (c27 C B np np cc cb T dl W hp hp (fun x hx => Nat.le_trans (hT45 x hx) (by decide)) (fun x hx => Nat.le_trans (hd45 x hx) (by decide)) h1 h2).mono fun e w' h => ⟨by
    rw [h.1]
    by_cases e : T = dl
    · have e2 := hmT.2 e
      subst e; rw [e2]; simp
    · have e2 : ¬ MIS = 0 := fun h => e (hmT.1 h)
      simp [e, e2], h.2⟩)
  have hms : decide (MIS < 0) = false := by simpa using hm0
  have hbb : ((MIS == 0) != (MIS == 0)) = false := by simp
  clear hT45 hd45 he45 hBE hmany hA0 hA1 k19 k32 k32T k34 k34e k49 k40 k50 k28 k35 hmT hm0 hfit hbth hcl hml hdt hdte hsv HVa HVb HVg HD45 HDB HEB hd5 he5 hm30 hmd hme
  go_wp2_with fail
  refine wp_region_plan [(0, true), (2, true), (4, true), (5, true), (1, false), (3, false), (6, false), (7, false), (8, true), (9, true), (10, true), (11, true), (12, true)] w6.heap.size (by kernel_rfl) (by kernel_rfl) (Nat.le_refl _) (fun _ _ d _ _ h => by cases d <;> exact h) ?_
  have hC : Below w6.heap.size w6 w6 := Below.refl _ _
  have zhT0 : w.heap.size < w6.heap.size := (Array.getElem?_eq_some_iff.1 hT0).1
  have zhT1 : w.heap.size + 1 < w6.heap.size := (Array.getElem?_eq_some_iff.1 hT1).1
  have zhT2 : w.heap.size + 1 + 1 < w6.heap.size := (Array.getElem?_eq_some_iff.1 hT2).1
  repeat (first | (refine wpPlanA_skip _ rfl (by rfl) ?_; simp only [Act.put, List.setIfInBounds_toArray, List.set_cons_zero, List.set_cons_succ]) | (refine wpPlanA_soft _ ?_ rfl (by rfl) ?_ ?_; rotate_left; (intro wq hq hcq; go_simp; first | exact rfl | exact ⟨rfl, rfl⟩); simp only [Act.put, List.setIfInBounds_toArray, List.set_cons_zero, List.set_cons_succ]))
  refine wpPlanA_hard _ rfl (by rfl) (fun w7 hS K hK => ?_)
  go_simp
  refine (c20d c r A n cap l _ hl (H.below hS)).mono ?_
  rintro e w8 ⟨B1, cb1, rfl, hr1, hb⟩
  replace hS := hS.call hb rfl
  have hB8 := hB6.call hS rfl
  replace hC := hC.call hS rfl
  replace hT0 := blkb hT0 hS
  replace hT1 := blkb hT1 hS
  replace hT2 := blkb hT2 hS
  replace H := H.below hS
  replace HP := HP.below hS
  replace HD := HD.below hS
  replace HE := HE.below hS
  replace HM := HM.below hS
  replace hst := hst.below hS
  refine hK _ _ hC ?_
  clear hS hb hB6 hK K
  try simp only [Act.put, List.setIfInBounds_toArray, List.set_cons_zero, List.set_cons_succ]
  refine wpPlanA_hard _ rfl (by rfl) (fun w9 hS K hK => ?_)
  go_simp
  refine (c21d un len most P np capp ps _ hp (HP.below hS)).mono ?_
  rintro e w10 ⟨P2, pc2, rfl, ⟨hp2, hq2⟩, hb⟩
  replace hS := hS.call hb rfl
  have hB10 := hB8.call hS rfl
  replace hC := hC.call hS rfl
  replace hT0 := blkb hT0 hS
  replace hT1 := blkb hT1 hS
  replace hT2 := blkb hT2 hS
  replace H := H.below hS
  replace HP := HP.below hS
  replace HD := HD.below hS
  replace HE := HE.below hS
  replace HM := HM.below hS
  replace hst := hst.below hS
  replace hr1 := hr1.below hS
  refine hK _ _ hC ?_
  clear hS hb hB8 hK K
  try simp only [Act.put, List.setIfInBounds_toArray, List.set_cons_zero, List.set_cons_succ]
  refine wpPlanA_hard _ rfl (by rfl) (fun w11 hS K hK => ?_)
  go_simp
  refine (c22d M n cm ms _ hl (HM.below hS)).mono ?_
  rintro e w12 ⟨D3, dc3, rfl, hd3, hb⟩
  replace hS := hS.call hb rfl
  have hB12 := hB10.call hS rfl
  replace hC := hC.call hS rfl
  replace hT0 := blkb hT0 hS
  replace hT1 := blkb hT1 hS
  replace hT2 := blkb hT2 hS
  replace H := H.below hS
  replace HP := HP.below hS
  replace HD := HD.below hS
  replace HE := HE.below hS
  replace HM := HM.below hS
  replace hst := hst.below hS
  replace hr1 := hr1.below hS
  replace hp2 := hp2.below hS
  refine hK _ _ hC ?_
  clear hS hb hB10 hK K
  try simp only [Act.put, List.setIfInBounds_toArray, List.set_cons_zero, List.set_cons_succ]
  refine wpPlanA_hard _ rfl (by rfl) (fun w13 hS K hK => ?_)
  go_simp
  refine (K19.out _ _ _ _ _ _ _ hq2 (hr1.below hS) (hp2.below hS) (hd3.below hS) (hst.below hS)).mono ?_
  rintro e w14 ⟨go, rfl, hT, hb⟩
  replace hS := hS.call hb rfl
  have hB14 := hB12.call hS rfl
  replace hC := hC.call hS rfl
  replace hT0 := blkb hT0 hS
  replace hT1 := blkb hT1 hS
  replace hT2 := blkb hT2 hS
  replace H := H.below hS
  replace HP := HP.below hS
  replace HD := HD.below hS
  replace HE := HE.below hS
  replace HM := HM.below hS
  replace hst := hst.below hS
  replace hr1 := hr1.below hS
  replace hp2 := hp2.below hS
  replace hd3 := hd3.below hS
  refine hK _ _ hC ?_
  clear hS hb hB12 hK K
  try simp only [Act.put, List.setIfInBounds_toArray, List.set_cons_zero, List.set_cons_succ]
  repeat (first | (refine wpPlanA_skip _ rfl (by rfl) ?_; simp only [Act.put, List.setIfInBounds_toArray, List.set_cons_zero, List.set_cons_succ]) | (refine wpPlanA_soft _ ?_ rfl (by rfl) ?_ ?_; rotate_left; (intro wq hq hcq; go_simp; first | exact rfl | exact ⟨rfl, rfl⟩); simp only [Act.put, List.setIfInBounds_toArray, List.set_cons_zero, List.set_cons_succ]))
  clear hr1
  clear hp2
  clear hd3
  clear qhT0_0 qhT0_1 qhT0_2 qhT1_0 qhT1_1 qhT1_2 qhT1_3 qhT2_0 qhT2_1 qhT2_2 qhT2_3 qhT2_4 qhT2_5
  refine wpPlanA_nil (fun w15 hS => ?_)
  clear hC zhT0 zhT1 zhT2
  have hB15 := hB14.call hS rfl
  replace hT0 := blkb hT0 hS
  replace hT1 := blkb hT1 hS
  replace hT2 := blkb hT2 hS
  replace H := H.below hS
  replace HP := HP.below hS
  replace HD := HD.below hS
  replace HE := HE.below hS
  replace HM := HM.below hS
  replace hst := hst.below hS
  replace hT := hT.below hS
  clear hS hB14
  have qhT0_0 : w15.cell? ⟨w.heap.size, 0, none⟩ = some (.int .i64 c) := cell_at hT0 rfl
  have qhT0_1 : w15.cell? ⟨w.heap.size, 1, none⟩ = some (.int .i64 r) := cell_at hT0 rfl
  have qhT0_2 : w15.cell? ⟨w.heap.size, 2, none⟩ = some (.slice A n cap) := cell_at hT0 rfl
  have qhT1_0 : w15.cell? ⟨w.heap.size + 1, 0, none⟩ = some (.int .i64 un) := cell_at hT1 rfl
  have qhT1_1 : w15.cell? ⟨w.heap.size + 1, 1, none⟩ = some (.int .i64 len) := cell_at hT1 rfl
  have qhT1_2 : w15.cell? ⟨w.heap.size + 1, 2, none⟩ = some (.int .i64 most) := cell_at hT1 rfl
  have qhT1_3 : w15.cell? ⟨w.heap.size + 1, 3, none⟩ = some (.slice P np capp) := cell_at hT1 rfl
  have qhT2_0 : w15.cell? ⟨w.heap.size + 1 + 1, 0, none⟩ = some (.slice D np cd) := cell_at hT2 rfl
  have qhT2_1 : w15.cell? ⟨w.heap.size + 1 + 1, 1, none⟩ = some (.slice E np ce) := cell_at hT2 rfl
  have qhT2_2 : w15.cell? ⟨w.heap.size + 1 + 1, 2, none⟩ = some (.slice M n cm) := cell_at hT2 rfl
  have qhT2_3 : w15.cell? ⟨w.heap.size + 1 + 1, 3, none⟩ = some (.int .i64 s) := cell_at hT2 rfl
  have qhT2_4 : w15.cell? ⟨w.heap.size + 1 + 1, 4, none⟩ = some (.int .i64 f) := cell_at hT2 rfl
  have qhT2_5 : w15.cell? ⟨w.heap.size + 1 + 1, 5, none⟩ = some (.int .i64 i) := cell_at hT2 rfl
  go_wp2_with fail
  refine wp_region_plan [(0, true), (2, true), (4, true), (5, true), (7, true), (8, true), (1, false), (3, false), (6, false), (9, false), (10, false), (11, true), (12, true), (13, true), (14, true), (15, true)] w15.heap.size (by kernel_rfl) (by kernel_rfl) (Nat.le_refl _) (fun _ _ d _ _ h => by cases d <;> exact h) ?_
  have hC : Below w15.heap.size w15 w15 := Below.refl _ _
  have zhT0 : w.heap.size < w15.heap.size := (Array.getElem?_eq_some_iff.1 hT0).1
  have zhT1 : w.heap.size + 1 < w15.heap.size := (Array.getElem?_eq_some_iff.1 hT1).1
  have zhT2 : w.heap.size + 1 + 1 < w15.heap.size := (Array.getElem?_eq_some_iff.1 hT2).1
  repeat (first | (refine wpPlanA_skip _ rfl (by rfl) ?_; simp only [Act.put, List.setIfInBounds_toArray, List.set_cons_zero, List.set_cons_succ]) | (refine wpPlanA_soft _ ?_ rfl (by rfl) ?_ ?_; rotate_left; (intro wq hq hcq; go_simp; first | exact rfl | exact ⟨rfl, rfl⟩); simp only [Act.put, List.setIfInBounds_toArray, List.set_cons_zero, List.set_cons_succ]))
  refine wpPlanA_hard _ rfl (by rfl) (fun w16 hS K hK => ?_)
  go_simp
  refine (c20d c r A n cap l _ hl (H.below hS)).mono ?_
  rintro e w17 ⟨B4, cb4, rfl, hr4, hb⟩
  replace hS := hS.call hb rfl
  have hB17 := hB15.call hS rfl
  replace hC := hC.call hS rfl
  replace hT0 := blkb hT0 hS
  replace hT1 := blkb hT1 hS
  replace hT2 := blkb hT2 hS
  replace H := H.below hS
  replace HP := HP.below hS
  replace HD := HD.below hS
  replace HE := HE.below hS
  replace HM := HM.below hS
  replace hst := hst.below hS
  replace hT := hT.below hS
  refine hK _ _ hC ?_
  clear hS hb hB15 hK K
  try simp only [Act.put, List.setIfInBounds_toArray, List.set_cons_zero, List.set_cons_succ]
  refine wpPlanA_hard _ rfl (by rfl) (fun w18 hS K hK => ?_)
  go_simp
  refine (c21d un len most P np capp ps _ hp (HP.below hS)).mono ?_
  rintro e w19 ⟨P5, pc5, rfl, ⟨hp5, hq5⟩, hb⟩
  replace hS := hS.call hb rfl
  have hB19 := hB17.call hS rfl
  replace hC := hC.call hS rfl
  replace hT0 := blkb hT0 hS
  replace hT1 := blkb hT1 hS
  replace hT2 := blkb hT2 hS
  replace H := H.below hS
  replace HP := HP.below hS
  replace HD := HD.below hS
  replace HE := HE.below hS
  replace HM := HM.below hS
  replace hst := hst.below hS
  replace hT := hT.below hS
  replace hr4 := hr4.below hS
  refine hK _ _ hC ?_
  clear hS hb hB17 hK K
  try simp only [Act.put, List.setIfInBounds_toArray, List.set_cons_zero, List.set_cons_succ]
  refine wpPlanA_hard _ rfl (by rfl) (fun w20 hS K hK => ?_)
  go_simp
  refine (c22d M n cm ms _ hl (HM.below hS)).mono ?_
  rintro e w21 ⟨D6, dc6, rfl, hd6, hb⟩
  replace hS := hS.call hb rfl
  have hB21 := hB19.call hS rfl
  replace hC := hC.call hS rfl
  replace hT0 := blkb hT0 hS
  replace hT1 := blkb hT1 hS
  replace hT2 := blkb hT2 hS
  replace H := H.below hS
  replace HP := HP.below hS
  replace HD := HD.below hS
  replace HE := HE.below hS
  replace HM := HM.below hS
  replace hst := hst.below hS
  replace hT := hT.below hS
  replace hr4 := hr4.below hS
  replace hp5 := hp5.below hS
  refine hK _ _ hC ?_
  clear hS hb hB19 hK K
  try simp only [Act.put, List.setIfInBounds_toArray, List.set_cons_zero, List.set_cons_succ]
  refine wpPlanA_hard _ rfl (by rfl) (fun w22 hS K hK => ?_)
  go_simp
  refine (c33d D np cd dl _ h5 HD45'.out (HD.below hS)).mono ?_
  rintro e w23 ⟨F7, fc7, rfl, he7, hb⟩
  replace hS := hS.call hb rfl
  have hB23 := hB21.call hS rfl
  replace hC := hC.call hS rfl
  replace hT0 := blkb hT0 hS
  replace hT1 := blkb hT1 hS
  replace hT2 := blkb hT2 hS
  replace H := H.below hS
  replace HP := HP.below hS
  replace HD := HD.below hS
  replace HE := HE.below hS
  replace HM := HM.below hS
  replace hst := hst.below hS
  replace hT := hT.below hS
  replace hr4 := hr4.below hS
  replace hp5 := hp5.below hS
  replace hd6 := hd6.below hS
  refine hK _ _ hC ?_
  clear hS hb hB21 hK K
  try simp only [Act.put, List.setIfInBounds_toArray, List.set_cons_zero, List.set_cons_succ]
  refine wpPlanA_hard _ rfl (by rfl) (fun w24 hS K hK => ?_)
  go_simp
  refine (K32.out _ _ _ _ _ _ _ _ _ hq5 (hr4.below hS) (hp5.below hS) (hd6.below hS) (he7.below hS) (hst.below hS)).mono ?_
  rintro e w25 ⟨rfl, hb⟩
  replace hS := hS.call hb rfl
  have hB25 := hB23.call hS rfl
  replace hC := hC.call hS rfl
  replace hT0 := blkb hT0 hS
  replace hT1 := blkb hT1 hS
  replace hT2 := blkb hT2 hS
  replace H := H.below hS
  replace HP := HP.below hS
  replace HD := HD.below hS
  replace HE := HE.below hS
  replace HM := HM.below hS
  replace hst := hst.below hS
  replace hT := hT.below hS
  replace hr4 := hr4.below hS
  replace hp5 := hp5.below hS
  replace hd6 := hd6.below hS
  replace he7 := he7.below hS
  refine hK _ _ hC ?_
  clear hS hb hB23 hK K
  try simp only [Act.put, List.setIfInBounds_toArray, List.set_cons_zero, List.set_cons_succ]
  repeat (first | (refine wpPlanA_skip _ rfl (by rfl) ?_; simp only [Act.put, List.setIfInBounds_toArray, List.set_cons_zero, List.set_cons_succ]) | (refine wpPlanA_soft _ ?_ rfl (by rfl) ?_ ?_; rotate_left; (intro wq hq hcq; go_simp; first | exact rfl | exact ⟨rfl, rfl⟩); simp only [Act.put, List.setIfInBounds_toArray, List.set_cons_zero, List.set_cons_succ]))
  clear hr4
  clear hp5
  clear hd6
  clear he7
  clear qhT0_0 qhT0_1 qhT0_2 qhT1_0 qhT1_1 qhT1_2 qhT1_3 qhT2_0 qhT2_1 qhT2_2 qhT2_3 qhT2_4 qhT2_5
  refine wpPlanA_nil (fun w26 hS => ?_)
  clear hC zhT0 zhT1 zhT2
  have hB26 := hB25.call hS rfl
  replace hT0 := blkb hT0 hS
  replace hT1 := blkb hT1 hS
  replace hT2 := blkb hT2 hS
  replace H := H.below hS
  replace HP := HP.below hS
  replace HD := HD.below hS
  replace HE := HE.below hS
  replace HM := HM.below hS
  replace hst := hst.below hS
  replace hT := hT.below hS
  clear hS hB25
  have qhT0_0 : w26.cell? ⟨w.heap.size, 0, none⟩ = some (.int .i64 c) := cell_at hT0 rfl
  have qhT0_1 : w26.cell? ⟨w.heap.size, 1, none⟩ = some (.int .i64 r) := cell_at hT0 rfl
  have qhT0_2 : w26.cell? ⟨w.heap.size, 2, none⟩ = some (.slice A n cap) := cell_at hT0 rfl
  have qhT1_0 : w26.cell? ⟨w.heap.size + 1, 0, none⟩ = some (.int .i64 un) := cell_at hT1 rfl
  have qhT1_1 : w26.cell? ⟨w.heap.size + 1, 1, none⟩ = some (.int .i64 len) := cell_at hT1 rfl
  have qhT1_2 : w26.cell? ⟨w.heap.size + 1, 2, none⟩ = some (.int .i64 most) := cell_at hT1 rfl
  have qhT1_3 : w26.cell? ⟨w.heap.size + 1, 3, none⟩ = some (.slice P np capp) := cell_at hT1 rfl
  have qhT2_0 : w26.cell? ⟨w.heap.size + 1 + 1, 0, none⟩ = some (.slice D np cd) := cell_at hT2 rfl
  have qhT2_1 : w26.cell? ⟨w.heap.size + 1 + 1, 1, none⟩ = some (.slice E np ce) := cell_at hT2 rfl
  have qhT2_2 : w26.cell? ⟨w.heap.size + 1 + 1, 2, none⟩ = some (.slice M n cm) := cell_at hT2 rfl
  have qhT2_3 : w26.cell? ⟨w.heap.size + 1 + 1, 3, none⟩ = some (.int .i64 s) := cell_at hT2 rfl
  have qhT2_4 : w26.cell? ⟨w.heap.size + 1 + 1, 4, none⟩ = some (.int .i64 f) := cell_at hT2 rfl
  have qhT2_5 : w26.cell? ⟨w.heap.size + 1 + 1, 5, none⟩ = some (.int .i64 i) := cell_at hT2 rfl
  go_wp2_with fail
  refine (K48.out _ _ _ hT).mono ?_
  rintro e w27 ⟨rfl, hb⟩
  clear qhT0_0 qhT0_1 qhT0_2 qhT1_0 qhT1_1 qhT1_2 qhT1_3 qhT2_0 qhT2_1 qhT2_2 qhT2_3 qhT2_4 qhT2_5
  have hS := hb
  have hB27 := hB26.call hS rfl
  replace hT0 := blkb hT0 hS
  replace hT1 := blkb hT1 hS
  replace hT2 := blkb hT2 hS
  replace H := H.below hS
  replace HP := HP.below hS
  replace HD := HD.below hS
  replace HE := HE.below hS
  replace HM := HM.below hS
  replace hst := hst.below hS
  replace hT := hT.below hS
  clear hS hB26
  have qhT0_0 : w27.cell? ⟨w.heap.size, 0, none⟩ = some (.int .i64 c) := cell_at hT0 rfl
  have qhT0_1 : w27.cell? ⟨w.heap.size, 1, none⟩ = some (.int .i64 r) := cell_at hT0 rfl
  have qhT0_2 : w27.cell? ⟨w.heap.size, 2, none⟩ = some (.slice A n cap) := cell_at hT0 rfl
  have qhT1_0 : w27.cell? ⟨w.heap.size + 1, 0, none⟩ = some (.int .i64 un) := cell_at hT1 rfl
  have qhT1_1 : w27.cell? ⟨w.heap.size + 1, 1, none⟩ = some (.int .i64 len) := cell_at hT1 rfl
  have qhT1_2 : w27.cell? ⟨w.heap.size + 1, 2, none⟩ = some (.int .i64 most) := cell_at hT1 rfl
  have qhT1_3 : w27.cell? ⟨w.heap.size + 1, 3, none⟩ = some (.slice P np capp) := cell_at hT1 rfl
  have qhT2_0 : w27.cell? ⟨w.heap.size + 1 + 1, 0, none⟩ = some (.slice D np cd) := cell_at hT2 rfl
  have qhT2_1 : w27.cell? ⟨w.heap.size + 1 + 1, 1, none⟩ = some (.slice E np ce) := cell_at hT2 rfl
  have qhT2_2 : w27.cell? ⟨w.heap.size + 1 + 1, 2, none⟩ = some (.slice M n cm) := cell_at hT2 rfl
  have qhT2_3 : w27.cell? ⟨w.heap.size + 1 + 1, 3, none⟩ = some (.int .i64 s) := cell_at hT2 rfl
  have qhT2_4 : w27.cell? ⟨w.heap.size + 1 + 1, 4, none⟩ = some (.int .i64 f) := cell_at hT2 rfl
  have qhT2_5 : w27.cell? ⟨w.heap.size + 1 + 1, 5, none⟩ = some (.int .i64 i) := cell_at hT2 rfl
  clear hb
  go_wp2_with fail
  refine (K27.out _ _ _ _ _ hT HD).mono ?_
  rintro e w28 ⟨rfl, hb⟩
  clear qhT0_0 qhT0_1 qhT0_2 qhT1_0 qhT1_1 qhT1_2 qhT1_3 qhT2_0 qhT2_1 qhT2_2 qhT2_3 qhT2_4 qhT2_5
  have hS := hb
  have hB28 := hB27.call hS rfl
  replace hT0 := blkb hT0 hS
  replace hT1 := blkb hT1 hS
  replace hT2 := blkb hT2 hS
  replace H := H.below hS
  replace HP := HP.below hS
  replace HD := HD.below hS
  replace HE := HE.below hS
  replace HM := HM.below hS
  replace hst := hst.below hS
  replace hT := hT.below hS
  clear hS hB27
  have qhT0_0 : w28.cell? ⟨w.heap.size, 0, none⟩ = some (.int .i64 c) := cell_at hT0 rfl
  have qhT0_1 : w28.cell? ⟨w.heap.size, 1, none⟩ = some (.int .i64 r) := cell_at hT0 rfl
  have qhT0_2 : w28.cell? ⟨w.heap.size, 2, none⟩ = some (.slice A n cap) := cell_at hT0 rfl
  have qhT1_0 : w28.cell? ⟨w.heap.size + 1, 0, none⟩ = some (.int .i64 un) := cell_at hT1 rfl
  have qhT1_1 : w28.cell? ⟨w.heap.size + 1, 1, none⟩ = some (.int .i64 len) := cell_at hT1 rfl
  have qhT1_2 : w28.cell? ⟨w.heap.size + 1, 2, none⟩ = some (.int .i64 most) := cell_at hT1 rfl
  have qhT1_3 : w28.cell? ⟨w.heap.size + 1, 3, none⟩ = some (.slice P np capp) := cell_at hT1 rfl
  have qhT2_0 : w28.cell? ⟨w.heap.size + 1 + 1, 0, none⟩ = some (.slice D np cd) := cell_at hT2 rfl
  have qhT2_1 : w28.cell? ⟨w.heap.size + 1 + 1, 1, none⟩ = some (.slice E np ce) := cell_at hT2 rfl
  have qhT2_2 : w28.cell? ⟨w.heap.size + 1 + 1, 2, none⟩ = some (.slice M n cm) := cell_at hT2 rfl
  have qhT2_3 : w28.cell? ⟨w.heap.size + 1 + 1, 3, none⟩ = some (.int .i64 s) := cell_at hT2 rfl
  have qhT2_4 : w28.cell? ⟨w.heap.size + 1 + 1, 4, none⟩ = some (.int .i64 f) := cell_at hT2 rfl
  have qhT2_5 : w28.cell? ⟨w.heap.size + 1 + 1, 5, none⟩ = some (.int .i64 i) := cell_at hT2 rfl
  clear hb
  go_wp2_with fail
  refine wp_region_plan [(0, true), (2, true), (4, true), (5, true), (7, true), (1, false), (3, false), (6, false), (8, false), (9, false), (10, true), (11, true), (12, true), (13, true), (14, true)] w28.heap.size (by kernel_rfl) (by kernel_rfl) (Nat.le_refl _) (fun _ _ d _ _ h => by cases d <;> exact h) ?_
  have hC : Below w28.heap.size w28 w28 := Below.refl _ _
  have zhT0 : w.heap.size < w28.heap.size := (Array.getElem?_eq_some_iff.1 hT0).1
  have zhT1 : w.heap.size + 1 < w28.heap.size := (Array.getElem?_eq_some_iff.1 hT1).1
  have zhT2 : w.heap.size + 1 + 1 < w28.heap.size := (Array.getElem?_eq_some_iff.1 hT2).1
  repeat (first | (refine wpPlanA_skip _ rfl (by rfl) ?_; simp only [Act.put, List.setIfInBounds_toArray, List.set_cons_zero, List.set_cons_succ]) | (refine wpPlanA_soft _ ?_ rfl (by rfl) ?_ ?_; rotate_left; (intro wq hq hcq; go_simp; first | exact rfl | exact ⟨rfl, rfl⟩); simp only [Act.put, List.setIfInBounds_toArray, List.set_cons_zero, List.set_cons_succ]))
  refine wpPlanA_hard _ rfl (by rfl) (fun w29 hS K hK => ?_)
  go_simp
  refine (c20d c r A n cap l _ hl (H.below hS)).mono ?_
  rintro e w30 ⟨B8, cb8, rfl, hr8, hb⟩
  replace hS := hS.call hb rfl
  have hB30 := hB28.call hS rfl
  replace hC := hC.call hS rfl
  replace hT0 := blkb hT0 hS
  replace hT1 := blkb hT1 hS
  replace hT2 := blkb hT2 hS
  replace H := H.below hS
  replace HP := HP.below hS
  replace HD := HD.below hS
  replace HE := HE.below hS
  replace HM := HM.below hS
  replace hst := hst.below hS
  replace hT := hT.below hS
  refine hK _ _ hC ?_
  clear hS hb hB28 hK K
  try simp only [Act.put, List.setIfInBounds_toArray, List.set_cons_zero, List.set_cons_succ]
  refine wpPlanA_hard _ rfl (by rfl) (fun w31 hS K hK => ?_)
  go_simp
  refine (c21d un len most P np capp ps _ hp (HP.below hS)).mono ?_
  rintro e w32 ⟨P9, pc9, rfl, ⟨hp9, hq9⟩, hb⟩
  replace hS := hS.call hb rfl
  have hB32 := hB30.call hS rfl
  replace hC := hC.call hS rfl
  replace hT0 := blkb hT0 hS
  replace hT1 := blkb hT1 hS
  replace hT2 := blkb hT2 hS
  replace H := H.below hS
  replace HP := HP.below hS
  replace HD := HD.below hS
  replace HE := HE.below hS
  replace HM := HM.below hS
  replace hst := hst.below hS
  replace hT := hT.below hS
  replace hr8 := hr8.below hS
  refine hK _ _ hC ?_
  clear hS hb hB30 hK K
  try simp only [Act.put, List.setIfInBounds_toArray, List.set_cons_zero, List.set_cons_succ]
  refine wpPlanA_hard _ rfl (by rfl) (fun w33 hS K hK => ?_)
  go_simp
  refine (c22d M n cm ms _ hl (HM.below hS)).mono ?_
  rintro e w34 ⟨D10, dc10, rfl, hd10, hb⟩
  replace hS := hS.call hb rfl
  have hB34 := hB32.call hS rfl
  replace hC := hC.call hS rfl
  replace hT0 := blkb hT0 hS
  replace hT1 := blkb hT1 hS
  replace hT2 := blkb hT2 hS
  replace H := H.below hS
  replace HP := HP.below hS
  replace HD := HD.below hS
  replace HE := HE.below hS
  replace HM := HM.below hS
  replace hst := hst.below hS
  replace hT := hT.below hS
  replace hr8 := hr8.below hS
  replace hp9 := hp9.below hS
  refine hK _ _ hC ?_
  clear hS hb hB32 hK K
  try simp only [Act.put, List.setIfInBounds_toArray, List.set_cons_zero, List.set_cons_succ]
  refine wpPlanA_hard _ rfl (by rfl) (fun w35 hS K hK => ?_)
  go_simp
  refine (c33d _ np _ T _ h5 HT45.out (hT.below hS)).mono ?_
  rintro e w36 ⟨F11, fc11, rfl, he11, hb⟩
  replace hS := hS.call hb rfl
  have hB36 := hB34.call hS rfl
  replace hC := hC.call hS rfl
  replace hT0 := blkb hT0 hS
  replace hT1 := blkb hT1 hS
  replace hT2 := blkb hT2 hS
  replace H := H.below hS
  replace HP := HP.below hS
  replace HD := HD.below hS
  replace HE := HE.below hS
  replace HM := HM.below hS
  replace hst := hst.below hS
  replace hT := hT.below hS
  replace hr8 := hr8.below hS
  replace hp9 := hp9.below hS
  replace hd10 := hd10.below hS
  refine hK _ _ hC ?_
  clear hS hb hB34 hK K
  try simp only [Act.put, List.setIfInBounds_toArray, List.set_cons_zero, List.set_cons_succ]
  refine wpPlanA_hard _ rfl (by rfl) (fun w37 hS K hK => ?_)
  go_simp
  refine (K32T.out _ _ _ _ _ _ _ _ _ hq9 (hr8.below hS) (hp9.below hS) (hd10.below hS) (he11.below hS) (hst.below hS)).mono ?_
  rintro e w38 ⟨rfl, hb⟩
  replace hS := hS.call hb rfl
  have hB38 := hB36.call hS rfl
  replace hC := hC.call hS rfl
  replace hT0 := blkb hT0 hS
  replace hT1 := blkb hT1 hS
  replace hT2 := blkb hT2 hS
  replace H := H.below hS
  replace HP := HP.below hS
  replace HD := HD.below hS
  replace HE := HE.below hS
  replace HM := HM.below hS
  replace hst := hst.below hS
  replace hT := hT.below hS
  replace hr8 := hr8.below hS
  replace hp9 := hp9.below hS
  replace hd10 := hd10.below hS
  replace he11 := he11.below hS
  refine hK _ _ hC ?_
  clear hS hb hB36 hK K
  try simp only [Act.put, List.setIfInBounds_toArray, List.set_cons_zero, List.set_cons_succ]
  repeat (first | (refine wpPlanA_skip _ rfl (by rfl) ?_; simp only [Act.put, List.setIfInBounds_toArray, List.set_cons_zero, List.set_cons_succ]) | (refine wpPlanA_soft _ ?_ rfl (by rfl) ?_ ?_; rotate_left; (intro wq hq hcq; go_simp; first | exact rfl | exact ⟨rfl, rfl⟩); simp only [Act.put, List.setIfInBounds_toArray, List.set_cons_zero, List.set_cons_succ]))
  clear hr8
  clear hp9
  clear hd10
  clear he11
  clear hT
  clear qhT0_0 qhT0_1 qhT0_2 qhT1_0 qhT1_1 qhT1_2 qhT1_3 qhT2_0 qhT2_1 qhT2_2 qhT2_3 qhT2_4 qhT2_5
  refine wpPlanA_nil (fun w39 hS => ?_)
  clear hC zhT0 zhT1 zhT2
  have hB39 := hB38.call hS rfl
  replace hT0 := blkb hT0 hS
  replace hT1 := blkb hT1 hS
  replace hT2 := blkb hT2 hS
  replace H := H.below hS
  replace HP := HP.below hS
  replace HD := HD.below hS
  replace HE := HE.below hS
  replace HM := HM.below hS
  replace hst := hst.below hS
  clear hS hB38
  have qhT0_0 : w39.cell? ⟨w.heap.size, 0, none⟩ = some (.int .i64 c) := cell_at hT0 rfl
  have qhT0_1 : w39.cell? ⟨w.heap.size, 1, none⟩ = some (.int .i64 r) := cell_at hT0 rfl
  have qhT0_2 : w39.cell? ⟨w.heap.size, 2, none⟩ = some (.slice A n cap) := cell_at hT0 rfl
  have qhT1_0 : w39.cell? ⟨w.heap.size + 1, 0, none⟩ = some (.int .i64 un) := cell_at hT1 rfl
  have qhT1_1 : w39.cell? ⟨w.heap.size + 1, 1, none⟩ = some (.int .i64 len) := cell_at hT1 rfl
  have qhT1_2 : w39.cell? ⟨w.heap.size + 1, 2, none⟩ = some (.int .i64 most) := cell_at hT1 rfl
  have qhT1_3 : w39.cell? ⟨w.heap.size + 1, 3, none⟩ = some (.slice P np capp) := cell_at hT1 rfl
  have qhT2_0 : w39.cell? ⟨w.heap.size + 1 + 1, 0, none⟩ = some (.slice D np cd) := cell_at hT2 rfl
  have qhT2_1 : w39.cell? ⟨w.heap.size + 1 + 1, 1, none⟩ = some (.slice E np ce) := cell_at hT2 rfl
  have qhT2_2 : w39.cell? ⟨w.heap.size + 1 + 1, 2, none⟩ = some (.slice M n cm) := cell_at hT2 rfl
  have qhT2_3 : w39.cell? ⟨w.heap.size + 1 + 1, 3, none⟩ = some (.int .i64 s) := cell_at hT2 rfl
  have qhT2_4 : w39.cell? ⟨w.heap.size + 1 + 1, 4, none⟩ = some (.int .i64 f) := cell_at hT2 rfl
  have qhT2_5 : w39.cell? ⟨w.heap.size + 1 + 1, 5, none⟩ = some (.int .i64 i) := cell_at hT2 rfl
  go_wp2_with fail
  refine wp_region_plan [(0, true), (2, true), (4, true), (5, true), (7, true), (8, true), (1, false), (3, false), (6, false), (9, false), (10, false), (11, true), (12, true), (13, true), (14, true), (15, true)] w39.heap.size (by kernel_rfl) (by kernel_rfl) (Nat.le_refl _) (fun _ _ d _ _ h => by cases d <;> exact h) ?_
  have hC : Below w39.heap.size w39 w39 := Below.refl _ _
  have zhT0 : w.heap.size < w39.heap.size := (Array.getElem?_eq_some_iff.1 hT0).1
  have zhT1 : w.heap.size + 1 < w39.heap.size := (Array.getElem?_eq_some_iff.1 hT1).1
  have zhT2 : w.heap.size + 1 + 1 < w39.heap.size := (Array.getElem?_eq_some_iff.1 hT2).1
  repeat (first | (refine wpPlanA_skip _ rfl (by rfl) ?_; simp only [Act.put, List.setIfInBounds_toArray, List.set_cons_zero, List.set_cons_succ]) | (refine wpPlanA_soft _ ?_ rfl (by rfl) ?_ ?_; rotate_left; (intro wq hq hcq; go_simp; first | exact rfl | exact ⟨rfl, rfl⟩); simp only [Act.put, List.setIfInBounds_toArray, List.set_cons_zero, List.set_cons_succ]))
  refine wpPlanA_hard _ rfl (by rfl) (fun w40 hS K hK => ?_)
  go_simp
  refine (c20d c r A n cap l _ hl (H.below hS)).mono ?_
  rintro e w41 ⟨B12, cb12, rfl, hr12, hb⟩
  replace hS := hS.call hb rfl
  have hB41 := hB39.call hS rfl
  replace hC := hC.call hS rfl
  replace hT0 := blkb hT0 hS
  replace hT1 := blkb hT1 hS
  replace hT2 := blkb hT2 hS
  replace H := H.below hS
  replace HP := HP.below hS
  replace HD := HD.below hS
  replace HE := HE.below hS
  replace HM := HM.below hS
  replace hst := hst.below hS
  refine hK _ _ hC ?_
  clear hS hb hB39 hK K
  try simp only [Act.put, List.setIfInBounds_toArray, List.set_cons_zero, List.set_cons_succ]
  refine wpPlanA_hard _ rfl (by rfl) (fun w42 hS K hK => ?_)
  go_simp
  refine (c21d un len most P np capp ps _ hp (HP.below hS)).mono ?_
  rintro e w43 ⟨P13, pc13, rfl, ⟨hp13, hq13⟩, hb⟩
  replace hS := hS.call hb rfl
  have hB43 := hB41.call hS rfl
  replace hC := hC.call hS rfl
  replace hT0 := blkb hT0 hS
  replace hT1 := blkb hT1 hS
  replace hT2 := blkb hT2 hS
  replace H := H.below hS
  replace HP := HP.below hS
  replace HD := HD.below hS
  replace HE := HE.below hS
  replace HM := HM.below hS
  replace hst := hst.below hS
  replace hr12 := hr12.below hS
  refine hK _ _ hC ?_
  clear hS hb hB41 hK K
  try simp only [Act.put, List.setIfInBounds_toArray, List.set_cons_zero, List.set_cons_succ]
  refine wpPlanA_hard _ rfl (by rfl) (fun w44 hS K hK => ?_)
  go_simp
  refine (c33d D np cd dl _ h5 HD45'.out (HD.below hS)).mono ?_
  rintro e w45 ⟨F14, fc14, rfl, he14, hb⟩
  replace hS := hS.call hb rfl
  have hB45 := hB43.call hS rfl
  replace hC := hC.call hS rfl
  replace hT0 := blkb hT0 hS
  replace hT1 := blkb hT1 hS
  replace hT2 := blkb hT2 hS
  replace H := H.below hS
  replace HP := HP.below hS
  replace HD := HD.below hS
  replace HE := HE.below hS
  replace HM := HM.below hS
  replace hst := hst.below hS
  replace hr12 := hr12.below hS
  replace hp13 := hp13.below hS
  refine hK _ _ hC ?_
  clear hS hb hB43 hK K
  try simp only [Act.put, List.setIfInBounds_toArray, List.set_cons_zero, List.set_cons_succ]
  refine wpPlanA_hard _ rfl (by rfl) (fun w46 hS K hK => ?_)
  go_simp
  refine (c33d E np ce el _ h5 HE45.out (HE.below hS)).mono ?_
  rintro e w47 ⟨F15, fc15, rfl, he15, hb⟩
  replace hS := hS.call hb rfl
  have hB47 := hB45.call hS rfl
  replace hC := hC.call hS rfl
  replace hT0 := blkb hT0 hS
  replace hT1 := blkb hT1 hS
  replace hT2 := blkb hT2 hS
  replace H := H.below hS
  replace HP := HP.below hS
  replace HD := HD.below hS
  replace HE := HE.below hS
  replace HM := HM.below hS
  replace hst := hst.below hS
  replace hr12 := hr12.below hS
  replace hp13 := hp13.below hS
  replace he14 := he14.below hS
  refine hK _ _ hC ?_
  clear hS hb hB45 hK K
  try simp only [Act.put, List.setIfInBounds_toArray, List.set_cons_zero, List.set_cons_succ]
  refine wpPlanA_hard _ rfl (by rfl) (fun w48 hS K hK => ?_)
  go_simp
  refine (K34.out _ _ _ _ _ _ _ _ _ hq13 (hr12.below hS) (hp13.below hS) (he14.below hS) (he15.below hS) (hst.below hS)).mono ?_
  rintro e w49 ⟨rfl, hb⟩
  replace hS := hS.call hb rfl
  have hB49 := hB47.call hS rfl
  replace hC := hC.call hS rfl
  replace hT0 := blkb hT0 hS
  replace hT1 := blkb hT1 hS
  replace hT2 := blkb hT2 hS
  replace H := H.below hS
  replace HP := HP.below hS
  replace HD := HD.below hS
  replace HE := HE.below hS
  replace HM := HM.below hS
  replace hst := hst.below hS
  replace hr12 := hr12.below hS
  replace hp13 := hp13.below hS
  replace he14 := he14.below hS
  replace he15 := he15.below hS
  refine hK _ _ hC ?_
  clear hS hb hB47 hK K
  try simp only [Act.put, List.setIfInBounds_toArray, List.set_cons_zero, List.set_cons_succ]
  repeat (first | (refine wpPlanA_skip _ rfl (by rfl) ?_; simp only [Act.put, List.setIfInBounds_toArray, List.set_cons_zero, List.set_cons_succ]) | (refine wpPlanA_soft _ ?_ rfl (by rfl) ?_ ?_; rotate_left; (intro wq hq hcq; go_simp; first | exact rfl | exact ⟨rfl, rfl⟩); simp only [Act.put, List.setIfInBounds_toArray, List.set_cons_zero, List.set_cons_succ]))
  clear hr12
  clear hp13
  clear he14
  clear he15
  clear qhT0_0 qhT0_1 qhT0_2 qhT1_0 qhT1_1 qhT1_2 qhT1_3 qhT2_0 qhT2_1 qhT2_2 qhT2_3 qhT2_4 qhT2_5
  refine wpPlanA_nil (fun w50 hS => ?_)
  clear hC zhT0 zhT1 zhT2
  have hB50 := hB49.call hS rfl
  replace hT0 := blkb hT0 hS
  replace hT1 := blkb hT1 hS
  replace hT2 := blkb hT2 hS
  replace H := H.below hS
  replace HP := HP.below hS
  replace HD := HD.below hS
  replace HE := HE.below hS
  replace HM := HM.below hS
  replace hst := hst.below hS
  clear hS hB49
  have qhT0_0 : w50.cell? ⟨w.heap.size, 0, none⟩ = some (.int .i64 c) := cell_at hT0 rfl
  have qhT0_1 : w50.cell? ⟨w.heap.size, 1, none⟩ = some (.int .i64 r) := cell_at hT0 rfl
  have qhT0_2 : w50.cell? ⟨w.heap.size, 2, none⟩ = some (.slice A n cap) := cell_at hT0 rfl
  have qhT1_0 : w50.cell? ⟨w.heap.size + 1, 0, none⟩ = some (.int .i64 un) := cell_at hT1 rfl
  have qhT1_1 : w50.cell? ⟨w.heap.size + 1, 1, none⟩ = some (.int .i64 len) := cell_at hT1 rfl
  have qhT1_2 : w50.cell? ⟨w.heap.size + 1, 2, none⟩ = some (.int .i64 most) := cell_at hT1 rfl
  have qhT1_3 : w50.cell? ⟨w.heap.size + 1, 3, none⟩ = some (.slice P np capp) := cell_at hT1 rfl
  have qhT2_0 : w50.cell? ⟨w.heap.size + 1 + 1, 0, none⟩ = some (.slice D np cd) := cell_at hT2 rfl
  have qhT2_1 : w50.cell? ⟨w.heap.size + 1 + 1, 1, none⟩ = some (.slice E np ce) := cell_at hT2 rfl
  have qhT2_2 : w50.cell? ⟨w.heap.size + 1 + 1, 2, none⟩ = some (.slice M n cm) := cell_at hT2 rfl
  have qhT2_3 : w50.cell? ⟨w.heap.size + 1 + 1, 3, none⟩ = some (.int .i64 s) := cell_at hT2 rfl
  have qhT2_4 : w50.cell? ⟨w.heap.size + 1 + 1, 4, none⟩ = some (.int .i64 f) := cell_at hT2 rfl
  have qhT2_5 : w50.cell? ⟨w.heap.size + 1 + 1, 5, none⟩ = some (.int .i64 i) := cell_at hT2 rfl
  rcases HBE.out with ⟨hbe, hle⟩ | hbe
  ·
      subst hbe
      have hdb : decide (MIS < BV) = false := by simpa using hle
      clear hle
      go_wp2_with fail
      refine wp_region_plan [(0, true), (2, true), (4, true), (5, true), (7, true), (8, true), (1, false), (3, false), (6, false), (9, false), (10, false), (11, true), (12, true), (13, true), (14, true), (15, true)] w50.heap.size (by kernel_rfl) (by kernel_rfl) (Nat.le_refl _) (fun _ _ d _ _ h => by cases d <;> exact h) ?_
      have hC : Below w50.heap.size w50 w50 := Below.refl _ _
      have zhT0 : w.heap.size < w50.heap.size := (Array.getElem?_eq_some_iff.1 hT0).1
      have zhT1 : w.heap.size + 1 < w50.heap.size := (Array.getElem?_eq_some_iff.1 hT1).1
      have zhT2 : w.heap.size + 1 + 1 < w50.heap.size := (Array.getElem?_eq_some_iff.1 hT2).1
      repeat (first | (refine wpPlanA_skip _ rfl (by rfl) ?_; simp only [Act.put, List.setIfInBounds_toArray, List.set_cons_zero, List.set_cons_succ]) | (refine wpPlanA_soft _ ?_ rfl (by rfl) ?_ ?_; rotate_left; (intro wq hq hcq; go_simp; first | exact rfl | exact ⟨rfl, rfl⟩); simp only [Act.put, List.setIfInBounds_toArray, List.set_cons_zero, List.set_cons_succ]))
      refine wpPlanA_hard _ rfl (by rfl) (fun w51 hS K hK => ?_)
      go_simp
      refine (c20d c r A n cap l _ hl (H.below hS)).mono ?_
      rintro e w52 ⟨B16, cb16, rfl, hr16, hb⟩
      replace hS := hS.call hb rfl
      have hB52 := hB50.call hS rfl
      replace hC := hC.call hS rfl
      replace hT0 := blkb hT0 hS
      replace hT1 := blkb hT1 hS
      replace hT2 := blkb hT2 hS
      replace H := H.below hS
      replace HP := HP.below hS
      replace HD := HD.below hS
      replace HE := HE.below hS
      replace HM := HM.below hS
      replace hst := hst.below hS
      refine hK _ _ hC ?_
      clear hS hb hB50 hK K
      try simp only [Act.put, List.setIfInBounds_toArray, List.set_cons_zero, List.set_cons_succ]
      refine wpPlanA_hard _ rfl (by rfl) (fun w53 hS K hK => ?_)
      go_simp
      refine (c21d un len most P np capp ps _ hp (HP.below hS)).mono ?_
      rintro e w54 ⟨P17, pc17, rfl, ⟨hp17, hq17⟩, hb⟩
      replace hS := hS.call hb rfl
      have hB54 := hB52.call hS rfl
      replace hC := hC.call hS rfl
      replace hT0 := blkb hT0 hS
      replace hT1 := blkb hT1 hS
      replace hT2 := blkb hT2 hS
      replace H := H.below hS
      replace HP := HP.below hS
      replace HD := HD.below hS
      replace HE := HE.below hS
      replace HM := HM.below hS
      replace hst := hst.below hS
      replace hr16 := hr16.below hS
      refine hK _ _ hC ?_
      clear hS hb hB52 hK K
      try simp only [Act.put, List.setIfInBounds_toArray, List.set_cons_zero, List.set_cons_succ]
      refine wpPlanA_hard _ rfl (by rfl) (fun w55 hS K hK => ?_)
      go_simp
      refine (c33d E np ce el _ h5 HE45.out (HE.below hS)).mono ?_
      rintro e w56 ⟨F18, fc18, rfl, he18, hb⟩
      replace hS := hS.call hb rfl
      have hB56 := hB54.call hS rfl
      replace hC := hC.call hS rfl
      replace hT0 := blkb hT0 hS
      replace hT1 := blkb hT1 hS
      replace hT2 := blkb hT2 hS
      replace H := H.below hS
      replace HP := HP.below hS
      replace HD := HD.below hS
      replace HE := HE.below hS
      replace HM := HM.below hS
      replace hst := hst.below hS
      replace hr16 := hr16.below hS
      replace hp17 := hp17.below hS
      refine hK _ _ hC ?_
      clear hS hb hB54 hK K
      try simp only [Act.put, List.setIfInBounds_toArray, List.set_cons_zero, List.set_cons_succ]
      refine wpPlanA_hard _ rfl (by rfl) (fun w57 hS K hK => ?_)
      go_simp
      refine (c33d E np ce el _ h5 HE45.out (HE.below hS)).mono ?_
      rintro e w58 ⟨F19, fc19, rfl, he19, hb⟩
      replace hS := hS.call hb rfl
      have hB58 := hB56.call hS rfl
      replace hC := hC.call hS rfl
      replace hT0 := blkb hT0 hS
      replace hT1 := blkb hT1 hS
      replace hT2 := blkb hT2 hS
      replace H := H.below hS
      replace HP := HP.below hS
      replace HD := HD.below hS
      replace HE := HE.below hS
      replace HM := HM.below hS
      replace hst := hst.below hS
      replace hr16 := hr16.below hS
      replace hp17 := hp17.below hS
      replace he18 := he18.below hS
      refine hK _ _ hC ?_
      clear hS hb hB56 hK K
      try simp only [Act.put, List.setIfInBounds_toArray, List.set_cons_zero, List.set_cons_succ]
      refine wpPlanA_hard _ rfl (by rfl) (fun w59 hS K hK => ?_)
      go_simp
      refine (K34e.out trivial _ _ _ _ _ _ _ _ _ hq17 (hr16.below hS) (hp17.below hS) (he18.below hS) (he19.below hS) (hst.below hS)).mono ?_
      rintro e w60 ⟨rfl, hb⟩
      replace hS := hS.call hb rfl
      have hB60 := hB58.call hS rfl
      replace hC := hC.call hS rfl
      replace hT0 := blkb hT0 hS
      replace hT1 := blkb hT1 hS
      replace hT2 := blkb hT2 hS
      replace H := H.below hS
      replace HP := HP.below hS
      replace HD := HD.below hS
      replace HE := HE.below hS
      replace HM := HM.below hS
      replace hst := hst.below hS
      replace hr16 := hr16.below hS
      replace hp17 := hp17.below hS
      replace he18 := he18.below hS
      replace he19 := he19.below hS
      refine hK _ _ hC ?_
      clear hS hb hB58 hK K
      try simp only [Act.put, List.setIfInBounds_toArray, List.set_cons_zero, List.set_cons_succ]
      repeat (first | (refine wpPlanA_skip _ rfl (by rfl) ?_; simp only [Act.put, List.setIfInBounds_toArray, List.set_cons_zero, List.set_cons_succ]) | (refine wpPlanA_soft _ ?_ rfl (by rfl) ?_ ?_; rotate_left; (intro wq hq hcq; go_simp; first | exact rfl | exact ⟨rfl, rfl⟩); simp only [Act.put, List.setIfInBounds_toArray, List.set_cons_zero, List.set_cons_succ]))
      clear hr16
      clear hp17
      clear he18
      clear he19
      clear qhT0_0 qhT0_1 qhT0_2 qhT1_0 qhT1_1 qhT1_2 qhT1_3 qhT2_0 qhT2_1 qhT2_2 qhT2_3 qhT2_4 qhT2_5
      refine wpPlanA_nil (fun w61 hS => ?_)
      clear hC zhT0 zhT1 zhT2
      have hB61 := hB60.call hS rfl
      replace hT0 := blkb hT0 hS
      replace hT1 := blkb hT1 hS
      replace hT2 := blkb hT2 hS
      replace H := H.below hS
      replace HP := HP.below hS
      replace HD := HD.below hS
      replace HE := HE.below hS
      replace HM := HM.below hS
      replace hst := hst.below hS
      clear hS hB60
      have qhT0_0 : w61.cell? ⟨w.heap.size, 0, none⟩ = some (.int .i64 c) := cell_at hT0 rfl
      have qhT0_1 : w61.cell? ⟨w.heap.size, 1, none⟩ = some (.int .i64 r) := cell_at hT0 rfl
      have qhT0_2 : w61.cell? ⟨w.heap.size, 2, none⟩ = some (.slice A n cap) := cell_at hT0 rfl
      have qhT1_0 : w61.cell? ⟨w.heap.size + 1, 0, none⟩ = some (.int .i64 un) := cell_at hT1 rfl
      have qhT1_1 : w61.cell? ⟨w.heap.size + 1, 1, none⟩ = some (.int .i64 len) := cell_at hT1 rfl
      have qhT1_2 : w61.cell? ⟨w.heap.size + 1, 2, none⟩ = some (.int .i64 most) := cell_at hT1 rfl
      have qhT1_3 : w61.cell? ⟨w.heap.size + 1, 3, none⟩ = some (.slice P np capp) := cell_at hT1 rfl
      have qhT2_0 : w61.cell? ⟨w.heap.size + 1 + 1, 0, none⟩ = some (.slice D np cd) := cell_at hT2 rfl
      have qhT2_1 : w61.cell? ⟨w.heap.size + 1 + 1, 1, none⟩ = some (.slice E np ce) := cell_at hT2 rfl
      have qhT2_2 : w61.cell? ⟨w.heap.size + 1 + 1, 2, none⟩ = some (.slice M n cm) := cell_at hT2 rfl
      have qhT2_3 : w61.cell? ⟨w.heap.size + 1 + 1, 3, none⟩ = some (.int .i64 s) := cell_at hT2 rfl
      have qhT2_4 : w61.cell? ⟨w.heap.size + 1 + 1, 4, none⟩ = some (.int .i64 f) := cell_at hT2 rfl
      have qhT2_5 : w61.cell? ⟨w.heap.size + 1 + 1, 5, none⟩ = some (.int .i64 i) := cell_at hT2 rfl
      go_wp2_with fail
      refine wp_region_plan [(0, true), (2, true), (4, true), (5, true), (1, false), (3, false), (6, false), (7, false), (8, true), (9, true), (10, true), (11, true), (12, true)] w61.heap.size (by kernel_rfl) (by kernel_rfl) (Nat.le_refl _) (fun _ _ d _ _ h => by cases d <;> exact h) ?_
      have hC : Below w61.heap.size w61 w61 := Below.refl _ _
      have zhT0 : w.heap.size < w61.heap.size := (Array.getElem?_eq_some_iff.1 hT0).1
      have zhT1 : w.heap.size + 1 < w61.heap.size := (Array.getElem?_eq_some_iff.1 hT1).1
      have zhT2 : w.heap.size + 1 + 1 < w61.heap.size := (Array.getElem?_eq_some_iff.1 hT2).1
      repeat (first | (refine wpPlanA_skip _ rfl (by rfl) ?_; simp only [Act.put, List.setIfInBounds_toArray, List.set_cons_zero, List.set_cons_succ]) | (refine wpPlanA_soft _ ?_ rfl (by rfl) ?_ ?_; rotate_left; (intro wq hq hcq; go_simp; first | exact rfl | exact ⟨rfl, rfl⟩); simp only [Act.put, List.setIfInBounds_toArray, List.set_cons_zero, List.set_cons_succ]))
      refine wpPlanA_hard _ rfl (by rfl) (fun w62 hS K hK => ?_)
      go_simp
      refine (c20d c r A n cap l _ hl (H.below hS)).mono ?_
      rintro e w63 ⟨B20, cb20, rfl, hr20, hb⟩
      replace hS := hS.call hb rfl
      have hB63 := hB61.call hS rfl
      replace hC := hC.call hS rfl
      replace hT0 := blkb hT0 hS
      replace hT1 := blkb hT1 hS
      replace hT2 := blkb hT2 hS
      replace H := H.below hS
      replace HP := HP.below hS
      replace HD := HD.below hS
      replace HE := HE.below hS
      replace HM := HM.below hS
      replace hst := hst.below hS
      refine hK _ _ hC ?_
      clear hS hb hB61 hK K
      try simp only [Act.put, List.setIfInBounds_toArray, List.set_cons_zero, List.set_cons_succ]
      refine wpPlanA_hard _ rfl (by rfl) (fun w64 hS K hK => ?_)
      go_simp
      refine (c21d un len most P np capp ps _ hp (HP.below hS)).mono ?_
      rintro e w65 ⟨P21, pc21, rfl, ⟨hp21, hq21⟩, hb⟩
      replace hS := hS.call hb rfl
      have hB65 := hB63.call hS rfl
      replace hC := hC.call hS rfl
      replace hT0 := blkb hT0 hS
      replace hT1 := blkb hT1 hS
      replace hT2 := blkb hT2 hS
      replace H := H.below hS
      replace HP := HP.below hS
      replace HD := HD.below hS
      replace HE := HE.below hS
      replace HM := HM.below hS
      replace hst := hst.below hS
      replace hr20 := hr20.below hS
      refine hK _ _ hC ?_
      clear hS hb hB63 hK K
      try simp only [Act.put, List.setIfInBounds_toArray, List.set_cons_zero, List.set_cons_succ]
      refine wpPlanA_hard _ rfl (by rfl) (fun w66 hS K hK => ?_)
      go_simp
      refine (c33d E np ce el _ h5 HE45.out (HE.below hS)).mono ?_
      rintro e w67 ⟨F22, fc22, rfl, he22, hb⟩
      replace hS := hS.call hb rfl
      have hB67 := hB65.call hS rfl
      replace hC := hC.call hS rfl
      replace hT0 := blkb hT0 hS
      replace hT1 := blkb hT1 hS
      replace hT2 := blkb hT2 hS
      replace H := H.below hS
      replace HP := HP.below hS
      replace HD := HD.below hS
      replace HE := HE.below hS
      replace HM := HM.below hS
      replace hst := hst.below hS
      replace hr20 := hr20.below hS
      replace hp21 := hp21.below hS
      refine hK _ _ hC ?_
      clear hS hb hB65 hK K
      try simp only [Act.put, List.setIfInBounds_toArray, List.set_cons_zero, List.set_cons_succ]
      refine wpPlanA_hard _ rfl (by rfl) (fun w68 hS K hK => ?_)
      go_simp
      refine (K49.out _ _ _ _ _ _ _ (hr20.below hS) (hp21.below hS) (he22.below hS)).mono ?_
      rintro e w69 ⟨FF, ffc, rfl, hFF, hb⟩
      replace hS := hS.call hb rfl
      have hB69 := hB67.call hS rfl
      replace hC := hC.call hS rfl
      replace hT0 := blkb hT0 hS
      replace hT1 := blkb hT1 hS
      replace hT2 := blkb hT2 hS
      replace H := H.below hS
      replace HP := HP.below hS
      replace HD := HD.below hS
      replace HE := HE.below hS
      replace HM := HM.below hS
      replace hst := hst.below hS
      replace hr20 := hr20.below hS
      replace hp21 := hp21.below hS
      replace he22 := he22.below hS
      refine hK _ _ hC ?_
      clear hS hb hB67 hK K
      try simp only [Act.put, List.setIfInBounds_toArray, List.set_cons_zero, List.set_cons_succ]
      repeat (first | (refine wpPlanA_skip _ rfl (by rfl) ?_; simp only [Act.put, List.setIfInBounds_toArray, List.set_cons_zero, List.set_cons_succ]) | (refine wpPlanA_soft _ ?_ rfl (by rfl) ?_ ?_; rotate_left; (intro wq hq hcq; go_simp; first | exact rfl | exact ⟨rfl, rfl⟩); simp only [Act.put, List.setIfInBounds_toArray, List.set_cons_zero, List.set_cons_succ]))
      clear hr20
      clear hp21
      clear he22
      clear qhT0_0 qhT0_1 qhT0_2 qhT1_0 qhT1_1 qhT1_2 qhT1_3 qhT2_0 qhT2_1 qhT2_2 qhT2_3 qhT2_4 qhT2_5
      refine wpPlanA_nil (fun w70 hS => ?_)
      clear hC zhT0 zhT1 zhT2
      have hB70 := hB69.call hS rfl
      replace hT0 := blkb hT0 hS
      replace hT1 := blkb hT1 hS
      replace hT2 := blkb hT2 hS
      replace H := H.below hS
      replace HP := HP.below hS
      replace HD := HD.below hS
      replace HE := HE.below hS
      replace HM := HM.below hS
      replace hst := hst.below hS
      replace hFF := hFF.below hS
      clear hS hB69
      have qhT0_0 : w70.cell? ⟨w.heap.size, 0, none⟩ = some (.int .i64 c) := cell_at hT0 rfl
      have qhT0_1 : w70.cell? ⟨w.heap.size, 1, none⟩ = some (.int .i64 r) := cell_at hT0 rfl
      have qhT0_2 : w70.cell? ⟨w.heap.size, 2, none⟩ = some (.slice A n cap) := cell_at hT0 rfl
      have qhT1_0 : w70.cell? ⟨w.heap.size + 1, 0, none⟩ = some (.int .i64 un) := cell_at hT1 rfl
      have qhT1_1 : w70.cell? ⟨w.heap.size + 1, 1, none⟩ = some (.int .i64 len) := cell_at hT1 rfl
      have qhT1_2 : w70.cell? ⟨w.heap.size + 1, 2, none⟩ = some (.int .i64 most) := cell_at hT1 rfl
      have qhT1_3 : w70.cell? ⟨w.heap.size + 1, 3, none⟩ = some (.slice P np capp) := cell_at hT1 rfl
      have qhT2_0 : w70.cell? ⟨w.heap.size + 1 + 1, 0, none⟩ = some (.slice D np cd) := cell_at hT2 rfl
      have qhT2_1 : w70.cell? ⟨w.heap.size + 1 + 1, 1, none⟩ = some (.slice E np ce) := cell_at hT2 rfl
      have qhT2_2 : w70.cell? ⟨w.heap.size + 1 + 1, 2, none⟩ = some (.slice M n cm) := cell_at hT2 rfl
      have qhT2_3 : w70.cell? ⟨w.heap.size + 1 + 1, 3, none⟩ = some (.int .i64 s) := cell_at hT2 rfl
      have qhT2_4 : w70.cell? ⟨w.heap.size + 1 + 1, 4, none⟩ = some (.int .i64 f) := cell_at hT2 rfl
      have qhT2_5 : w70.cell? ⟨w.heap.size + 1 + 1, 5, none⟩ = some (.int .i64 i) := cell_at hT2 rfl
      go_wp2_with fail
      refine (c22d _ N _ ef _ hN hFF).mono ?_
      rintro e w71 ⟨D23, dc23, rfl, hd23, hb⟩
      clear qhT0_0 qhT0_1 qhT0_2 qhT1_0 qhT1_1 qhT1_2 qhT1_3 qhT2_0 qhT2_1 qhT2_2 qhT2_3 qhT2_4 qhT2_5
      have hS := hb
      have hB71 := hB70.call hS rfl
      replace hT0 := blkb hT0 hS
      replace hT1 := blkb hT1 hS
      replace hT2 := blkb hT2 hS
      replace H := H.below hS
      replace HP := HP.below hS
      replace HD := HD.below hS
      replace HE := HE.below hS
      replace HM := HM.below hS
      replace hst := hst.below hS
      replace hFF := hFF.below hS
      clear hS hB70
      have qhT0_0 : w71.cell? ⟨w.heap.size, 0, none⟩ = some (.int .i64 c) := cell_at hT0 rfl
      have qhT0_1 : w71.cell? ⟨w.heap.size, 1, none⟩ = some (.int .i64 r) := cell_at hT0 rfl
      have qhT0_2 : w71.cell? ⟨w.heap.size, 2, none⟩ = some (.slice A n cap) := cell_at hT0 rfl
      have qhT1_0 : w71.cell? ⟨w.heap.size + 1, 0, none⟩ = some (.int .i64 un) := cell_at hT1 rfl
      have qhT1_1 : w71.cell? ⟨w.heap.size + 1, 1, none⟩ = some (.int .i64 len) := cell_at hT1 rfl
      have qhT1_2 : w71.cell? ⟨w.heap.size + 1, 2, none⟩ = some (.int .i64 most) := cell_at hT1 rfl
      have qhT1_3 : w71.cell? ⟨w.heap.size + 1, 3, none⟩ = some (.slice P np capp) := cell_at hT1 rfl
      have qhT2_0 : w71.cell? ⟨w.heap.size + 1 + 1, 0, none⟩ = some (.slice D np cd) := cell_at hT2 rfl
      have qhT2_1 : w71.cell? ⟨w.heap.size + 1 + 1, 1, none⟩ = some (.slice E np ce) := cell_at hT2 rfl
      have qhT2_2 : w71.cell? ⟨w.heap.size + 1 + 1, 2, none⟩ = some (.slice M n cm) := cell_at hT2 rfl
      have qhT2_3 : w71.cell? ⟨w.heap.size + 1 + 1, 3, none⟩ = some (.int .i64 s) := cell_at hT2 rfl
      have qhT2_4 : w71.cell? ⟨w.heap.size + 1 + 1, 4, none⟩ = some (.int .i64 f) := cell_at hT2 rfl
      have qhT2_5 : w71.cell? ⟨w.heap.size + 1 + 1, 5, none⟩ = some (.int .i64 i) := cell_at hT2 rfl
      clear hb
      go_wp2_with fail
      refine (c22d _ N _ ef _ hN hFF).mono ?_
      rintro e w72 ⟨D24, dc24, rfl, hd24, hb⟩
      clear qhT0_0 qhT0_1 qhT0_2 qhT1_0 qhT1_1 qhT1_2 qhT1_3 qhT2_0 qhT2_1 qhT2_2 qhT2_3 qhT2_4 qhT2_5
      have hS := hb
      have hB72 := hB71.call hS rfl
      replace hT0 := blkb hT0 hS
      replace hT1 := blkb hT1 hS
      replace hT2 := blkb hT2 hS
      replace H := H.below hS
      replace HP := HP.below hS
      replace HD := HD.below hS
      replace HE := HE.below hS
      replace HM := HM.below hS
      replace hst := hst.below hS
      replace hFF := hFF.below hS
      replace hd23 := hd23.below hS
      clear hS hB71
      have qhT0_0 : w72.cell? ⟨w.heap.size, 0, none⟩ = some (.int .i64 c) := cell_at hT0 rfl
      have qhT0_1 : w72.cell? ⟨w.heap.size, 1, none⟩ = some (.int .i64 r) := cell_at hT0 rfl
      have qhT0_2 : w72.cell? ⟨w.heap.size, 2, none⟩ = some (.slice A n cap) := cell_at hT0 rfl
      have qhT1_0 : w72.cell? ⟨w.heap.size + 1, 0, none⟩ = some (.int .i64 un) := cell_at hT1 rfl
      have qhT1_1 : w72.cell? ⟨w.heap.size + 1, 1, none⟩ = some (.int .i64 len) := cell_at hT1 rfl
      have qhT1_2 : w72.cell? ⟨w.heap.size + 1, 2, none⟩ = some (.int .i64 most) := cell_at hT1 rfl
      have qhT1_3 : w72.cell? ⟨w.heap.size + 1, 3, none⟩ = some (.slice P np capp) := cell_at hT1 rfl
      have qhT2_0 : w72.cell? ⟨w.heap.size + 1 + 1, 0, none⟩ = some (.slice D np cd) := cell_at hT2 rfl
      have qhT2_1 : w72.cell? ⟨w.heap.size + 1 + 1, 1, none⟩ = some (.slice E np ce) := cell_at hT2 rfl
      have qhT2_2 : w72.cell? ⟨w.heap.size + 1 + 1, 2, none⟩ = some (.slice M n cm) := cell_at hT2 rfl
      have qhT2_3 : w72.cell? ⟨w.heap.size + 1 + 1, 3, none⟩ = some (.int .i64 s) := cell_at hT2 rfl
      have qhT2_4 : w72.cell? ⟨w.heap.size + 1 + 1, 4, none⟩ = some (.int .i64 f) := cell_at hT2 rfl
      have qhT2_5 : w72.cell? ⟨w.heap.size + 1 + 1, 5, none⟩ = some (.int .i64 i) := cell_at hT2 rfl
      clear hb
      go_wp2_with fail
      refine (K40.out _ _ _ _ _ hd23 hd24).mono ?_
      rintro e w73 ⟨rfl, hb⟩
      clear qhT0_0 qhT0_1 qhT0_2 qhT1_0 qhT1_1 qhT1_2 qhT1_3 qhT2_0 qhT2_1 qhT2_2 qhT2_3 qhT2_4 qhT2_5
      have hS := hb
      have hB73 := hB72.call hS rfl
      replace hT0 := blkb hT0 hS
      replace hT1 := blkb hT1 hS
      replace hT2 := blkb hT2 hS
      replace H := H.below hS
      replace HP := HP.below hS
      replace HD := HD.below hS
      replace HE := HE.below hS
      replace HM := HM.below hS
      replace hst := hst.below hS
      replace hFF := hFF.below hS
      replace hd23 := hd23.below hS
      replace hd24 := hd24.below hS
      clear hS hB72
      have qhT0_0 : w73.cell? ⟨w.heap.size, 0, none⟩ = some (.int .i64 c) := cell_at hT0 rfl
      have qhT0_1 : w73.cell? ⟨w.heap.size, 1, none⟩ = some (.int .i64 r) := cell_at hT0 rfl
      have qhT0_2 : w73.cell? ⟨w.heap.size, 2, none⟩ = some (.slice A n cap) := cell_at hT0 rfl
      have qhT1_0 : w73.cell? ⟨w.heap.size + 1, 0, none⟩ = some (.int .i64 un) := cell_at hT1 rfl
      have qhT1_1 : w73.cell? ⟨w.heap.size + 1, 1, none⟩ = some (.int .i64 len) := cell_at hT1 rfl
      have qhT1_2 : w73.cell? ⟨w.heap.size + 1, 2, none⟩ = some (.int .i64 most) := cell_at hT1 rfl
      have qhT1_3 : w73.cell? ⟨w.heap.size + 1, 3, none⟩ = some (.slice P np capp) := cell_at hT1 rfl
      have qhT2_0 : w73.cell? ⟨w.heap.size + 1 + 1, 0, none⟩ = some (.slice D np cd) := cell_at hT2 rfl
      have qhT2_1 : w73.cell? ⟨w.heap.size + 1 + 1, 1, none⟩ = some (.slice E np ce) := cell_at hT2 rfl
      have qhT2_2 : w73.cell? ⟨w.heap.size + 1 + 1, 2, none⟩ = some (.slice M n cm) := cell_at hT2 rfl
      have qhT2_3 : w73.cell? ⟨w.heap.size + 1 + 1, 3, none⟩ = some (.int .i64 s) := cell_at hT2 rfl
      have qhT2_4 : w73.cell? ⟨w.heap.size + 1 + 1, 4, none⟩ = some (.int .i64 f) := cell_at hT2 rfl
      have qhT2_5 : w73.cell? ⟨w.heap.size + 1 + 1, 5, none⟩ = some (.int .i64 i) := cell_at hT2 rfl
      clear hb
      clear hd23
      clear hd24
      clear hFF
      have hee : (ENE != ENE) = false := by simp
      go_wp2_with fail
      refine wp_region_plan [(0, true), (2, true), (4, true), (5, true), (1, false), (3, false), (6, false), (7, false), (8, true), (9, true), (10, true), (11, true), (12, true)] w73.heap.size (by kernel_rfl) (by kernel_rfl) (Nat.le_refl _) (fun _ _ d _ _ h => by cases d <;> exact h) ?_
      have hC : Below w73.heap.size w73 w73 := Below.refl _ _
      have zhT0 : w.heap.size < w73.heap.size := (Array.getElem?_eq_some_iff.1 hT0).1
      have zhT1 : w.heap.size + 1 < w73.heap.size := (Array.getElem?_eq_some_iff.1 hT1).1
      have zhT2 : w.heap.size + 1 + 1 < w73.heap.size := (Array.getElem?_eq_some_iff.1 hT2).1
      repeat (first | (refine wpPlanA_skip _ rfl (by rfl) ?_; simp only [Act.put, List.setIfInBounds_toArray, List.set_cons_zero, List.set_cons_succ]) | (refine wpPlanA_soft _ ?_ rfl (by rfl) ?_ ?_; rotate_left; (intro wq hq hcq; go_simp; first | exact rfl | exact ⟨rfl, rfl⟩); simp only [Act.put, List.setIfInBounds_toArray, List.set_cons_zero, List.set_cons_succ]))
      refine wpPlanA_hard _ rfl (by rfl) (fun w74 hS K hK => ?_)
      go_simp
      refine (c20d c r A n cap l _ hl (H.below hS)).mono ?_
      rintro e w75 ⟨B25, cb25, rfl, hr25, hb⟩
      replace hS := hS.call hb rfl
      have hB75 := hB73.call hS rfl
      replace hC := hC.call hS rfl
      replace hT0 := blkb hT0 hS
      replace hT1 := blkb hT1 hS
      replace hT2 := blkb hT2 hS
      replace H := H.below hS
      replace HP := HP.below hS
      replace HD := HD.below hS
      replace HE := HE.below hS
      replace HM := HM.below hS
      replace hst := hst.below hS
      refine hK _ _ hC ?_
      clear hS hb hB73 hK K
      try simp only [Act.put, List.setIfInBounds_toArray, List.set_cons_zero, List.set_cons_succ]
      refine wpPlanA_hard _ rfl (by rfl) (fun w76 hS K hK => ?_)
      go_simp
      refine (c21d un len most P np capp ps _ hp (HP.below hS)).mono ?_
      rintro e w77 ⟨P26, pc26, rfl, ⟨hp26, hq26⟩, hb⟩
      replace hS := hS.call hb rfl
      have hB77 := hB75.call hS rfl
      replace hC := hC.call hS rfl
      replace hT0 := blkb hT0 hS
      replace hT1 := blkb hT1 hS
      replace hT2 := blkb hT2 hS
      replace H := H.below hS
      replace HP := HP.below hS
      replace HD := HD.below hS
      replace HE := HE.below hS
      replace HM := HM.below hS
      replace hst := hst.below hS
      replace hr25 := hr25.below hS
      refine hK _ _ hC ?_
      clear hS hb hB75 hK K
      try simp only [Act.put, List.setIfInBounds_toArray, List.set_cons_zero, List.set_cons_succ]
      refine wpPlanA_hard _ rfl (by rfl) (fun w78 hS K hK => ?_)
      go_simp
      refine (c33d D np cd dl _ h5 HD45'.out (HD.below hS)).mono ?_
      rintro e w79 ⟨F27, fc27, rfl, he27, hb⟩
      replace hS := hS.call hb rfl
      have hB79 := hB77.call hS rfl
      replace hC := hC.call hS rfl
      replace hT0 := blkb hT0 hS
      replace hT1 := blkb hT1 hS
      replace hT2 := blkb hT2 hS
      replace H := H.below hS
      replace HP := HP.below hS
      replace HD := HD.below hS
      replace HE := HE.below hS
      replace HM := HM.below hS
      replace hst := hst.below hS
      replace hr25 := hr25.below hS
      replace hp26 := hp26.below hS
      refine hK _ _ hC ?_
      clear hS hb hB77 hK K
      try simp only [Act.put, List.setIfInBounds_toArray, List.set_cons_zero, List.set_cons_succ]
      refine wpPlanA_hard _ rfl (by rfl) (fun w80 hS K hK => ?_)
      go_simp
      refine (K50.out _ _ _ _ _ _ _ hq26 (hr25.below hS) (hp26.below hS) (he27.below hS) (hst.below hS)).mono ?_
      rintro e w81 ⟨FI, fic, rfl, hI, hb⟩
      replace hS := hS.call hb rfl
      have hB81 := hB79.call hS rfl
      replace hC := hC.call hS rfl
      replace hT0 := blkb hT0 hS
      replace hT1 := blkb hT1 hS
      replace hT2 := blkb hT2 hS
      replace H := H.below hS
      replace HP := HP.below hS
      replace HD := HD.below hS
      replace HE := HE.below hS
      replace HM := HM.below hS
      replace hst := hst.below hS
      replace hr25 := hr25.below hS
      replace hp26 := hp26.below hS
      replace he27 := he27.below hS
      refine hK _ _ hC ?_
      clear hS hb hB79 hK K
      try simp only [Act.put, List.setIfInBounds_toArray, List.set_cons_zero, List.set_cons_succ]
      repeat (first | (refine wpPlanA_skip _ rfl (by rfl) ?_; simp only [Act.put, List.setIfInBounds_toArray, List.set_cons_zero, List.set_cons_succ]) | (refine wpPlanA_soft _ ?_ rfl (by rfl) ?_ ?_; rotate_left; (intro wq hq hcq; go_simp; first | exact rfl | exact ⟨rfl, rfl⟩); simp only [Act.put, List.setIfInBounds_toArray, List.set_cons_zero, List.set_cons_succ]))
      clear hr25
      clear hp26
      clear he27
      clear qhT0_0 qhT0_1 qhT0_2 qhT1_0 qhT1_1 qhT1_2 qhT1_3 qhT2_0 qhT2_1 qhT2_2 qhT2_3 qhT2_4 qhT2_5
      refine wpPlanA_nil (fun w82 hS => ?_)
      clear hC zhT0 zhT1 zhT2
      have hB82 := hB81.call hS rfl
      replace hT0 := blkb hT0 hS
      replace hT1 := blkb hT1 hS
      replace hT2 := blkb hT2 hS
      replace H := H.below hS
      replace HP := HP.below hS
      replace HD := HD.below hS
      replace HE := HE.below hS
      replace HM := HM.below hS
      replace hst := hst.below hS
      replace hI := hI.below hS
      clear hS hB81
      have qhT0_0 : w82.cell? ⟨w.heap.size, 0, none⟩ = some (.int .i64 c) := cell_at hT0 rfl
      have qhT0_1 : w82.cell? ⟨w.heap.size, 1, none⟩ = some (.int .i64 r) := cell_at hT0 rfl
      have qhT0_2 : w82.cell? ⟨w.heap.size, 2, none⟩ = some (.slice A n cap) := cell_at hT0 rfl
      have qhT1_0 : w82.cell? ⟨w.heap.size + 1, 0, none⟩ = some (.int .i64 un) := cell_at hT1 rfl
      have qhT1_1 : w82.cell? ⟨w.heap.size + 1, 1, none⟩ = some (.int .i64 len) := cell_at hT1 rfl
      have qhT1_2 : w82.cell? ⟨w.heap.size + 1, 2, none⟩ = some (.int .i64 most) := cell_at hT1 rfl
      have qhT1_3 : w82.cell? ⟨w.heap.size + 1, 3, none⟩ = some (.slice P np capp) := cell_at hT1 rfl
      have qhT2_0 : w82.cell? ⟨w.heap.size + 1 + 1, 0, none⟩ = some (.slice D np cd) := cell_at hT2 rfl
      have qhT2_1 : w82.cell? ⟨w.heap.size + 1 + 1, 1, none⟩ = some (.slice E np ce) := cell_at hT2 rfl
      have qhT2_2 : w82.cell? ⟨w.heap.size + 1 + 1, 2, none⟩ = some (.slice M n cm) := cell_at hT2 rfl
      have qhT2_3 : w82.cell? ⟨w.heap.size + 1 + 1, 3, none⟩ = some (.int .i64 s) := cell_at hT2 rfl
      have qhT2_4 : w82.cell? ⟨w.heap.size + 1 + 1, 4, none⟩ = some (.int .i64 f) := cell_at hT2 rfl
      have qhT2_5 : w82.cell? ⟨w.heap.size + 1 + 1, 5, none⟩ = some (.int .i64 i) := cell_at hT2 rfl
      have hne : ((n : Int) != (n : Int)) = false := by simp
      go_wp2_with fail
      go_loopw [23, 227] (fun q k wr => ∃ j : Nat, j ≤ np ∧ k = .int .i64 j ∧ q = .int .i64 (Mo.cnt ((List.range j).map DS) i : Nat) ∧ Below w82.heap.size w82 wr) (fun _ k _ => np - (intOf k).toNat)
      case atStart => exact ⟨0, Nat.zero_le _, rfl, rfl, Below.refl _ _⟩
      case round =>
        obtain ⟨j, hj, rfl, rfl, hbr⟩ := hrel
        obtain ⟨w83, hww⟩ : ∃ W, W = wr := ⟨_, rfl⟩
        subst hww
        have hB83 := hB82.call hbr rfl
        replace hT0 := blkb hT0 hbr
        replace hT1 := blkb hT1 hbr
        replace hT2 := blkb hT2 hbr
        replace H := H.below hbr
        replace HP := HP.below hbr
        replace HD := HD.below hbr
        replace HE := HE.below hbr
        replace HM := HM.below hbr
        replace hst := hst.below hbr
        replace hI := hI.below hbr
        clear hB82
        have qhT0_0 : w83.cell? ⟨w.heap.size, 0, none⟩ = some (.int .i64 c) := cell_at hT0 rfl
        have qhT0_1 : w83.cell? ⟨w.heap.size, 1, none⟩ = some (.int .i64 r) := cell_at hT0 rfl
        have qhT0_2 : w83.cell? ⟨w.heap.size, 2, none⟩ = some (.slice A n cap) := cell_at hT0 rfl
        have qhT1_0 : w83.cell? ⟨w.heap.size + 1, 0, none⟩ = some (.int .i64 un) := cell_at hT1 rfl
        have qhT1_1 : w83.cell? ⟨w.heap.size + 1, 1, none⟩ = some (.int .i64 len) := cell_at hT1 rfl
        have qhT1_2 : w83.cell? ⟨w.heap.size + 1, 2, none⟩ = some (.int .i64 most) := cell_at hT1 rfl
        have qhT1_3 : w83.cell? ⟨w.heap.size + 1, 3, none⟩ = some (.slice P np capp) := cell_at hT1 rfl
        have qhT2_0 : w83.cell? ⟨w.heap.size + 1 + 1, 0, none⟩ = some (.slice D np cd) := cell_at hT2 rfl
        have qhT2_1 : w83.cell? ⟨w.heap.size + 1 + 1, 1, none⟩ = some (.slice E np ce) := cell_at hT2 rfl
        have qhT2_2 : w83.cell? ⟨w.heap.size + 1 + 1, 2, none⟩ = some (.slice M n cm) := cell_at hT2 rfl
        have qhT2_3 : w83.cell? ⟨w.heap.size + 1 + 1, 3, none⟩ = some (.int .i64 s) := cell_at hT2 rfl
        have qhT2_4 : w83.cell? ⟨w.heap.size + 1 + 1, 4, none⟩ = some (.int .i64 f) := cell_at hT2 rfl
        have qhT2_5 : w83.cell? ⟨w.heap.size + 1 + 1, 5, none⟩ = some (.int .i64 i) := cell_at hT2 rfl
        have hwk : IntKind.i64.wrap ((j : Int) + 1) = ((j + 1 : Nat) : Int) := by rw [wrapI (by omega)]; simp
        have HCJ : Hid (Mo.cnt ((List.range j).map DS) i ≤ j) := Lib.hid (by unfold Mo.cnt; exact Nat.le_trans List.countP_le_length (by simp))
        have HCN : Hid (Mo.cnt ((List.range (j + 1)).map DS) i = Mo.cnt ((List.range j).map DS) i + if 0 ≤ Im.at0 (DS j) i then 1 else 0) := Lib.hid (by
          unfold Mo.cnt
          rw [List.range_succ, List.map_append, List.countP_append]
          simp [List.countP_cons])
        by_cases hlt : j < np
        ·
            have hlt2 : (j : Int) < (np : Int) := by omega
            generalize Mo.cnt ((List.range j).map DS) i = q at HCJ HCN ⊢
            go_wp2_with fail
            refine wp_region_plan [(0, true), (2, true), (4, true), (1, false), (3, false), (5, false), (6, true), (7, true), (8, true), (9, true), (10, true)] w83.heap.size (by kernel_rfl) (by kernel_rfl) (Nat.le_refl _) (fun _ _ d _ _ h => by cases d <;> exact h) ?_
            have hC : Below w83.heap.size w83 w83 := Below.refl _ _
            have zhT0 : w.heap.size < w83.heap.size := (Array.getElem?_eq_some_iff.1 hT0).1
            have zhT1 : w.heap.size + 1 < w83.heap.size := (Array.getElem?_eq_some_iff.1 hT1).1
            have zhT2 : w.heap.size + 1 + 1 < w83.heap.size := (Array.getElem?_eq_some_iff.1 hT2).1
            repeat (first | (refine wpPlanA_skip _ rfl (by rfl) ?_; simp only [Act.put, List.setIfInBounds_toArray, List.set_cons_zero, List.set_cons_succ]) | (refine wpPlanA_soft _ ?_ rfl (by rfl) ?_ ?_; rotate_left; (intro wq hq hcq; go_simp; first | exact rfl | exact ⟨rfl, rfl⟩); simp only [Act.put, List.setIfInBounds_toArray, List.set_cons_zero, List.set_cons_succ]))
            refine wpPlanA_hard _ rfl (by rfl) (fun w84 hS K hK => ?_)
            go_simp
            refine (c20d c r A n cap l _ hl (H.below hS)).mono ?_
            rintro e w85 ⟨B28, cb28, rfl, hr28, hb⟩
            replace hS := hS.call hb rfl
            have hB85 := hB83.call hS rfl
            replace hC := hC.call hS rfl
            replace hT0 := blkb hT0 hS
            replace hT1 := blkb hT1 hS
            replace hT2 := blkb hT2 hS
            replace H := H.below hS
            replace HP := HP.below hS
            replace HD := HD.below hS
            replace HE := HE.below hS
            replace HM := HM.below hS
            replace hst := hst.below hS
            replace hI := hI.below hS
            replace hbr := hbr.call hS rfl
            refine hK _ _ hC ?_
            clear hS hb hB83 hK K
            try simp only [Act.put, List.setIfInBounds_toArray, List.set_cons_zero, List.set_cons_succ]
            refine wpPlanA_hard _ rfl (by rfl) (fun w86 hS K hK => ?_)
            go_simp
            refine (c21d un len most P np capp ps _ hp (HP.below hS)).mono ?_
            rintro e w87 ⟨P29, pc29, rfl, ⟨hp29, hq29⟩, hb⟩
            replace hS := hS.call hb rfl
            have hB87 := hB85.call hS rfl
            replace hC := hC.call hS rfl
            replace hT0 := blkb hT0 hS
            replace hT1 := blkb hT1 hS
            replace hT2 := blkb hT2 hS
            replace H := H.below hS
            replace HP := HP.below hS
            replace HD := HD.below hS
            replace HE := HE.below hS
            replace HM := HM.below hS
            replace hst := hst.below hS
            replace hI := hI.below hS
            replace hbr := hbr.call hS rfl
            replace hr28 := hr28.below hS
            refine hK _ _ hC ?_
            clear hS hb hB85 hK K
            try simp only [Act.put, List.setIfInBounds_toArray, List.set_cons_zero, List.set_cons_succ]
            refine wpPlanA_hard _ rfl (by rfl) (fun w88 hS K hK => ?_)
            go_simp
            refine (K28.out j hlt _ _ _ _ _ (hr28.below hS) (hp29.below hS) (hst.below hS)).mono ?_
            rintro e w89 ⟨FD, fdc, rfl, hD, hb⟩
            replace hS := hS.call hb rfl
            have hB89 := hB87.call hS rfl
            replace hC := hC.call hS rfl
            replace hT0 := blkb hT0 hS
            replace hT1 := blkb hT1 hS
            replace hT2 := blkb hT2 hS
            replace H := H.below hS
            replace HP := HP.below hS
            replace HD := HD.below hS
            replace HE := HE.below hS
            replace HM := HM.below hS
            replace hst := hst.below hS
            replace hI := hI.below hS
            replace hbr := hbr.call hS rfl
            replace hr28 := hr28.below hS
            replace hp29 := hp29.below hS
            refine hK _ _ hC ?_
            clear hS hb hB87 hK K
            try simp only [Act.put, List.setIfInBounds_toArray, List.set_cons_zero, List.set_cons_succ]
            repeat (first | (refine wpPlanA_skip _ rfl (by rfl) ?_; simp only [Act.put, List.setIfInBounds_toArray, List.set_cons_zero, List.set_cons_succ]) | (refine wpPlanA_soft _ ?_ rfl (by rfl) ?_ ?_; rotate_left; (intro wq hq hcq; go_simp; first | exact rfl | exact ⟨rfl, rfl⟩); simp only [Act.put, List.setIfInBounds_toArray, List.set_cons_zero, List.set_cons_succ]))
            clear hr28
            clear hp29
            clear qhT0_0 qhT0_1 qhT0_2 qhT1_0 qhT1_1 qhT1_2 qhT1_3 qhT2_0 qhT2_1 qhT2_2 qhT2_3 qhT2_4 qhT2_5
            refine wpPlanA_nil (fun w90 hS => ?_)
            clear hC zhT0 zhT1 zhT2
            have hB90 := hB89.call hS rfl
            replace hT0 := blkb hT0 hS
            replace hT1 := blkb hT1 hS
            replace hT2 := blkb hT2 hS
            replace H := H.below hS
            replace HP := HP.below hS
            replace HD := HD.below hS
            replace HE := HE.below hS
            replace HM := HM.below hS
            replace hst := hst.below hS
            replace hI := hI.below hS
            replace hbr := hbr.call hS rfl
            replace hD := hD.below hS
            clear hS hB89
            have qhT0_0 : w90.cell? ⟨w.heap.size, 0, none⟩ = some (.int .i64 c) := cell_at hT0 rfl
            have qhT0_1 : w90.cell? ⟨w.heap.size, 1, none⟩ = some (.int .i64 r) := cell_at hT0 rfl
            have qhT0_2 : w90.cell? ⟨w.heap.size, 2, none⟩ = some (.slice A n cap) := cell_at hT0 rfl
            have qhT1_0 : w90.cell? ⟨w.heap.size + 1, 0, none⟩ = some (.int .i64 un) := cell_at hT1 rfl
            have qhT1_1 : w90.cell? ⟨w.heap.size + 1, 1, none⟩ = some (.int .i64 len) := cell_at hT1 rfl
            have qhT1_2 : w90.cell? ⟨w.heap.size + 1, 2, none⟩ = some (.int .i64 most) := cell_at hT1 rfl
            have qhT1_3 : w90.cell? ⟨w.heap.size + 1, 3, none⟩ = some (.slice P np capp) := cell_at hT1 rfl
            have qhT2_0 : w90.cell? ⟨w.heap.size + 1 + 1, 0, none⟩ = some (.slice D np cd) := cell_at hT2 rfl
            have qhT2_1 : w90.cell? ⟨w.heap.size + 1 + 1, 1, none⟩ = some (.slice E np ce) := cell_at hT2 rfl
            have qhT2_2 : w90.cell? ⟨w.heap.size + 1 + 1, 2, none⟩ = some (.slice M n cm) := cell_at hT2 rfl
            have qhT2_3 : w90.cell? ⟨w.heap.size + 1 + 1, 3, none⟩ = some (.int .i64 s) := cell_at hT2 rfl
            have qhT2_4 : w90.cell? ⟨w.heap.size + 1 + 1, 4, none⟩ = some (.int .i64 f) := cell_at hT2 rfl
            have qhT2_5 : w90.cell? ⟨w.heap.size + 1 + 1, 5, none⟩ = some (.int .i64 i) := cell_at hT2 rfl
            obtain ⟨fb, fo, rfl, zf⟩ := hD.form (by omega)
            have qd := hD.get hiN
            have hi2 : (i : Int) < (n : Int) := by omega
            have hi0 : (0 : Int) ≤ (i : Int) := by omega
            generalize Im.at0 (DS j) i = x at qd HCN
            have HN := Lib.hid hbr
            clear hbr hD
            by_cases hx : 0 ≤ x
            ·
                have hdx : decide (0 ≤ x) = true := by simpa using hx
                have hwq : IntKind.i64.wrap ((q : Int) + 1) = ((q + 1 : Nat) : Int) := by rw [wrapI (by have := HCJ.out; omega)]; simp
                have HCE : Hid (Mo.cnt ((List.range (j + 1)).map DS) i = q + 1) := Lib.hid (by rw [HCN.out, if_pos hx])
                clear hx
                go_wp2
                go_roundw
                case rel => exact ⟨j + 1, by omega, by go_num, by rw [HCE.out]; go_num, HN.out⟩
                case measure => simp [intOf]; omega
            ·
                have hdx : decide (0 ≤ x) = false := by simpa using hx
                have HCE : Hid (Mo.cnt ((List.range (j + 1)).map DS) i = q) := Lib.hid (by rw [HCN.out, if_neg hx]; rfl)
                clear hx
                go_wp2
                go_roundw
                case rel => exact ⟨j + 1, by omega, by go_num, by rw [HCE.out], HN.out⟩
                case measure => simp [intOf]; omega
        obtain rfl : np = j := by omega
        have HQ : Hid (Mo.cnt ((List.range np).map DS) i = many) := Lib.hid HMANY.out.symm
        rw [HQ.out]
        have hmany17 : many ≤ 17 := by rw [← HQ.out]; have := HCJ.out; omega
        clear HCJ HCN HQ
        go_wp2_with fail
        clear hbr
        refine wp_region_planF (Φ := Fresh w83.heap.size #[.int .i64 0, .int .i64 0] 61) [(0, 1), (2, 1), (4, 1), (5, 1), (7, 1), (8, 1), (1, 0), (3, 0), (6, 0), (9, 0), (10, 1), (11, 1), (12, 1), (13, 2), (14, 3), (15, 1)] 13 w83.heap.size _ rfl (by kernel_rfl) (by kernel_rfl) (Nat.le_refl _) (fun _ _ d _ _ h => by cases d <;> exact h) (fun _ _ d _ _ h => by cases d <;> exact h) (fun v w w' hv hb => hv.below hb) ?hF ?_
        case hF =>
          intro a wq hq
          refine ⟨rfl, ?_⟩
          have hsz := hq.size
          go_simp
          exact ⟨_, rfl, ⟨_, rfl, hsz, heap_new rfl⟩, (Below.refl _ _).alloc (Nat.le_refl _) _⟩
        have hC : Below w83.heap.size w83 w83 := Below.refl _ _
        have hBr := hB83
        have zhT0 : w.heap.size < w83.heap.size := (Array.getElem?_eq_some_iff.1 hT0).1
        have zhT1 : w.heap.size + 1 < w83.heap.size := (Array.getElem?_eq_some_iff.1 hT1).1
        have zhT2 : w.heap.size + 1 + 1 < w83.heap.size := (Array.getElem?_eq_some_iff.1 hT2).1
        have hT00 := hT0
        have hT10 := hT1
        have hT20 := hT2
        have H0 := H
        have HP0 := HP
        have HD0 := HD
        have HE0 := HE
        have HM0 := HM
        have hst0 := hst
        have hI0 := hI
        repeat (first | (refine wpPlanFA_skip _ rfl (by rfl) ?_; simp only [Act.put, List.setIfInBounds_toArray, List.set_cons_zero, List.set_cons_succ]) | (refine wpPlanFA_soft _ ?_ rfl (by rfl) ?_ ?_; rotate_left; (intro wq hq hcq; go_simp; first | exact rfl | exact ⟨rfl, rfl⟩); simp only [Act.put, List.setIfInBounds_toArray, List.set_cons_zero, List.set_cons_succ]))
        refine wpPlanFA_hard _ rfl (by rfl) (fun w84 hS K hK => ?_)
        have hB84 := hB83.call hS rfl
        replace hC := hC.call hS rfl
        replace hT0 := blkb hT0 hS
        replace hT1 := blkb hT1 hS
        replace hT2 := blkb hT2 hS
        replace H := H.below hS
        replace HP := HP.below hS
        replace HD := HD.below hS
        replace HE := HE.below hS
        replace HM := HM.below hS
        replace hst := hst.below hS
        replace hI := hI.below hS
        clear hS hB83
        go_simp
        refine (c20d c r A n cap l _ hl H).mono ?_
        rintro e w85 ⟨B30, cb30, rfl, hr30, hb⟩
        have hB85 := hB84.call hb rfl
        replace hC := hC.call hb rfl
        replace hT0 := blkb hT0 hb
        replace hT1 := blkb hT1 hb
        replace hT2 := blkb hT2 hb
        replace H := H.below hb
        replace HP := HP.below hb
        replace HD := HD.below hb
        replace HE := HE.below hb
        replace HM := HM.below hb
        replace hst := hst.below hb
        replace hI := hI.below hb
        refine hK _ _ hC hb ?_
        clear hK K hb hB84
        try simp only [Act.put, List.setIfInBounds_toArray, List.set_cons_zero, List.set_cons_succ]
        refine wpPlanFA_hard _ rfl (by rfl) (fun w86 hS K hK => ?_)
        have hB86 := hB85.call hS rfl
        replace hC := hC.call hS rfl
        replace hT0 := blkb hT0 hS
        replace hT1 := blkb hT1 hS
        replace hT2 := blkb hT2 hS
        replace H := H.below hS
        replace HP := HP.below hS
        replace HD := HD.below hS
        replace HE := HE.below hS
        replace HM := HM.below hS
        replace hst := hst.below hS
        replace hI := hI.below hS
        replace hr30 := hr30.below hS
        clear hS hB85
        go_simp
        refine (c21d un len most P np capp ps _ hp HP).mono ?_
        rintro e w87 ⟨P31, pc31, rfl, ⟨hp31, hq31⟩, hb⟩
        have hB87 := hB86.call hb rfl
        replace hC := hC.call hb rfl
        replace hT0 := blkb hT0 hb
        replace hT1 := blkb hT1 hb
        replace hT2 := blkb hT2 hb
        replace H := H.below hb
        replace HP := HP.below hb
        replace HD := HD.below hb
        replace HE := HE.below hb
        replace HM := HM.below hb
        replace hst := hst.below hb
        replace hI := hI.below hb
        replace hr30 := hr30.below hb
        refine hK _ _ hC hb ?_
        clear hK K hb hB86
        try simp only [Act.put, List.setIfInBounds_toArray, List.set_cons_zero, List.set_cons_succ]
        refine wpPlanFA_hard _ rfl (by rfl) (fun w88 hS K hK => ?_)
        have hB88 := hB87.call hS rfl
        replace hC := hC.call hS rfl
        replace hT0 := blkb hT0 hS
        replace hT1 := blkb hT1 hS
        replace hT2 := blkb hT2 hS
        replace H := H.below hS
        replace HP := HP.below hS
        replace HD := HD.below hS
        replace HE := HE.below hS
        replace HM := HM.below hS
        replace hst := hst.below hS
        replace hI := hI.below hS
        replace hr30 := hr30.below hS
        replace hp31 := hp31.below hS
        clear hS hB87
        go_simp
        refine (c33d D np cd dl _ h5 HD45'.out HD).mono ?_
        rintro e w89 ⟨F32, fc32, rfl, he32, hb⟩
        have hB89 := hB88.call hb rfl
        replace hC := hC.call hb rfl
        replace hT0 := blkb hT0 hb
        replace hT1 := blkb hT1 hb
        replace hT2 := blkb hT2 hb
        replace H := H.below hb
        replace HP := HP.below hb
        replace HD := HD.below hb
        replace HE := HE.below hb
        replace HM := HM.below hb
        replace hst := hst.below hb
        replace hI := hI.below hb
        replace hr30 := hr30.below hb
        replace hp31 := hp31.below hb
        refine hK _ _ hC hb ?_
        clear hK K hb hB88
        try simp only [Act.put, List.setIfInBounds_toArray, List.set_cons_zero, List.set_cons_succ]
        refine wpPlanFA_hard _ rfl (by rfl) (fun w90 hS K hK => ?_)
        have hB90 := hB89.call hS rfl
        replace hC := hC.call hS rfl
        replace hT0 := blkb hT0 hS
        replace hT1 := blkb hT1 hS
        replace hT2 := blkb hT2 hS
        replace H := H.below hS
        replace HP := HP.below hS
        replace HD := HD.below hS
        replace HE := HE.below hS
        replace HM := HM.below hS
        replace hst := hst.below hS
        replace hI := hI.below hS
        replace hr30 := hr30.below hS
        replace hp31 := hp31.below hS
        replace he32 := he32.below hS
        clear hS hB89
        go_simp
        refine (K35.out _ _ _ _ _ _ _ hq31 hr30 hp31 he32 hst).mono ?_
        rintro e w91 ⟨rfl, hb⟩
        have hB91 := hB90.call hb rfl
        replace hC := hC.call hb rfl
        replace hT0 := blkb hT0 hb
        replace hT1 := blkb hT1 hb
        replace hT2 := blkb hT2 hb
        replace H := H.below hb
        replace HP := HP.below hb
        replace HD := HD.below hb
        replace HE := HE.below hb
        replace HM := HM.below hb
        replace hst := hst.below hb
        replace hI := hI.below hb
        replace hr30 := hr30.below hb
        replace hp31 := hp31.below hb
        replace he32 := he32.below hb
        refine hK _ _ hC hb ?_
        clear hK K hb hB90
        try simp only [Act.put, List.setIfInBounds_toArray, List.set_cons_zero, List.set_cons_succ]
        repeat (first | (refine wpPlanFA_skip _ rfl (by rfl) ?_; simp only [Act.put, List.setIfInBounds_toArray, List.set_cons_zero, List.set_cons_succ]) | (refine wpPlanFA_soft _ ?_ rfl (by rfl) ?_ ?_; rotate_left; (intro wq hq hcq; go_simp; first | exact rfl | exact ⟨rfl, rfl⟩); simp only [Act.put, List.setIfInBounds_toArray, List.set_cons_zero, List.set_cons_succ]))
        clear hr30
        clear hp31
        clear he32
        refine wpPlanFA_float _ rfl (fun v w92 hS hv => ?_)
        obtain ⟨bhAm, rfl, hge, hAm⟩ := hv
        have hB92 := hB91.call hS rfl
        replace hC := hC.call hS rfl
        replace hT0 := blkb hT0 hS
        replace hT1 := blkb hT1 hS
        replace hT2 := blkb hT2 hS
        replace H := H.below hS
        replace HP := HP.below hS
        replace HD := HD.below hS
        replace HE := HE.below hS
        replace HM := HM.below hS
        replace hst := hst.below hS
        replace hI := hI.below hS
        clear hS hB91
        try simp only [Act.put, List.setIfInBounds_toArray, List.set_cons_zero, List.set_cons_succ]
        refine wpPlanFA_late _ rfl (by rfl) (fun w93 hS K hK => ?_)
        replace hC := hC.call hS rfl
        replace hAm := blkb hAm hS
        clear hS hB92 hT0 hT1 hT2 H HP HD HE HM hst hI
        refine wp_store_blk 61 _ _ rfl bhAm _ rfl rfl hAm ?s1 ?s2 ?s3 ?_
        case s1 => rfl
        case s2 => kernel_rfl
        case s3 => simp [Value.oneCell']
        intro w94 hAmn hg3 hs3
        replace hC : Below w83.heap.size w83 w94 := hC.grown hg3 hC.size (fun j hj => by cases hj; exact hge)
        refine hK _ _ hC ?_
        clear hK K hAm hg3 hs3
        have hAm := hAmn
        clear hAmn
        have hB94 := hBr.call hC rfl
        have hT0 := blkb hT00 hC
        have hT1 := blkb hT10 hC
        have hT2 := blkb hT20 hC
        have H := H0.below hC
        have HP := HP0.below hC
        have HD := HD0.below hC
        have HE := HE0.below hC
        have HM := HM0.below hC
        have hst := hst0.below hC
        have hI := hI0.below hC
        try simp only [Act.put, List.setIfInBounds_toArray, List.set_cons_zero, List.set_cons_succ]
        repeat (first | (refine wpPlanFA_skip _ rfl (by rfl) ?_; simp only [Act.put, List.setIfInBounds_toArray, List.set_cons_zero, List.set_cons_succ]) | (refine wpPlanFA_soft _ ?_ rfl (by rfl) ?_ ?_; rotate_left; (intro wq hq hcq; go_simp; first | exact rfl | exact ⟨rfl, rfl⟩); simp only [Act.put, List.setIfInBounds_toArray, List.set_cons_zero, List.set_cons_succ]))
        clear qhT0_0 qhT0_1 qhT0_2 qhT1_0 qhT1_1 qhT1_2 qhT1_3 qhT2_0 qhT2_1 qhT2_2 qhT2_3 qhT2_4 qhT2_5
        refine wpPlanFA_nil (fun w95 hS => ?_)
        clear hC hge hBr zhT0 zhT1 zhT2 hT00 hT10 hT20 H0 HP0 HD0 HE0 HM0 hst0 hI0
        have hB95 := hB94.call hS rfl
        replace hT0 := blkb hT0 hS
        replace hT1 := blkb hT1 hS
        replace hT2 := blkb hT2 hS
        replace H := H.below hS
        replace HP := HP.below hS
        replace HD := HD.below hS
        replace HE := HE.below hS
        replace HM := HM.below hS
        replace hst := hst.below hS
        replace hI := hI.below hS
        replace hAm := blkb hAm hS
        clear hS hB94
        have qhT0_0 : w95.cell? ⟨w.heap.size, 0, none⟩ = some (.int .i64 c) := cell_at hT0 rfl
        have qhT0_1 : w95.cell? ⟨w.heap.size, 1, none⟩ = some (.int .i64 r) := cell_at hT0 rfl
        have qhT0_2 : w95.cell? ⟨w.heap.size, 2, none⟩ = some (.slice A n cap) := cell_at hT0 rfl
        have qhT1_0 : w95.cell? ⟨w.heap.size + 1, 0, none⟩ = some (.int .i64 un) := cell_at hT1 rfl
        have qhT1_1 : w95.cell? ⟨w.heap.size + 1, 1, none⟩ = some (.int .i64 len) := cell_at hT1 rfl
        have qhT1_2 : w95.cell? ⟨w.heap.size + 1, 2, none⟩ = some (.int .i64 most) := cell_at hT1 rfl
        have qhT1_3 : w95.cell? ⟨w.heap.size + 1, 3, none⟩ = some (.slice P np capp) := cell_at hT1 rfl
        have qhT2_0 : w95.cell? ⟨w.heap.size + 1 + 1, 0, none⟩ = some (.slice D np cd) := cell_at hT2 rfl
        have qhT2_1 : w95.cell? ⟨w.heap.size + 1 + 1, 1, none⟩ = some (.slice E np ce) := cell_at hT2 rfl
        have qhT2_2 : w95.cell? ⟨w.heap.size + 1 + 1, 2, none⟩ = some (.slice M n cm) := cell_at hT2 rfl
        have qhT2_3 : w95.cell? ⟨w.heap.size + 1 + 1, 3, none⟩ = some (.int .i64 s) := cell_at hT2 rfl
        have qhT2_4 : w95.cell? ⟨w.heap.size + 1 + 1, 4, none⟩ = some (.int .i64 f) := cell_at hT2 rfl
        have qhT2_5 : w95.cell? ⟨w.heap.size + 1 + 1, 5, none⟩ = some (.int .i64 i) := cell_at hT2 rfl
        by_cases hmz : many = 0
        ·
            have HAE := Lib.hid (HA0.out hmz)
            obtain rfl := HAE.out
            have hz1 : ((many : Int) == 0) = true := by simp; omega
            clear hmz
            go_wp2_with fail
            refine (c18 _ hst).mono ?_
            rintro e wz ⟨rfl, hz⟩
            go_wp2
            go_ret
            exact ⟨rfl, hB95.call hz rfl⟩
        obtain ⟨hae, hden1, hden2, hnm, hz1, hz2⟩ := HA1.out (by omega)
        subst hae
        have hmf : ((many : Int) == 0) = false := by simp; omega
        obtain ⟨ib, io, rfl, zib⟩ := hI.form (by omega)
        have qI := hI.get hiN
        have hi2 : (i : Int) < (n : Int) := by omega
        have hi0 : (0 : Int) ≤ (i : Int) := by omega
        generalize Im.at0 IMG i = x at qI hnm hz1 hz2
        obtain ⟨z, hz⟩ : ∃ z, z = x * DEN := ⟨_, rfl⟩
        have hw2 : IntKind.i64.wrap (x * DEN) = z := by rw [hz]; exact wrapI (by omega)
        have hw1 : IntKind.i64.wrap (NUM * (many : Int)) = z := by rw [hnm]; exact hw2
        have hd1 : decide (1 ≤ DEN) = true := by simpa using hden1
        have hd2 : decide (DEN ≤ (many : Int)) = true := by simpa using hden2
        have qA0 : w95.cell? ⟨bhAm, 0, none⟩ = some (.int .i64 NUM) := cell_at hAm rfl
        have qA1 : w95.cell? ⟨bhAm, 1, none⟩ = some (.int .i64 DEN) := cell_at hAm rfl
        have zA := cell_lt qA1
        clear hz hmz hden1 hden2 hnm hz1 hz2
        clear hI
        go_wp2_with fail
        refine wp_region_plan [(0, true), (1, true), (2, true), (3, true), (4, true), (5, true), (6, true), (7, true), (8, true), (9, true), (10, true), (11, true), (12, true), (13, true), (14, true), (15, true), (16, true), (17, true), (18, true), (19, true), (20, true), (21, true), (22, true), (23, true), (24, true), (25, true), (26, true), (27, true), (28, true), (29, false), (30, true), (31, true)] w95.heap.size (by kernel_rfl) (by kernel_rfl) (Nat.le_refl _) (fun _ _ d _ _ h => by cases d <;> exact h) ?_
        have hC : Below w95.heap.size w95 w95 := Below.refl _ _
        have zhT0 : w.heap.size < w95.heap.size := (Array.getElem?_eq_some_iff.1 hT0).1
        have zhT1 : w.heap.size + 1 < w95.heap.size := (Array.getElem?_eq_some_iff.1 hT1).1
        have zhT2 : w.heap.size + 1 + 1 < w95.heap.size := (Array.getElem?_eq_some_iff.1 hT2).1
        repeat (first | (refine wpPlanA_skip _ rfl (by rfl) ?_; simp only [Act.put, List.setIfInBounds_toArray, List.set_cons_zero, List.set_cons_succ]) | (refine wpPlanA_soft _ ?_ rfl (by rfl) ?_ ?_; rotate_left; (intro wq hq hcq; go_simp; first | exact rfl | exact ⟨rfl, rfl⟩); simp only [Act.put, List.setIfInBounds_toArray, List.set_cons_zero, List.set_cons_succ]))
        clear qI qA0 qA1 zA zib
        refine wpPlanA_hard _ rfl (by rfl) (fun w96 hS K hK => ?_)
        go_simp
        refine (c18 _ (hst.below hS)).mono ?_
        rintro e w97 ⟨rfl, hb⟩
        replace hS := hS.call hb rfl
        have hB97 := hB95.call hS rfl
        replace hC := hC.call hS rfl
        replace hT0 := blkb hT0 hS
        replace hT1 := blkb hT1 hS
        replace hT2 := blkb hT2 hS
        replace H := H.below hS
        replace HP := HP.below hS
        replace HD := HD.below hS
        replace HE := HE.below hS
        replace HM := HM.below hS
        replace hst := hst.below hS
        replace hAm := blkb hAm hS
        refine hK _ _ hC ?_
        clear hS hb hB95 hK K
        try simp only [Act.put, List.setIfInBounds_toArray, List.set_cons_zero, List.set_cons_succ]
        repeat (first | (refine wpPlanA_skip _ rfl (by rfl) ?_; simp only [Act.put, List.setIfInBounds_toArray, List.set_cons_zero, List.set_cons_succ]) | (refine wpPlanA_soft _ ?_ rfl (by rfl) ?_ ?_; rotate_left; (intro wq hq hcq; go_simp; first | exact rfl | exact ⟨rfl, rfl⟩); simp only [Act.put, List.setIfInBounds_toArray, List.set_cons_zero, List.set_cons_succ]))
        clear qhT0_0 qhT0_1 qhT0_2 qhT1_0 qhT1_1 qhT1_2 qhT1_3 qhT2_0 qhT2_1 qhT2_2 qhT2_3 qhT2_4 qhT2_5
        refine wpPlanA_nil (fun w98 hS => ?_)
        clear hC zhT0 zhT1 zhT2
        have hB98 := hB97.call hS rfl
        replace hT0 := blkb hT0 hS
        replace hT1 := blkb hT1 hS
        replace hT2 := blkb hT2 hS
        replace H := H.below hS
        replace HP := HP.below hS
        replace HD := HD.below hS
        replace HE := HE.below hS
        replace HM := HM.below hS
        replace hst := hst.below hS
        replace hAm := blkb hAm hS
        clear hS hB97
        have qhT0_0 : w98.cell? ⟨w.heap.size, 0, none⟩ = some (.int .i64 c) := cell_at hT0 rfl
        have qhT0_1 : w98.cell? ⟨w.heap.size, 1, none⟩ = some (.int .i64 r) := cell_at hT0 rfl
        have qhT0_2 : w98.cell? ⟨w.heap.size, 2, none⟩ = some (.slice A n cap) := cell_at hT0 rfl
        have qhT1_0 : w98.cell? ⟨w.heap.size + 1, 0, none⟩ = some (.int .i64 un) := cell_at hT1 rfl
        have qhT1_1 : w98.cell? ⟨w.heap.size + 1, 1, none⟩ = some (.int .i64 len) := cell_at hT1 rfl
        have qhT1_2 : w98.cell? ⟨w.heap.size + 1, 2, none⟩ = some (.int .i64 most) := cell_at hT1 rfl
        have qhT1_3 : w98.cell? ⟨w.heap.size + 1, 3, none⟩ = some (.slice P np capp) := cell_at hT1 rfl
        have qhT2_0 : w98.cell? ⟨w.heap.size + 1 + 1, 0, none⟩ = some (.slice D np cd) := cell_at hT2 rfl
        have qhT2_1 : w98.cell? ⟨w.heap.size + 1 + 1, 1, none⟩ = some (.slice E np ce) := cell_at hT2 rfl
        have qhT2_2 : w98.cell? ⟨w.heap.size + 1 + 1, 2, none⟩ = some (.slice M n cm) := cell_at hT2 rfl
        have qhT2_3 : w98.cell? ⟨w.heap.size + 1 + 1, 3, none⟩ = some (.int .i64 s) := cell_at hT2 rfl
        have qhT2_4 : w98.cell? ⟨w.heap.size + 1 + 1, 4, none⟩ = some (.int .i64 f) := cell_at hT2 rfl
        have qhT2_5 : w98.cell? ⟨w.heap.size + 1 + 1, 5, none⟩ = some (.int .i64 i) := cell_at hT2 rfl
        go_wp2
        go_ret
        exact ⟨rfl, hB98⟩
  ·
      subst hbe
      go_wp2_with fail
      refine wp_region_plan [(0, true), (2, true), (4, true), (5, true), (1, false), (3, false), (6, false), (7, false), (8, true), (9, true), (10, true), (11, true), (12, true)] w50.heap.size (by kernel_rfl) (by kernel_rfl) (Nat.le_refl _) (fun _ _ d _ _ h => by cases d <;> exact h) ?_
      have hC : Below w50.heap.size w50 w50 := Below.refl _ _
      have zhT0 : w.heap.size < w50.heap.size := (Array.getElem?_eq_some_iff.1 hT0).1
      have zhT1 : w.heap.size + 1 < w50.heap.size := (Array.getElem?_eq_some_iff.1 hT1).1
      have zhT2 : w.heap.size + 1 + 1 < w50.heap.size := (Array.getElem?_eq_some_iff.1 hT2).1
      repeat (first | (refine wpPlanA_skip _ rfl (by rfl) ?_; simp only [Act.put, List.setIfInBounds_toArray, List.set_cons_zero, List.set_cons_succ]) | (refine wpPlanA_soft _ ?_ rfl (by rfl) ?_ ?_; rotate_left; (intro wq hq hcq; go_simp; first | exact rfl | exact ⟨rfl, rfl⟩); simp only [Act.put, List.setIfInBounds_toArray, List.set_cons_zero, List.set_cons_succ]))
      refine wpPlanA_hard _ rfl (by rfl) (fun w51 hS K hK => ?_)
      go_simp
      refine (c20d c r A n cap l _ hl (H.below hS)).mono ?_
      rintro e w52 ⟨B33, cb33, rfl, hr33, hb⟩
      replace hS := hS.call hb rfl
      have hB52 := hB50.call hS rfl
      replace hC := hC.call hS rfl
      replace hT0 := blkb hT0 hS
      replace hT1 := blkb hT1 hS
      replace hT2 := blkb hT2 hS
      replace H := H.below hS
      replace HP := HP.below hS
      replace HD := HD.below hS
      replace HE := HE.below hS
      replace HM := HM.below hS
      replace hst := hst.below hS
      refine hK _ _ hC ?_
      clear hS hb hB50 hK K
      try simp only [Act.put, List.setIfInBounds_toArray, List.set_cons_zero, List.set_cons_succ]
      refine wpPlanA_hard _ rfl (by rfl) (fun w53 hS K hK => ?_)
      go_simp
      refine (c21d un len most P np capp ps _ hp (HP.below hS)).mono ?_
      rintro e w54 ⟨P34, pc34, rfl, ⟨hp34, hq34⟩, hb⟩
      replace hS := hS.call hb rfl
      have hB54 := hB52.call hS rfl
      replace hC := hC.call hS rfl
      replace hT0 := blkb hT0 hS
      replace hT1 := blkb hT1 hS
      replace hT2 := blkb hT2 hS
      replace H := H.below hS
      replace HP := HP.below hS
      replace HD := HD.below hS
      replace HE := HE.below hS
      replace HM := HM.below hS
      replace hst := hst.below hS
      replace hr33 := hr33.below hS
      refine hK _ _ hC ?_
      clear hS hb hB52 hK K
      try simp only [Act.put, List.setIfInBounds_toArray, List.set_cons_zero, List.set_cons_succ]
      refine wpPlanA_hard _ rfl (by rfl) (fun w55 hS K hK => ?_)
      go_simp
      refine (c33d D np cd dl _ h5 HD45'.out (HD.below hS)).mono ?_
      rintro e w56 ⟨F35, fc35, rfl, he35, hb⟩
      replace hS := hS.call hb rfl
      have hB56 := hB54.call hS rfl
      replace hC := hC.call hS rfl
      replace hT0 := blkb hT0 hS
      replace hT1 := blkb hT1 hS
      replace hT2 := blkb hT2 hS
      replace H := H.below hS
      replace HP := HP.below hS
      replace HD := HD.below hS
      replace HE := HE.below hS
      replace HM := HM.below hS
      replace hst := hst.below hS
      replace hr33 := hr33.below hS
      replace hp34 := hp34.below hS
      refine hK _ _ hC ?_
      clear hS hb hB54 hK K
      try simp only [Act.put, List.setIfInBounds_toArray, List.set_cons_zero, List.set_cons_succ]
      refine wpPlanA_hard _ rfl (by rfl) (fun w57 hS K hK => ?_)
      go_simp
      refine (K50.out _ _ _ _ _ _ _ hq34 (hr33.below hS) (hp34.below hS) (he35.below hS) (hst.below hS)).mono ?_
      rintro e w58 ⟨FI, fic, rfl, hI, hb⟩
      replace hS := hS.call hb rfl
      have hB58 := hB56.call hS rfl
      replace hC := hC.call hS rfl
      replace hT0 := blkb hT0 hS
      replace hT1 := blkb hT1 hS
      replace hT2 := blkb hT2 hS
      replace H := H.below hS
      replace HP := HP.below hS
      replace HD := HD.below hS
      replace HE := HE.below hS
      replace HM := HM.below hS
      replace hst := hst.below hS
      replace hr33 := hr33.below hS
      replace hp34 := hp34.below hS
      replace he35 := he35.below hS
      refine hK _ _ hC ?_
      clear hS hb hB56 hK K
      try simp only [Act.put, List.setIfInBounds_toArray, List.set_cons_zero, List.set_cons_succ]
      repeat (first | (refine wpPlanA_skip _ rfl (by rfl) ?_; simp only [Act.put, List.setIfInBounds_toArray, List.set_cons_zero, List.set_cons_succ]) | (refine wpPlanA_soft _ ?_ rfl (by rfl) ?_ ?_; rotate_left; (intro wq hq hcq; go_simp; first | exact rfl | exact ⟨rfl, rfl⟩); simp only [Act.put, List.setIfInBounds_toArray, List.set_cons_zero, List.set_cons_succ]))
      clear hr33
      clear hp34
      clear he35
      clear qhT0_0 qhT0_1 qhT0_2 qhT1_0 qhT1_1 qhT1_2 qhT1_3 qhT2_0 qhT2_1 qhT2_2 qhT2_3 qhT2_4 qhT2_5
      refine wpPlanA_nil (fun w59 hS => ?_)
      clear hC zhT0 zhT1 zhT2
      have hB59 := hB58.call hS rfl
      replace hT0 := blkb hT0 hS
      replace hT1 := blkb hT1 hS
      replace hT2 := blkb hT2 hS
      replace H := H.below hS
      replace HP := HP.below hS
      replace HD := HD.below hS
      replace HE := HE.below hS
      replace HM := HM.below hS
      replace hst := hst.below hS
      replace hI := hI.below hS
      clear hS hB58
      have qhT0_0 : w59.cell? ⟨w.heap.size, 0, none⟩ = some (.int .i64 c) := cell_at hT0 rfl
      have qhT0_1 : w59.cell? ⟨w.heap.size, 1, none⟩ = some (.int .i64 r) := cell_at hT0 rfl
      have qhT0_2 : w59.cell? ⟨w.heap.size, 2, none⟩ = some (.slice A n cap) := cell_at hT0 rfl
      have qhT1_0 : w59.cell? ⟨w.heap.size + 1, 0, none⟩ = some (.int .i64 un) := cell_at hT1 rfl
      have qhT1_1 : w59.cell? ⟨w.heap.size + 1, 1, none⟩ = some (.int .i64 len) := cell_at hT1 rfl
      have qhT1_2 : w59.cell? ⟨w.heap.size + 1, 2, none⟩ = some (.int .i64 most) := cell_at hT1 rfl
      have qhT1_3 : w59.cell? ⟨w.heap.size + 1, 3, none⟩ = some (.slice P np capp) := cell_at hT1 rfl
      have qhT2_0 : w59.cell? ⟨w.heap.size + 1 + 1, 0, none⟩ = some (.slice D np cd) := cell_at hT2 rfl
      have qhT2_1 : w59.cell? ⟨w.heap.size + 1 + 1, 1, none⟩ = some (.slice E np ce) := cell_at hT2 rfl
      have qhT2_2 : w59.cell? ⟨w.heap.size + 1 + 1, 2, none⟩ = some (.slice M n cm) := cell_at hT2 rfl
      have qhT2_3 : w59.cell? ⟨w.heap.size + 1 + 1, 3, none⟩ = some (.int .i64 s) := cell_at hT2 rfl
      have qhT2_4 : w59.cell? ⟨w.heap.size + 1 + 1, 4, none⟩ = some (.int .i64 f) := cell_at hT2 rfl
      have qhT2_5 : w59.cell? ⟨w.heap.size + 1 + 1, 5, none⟩ = some (.int .i64 i) := cell_at hT2 rfl
      have hne : ((n : Int) != (n : Int)) = false := by simp
      go_wp2_with fail
      go_loopw [23, 227] (fun q k wr => ∃ j : Nat, j ≤ np ∧ k = .int .i64 j ∧ q = .int .i64 (Mo.cnt ((List.range j).map DS) i : Nat) ∧ Below w59.heap.size w59 wr) (fun _ k _ => np - (intOf k).toNat)
      case atStart => exact ⟨0, Nat.zero_le _, rfl, rfl, Below.refl _ _⟩
      case round =>
        obtain ⟨j, hj, rfl, rfl, hbr⟩ := hrel
        obtain ⟨w60, hww⟩ : ∃ W, W = wr := ⟨_, rfl⟩
        subst hww
        have hB60 := hB59.call hbr rfl
        replace hT0 := blkb hT0 hbr
        replace hT1 := blkb hT1 hbr
        replace hT2 := blkb hT2 hbr
        replace H := H.below hbr
        replace HP := HP.below hbr
        replace HD := HD.below hbr
        replace HE := HE.below hbr
        replace HM := HM.below hbr
        replace hst := hst.below hbr
        replace hI := hI.below hbr
        clear hB59
        have qhT0_0 : w60.cell? ⟨w.heap.size, 0, none⟩ = some (.int .i64 c) := cell_at hT0 rfl
        have qhT0_1 : w60.cell? ⟨w.heap.size, 1, none⟩ = some (.int .i64 r) := cell_at hT0 rfl
        have qhT0_2 : w60.cell? ⟨w.heap.size, 2, none⟩ = some (.slice A n cap) := cell_at hT0 rfl
        have qhT1_0 : w60.cell? ⟨w.heap.size + 1, 0, none⟩ = some (.int .i64 un) := cell_at hT1 rfl
        have qhT1_1 : w60.cell? ⟨w.heap.size + 1, 1, none⟩ = some (.int .i64 len) := cell_at hT1 rfl
        have qhT1_2 : w60.cell? ⟨w.heap.size + 1, 2, none⟩ = some (.int .i64 most) := cell_at hT1 rfl
        have qhT1_3 : w60.cell? ⟨w.heap.size + 1, 3, none⟩ = some (.slice P np capp) := cell_at hT1 rfl
        have qhT2_0 : w60.cell? ⟨w.heap.size + 1 + 1, 0, none⟩ = some (.slice D np cd) := cell_at hT2 rfl
        have qhT2_1 : w60.cell? ⟨w.heap.size + 1 + 1, 1, none⟩ = some (.slice E np ce) := cell_at hT2 rfl
        have qhT2_2 : w60.cell? ⟨w.heap.size + 1 + 1, 2, none⟩ = some (.slice M n cm) := cell_at hT2 rfl
        have qhT2_3 : w60.cell? ⟨w.heap.size + 1 + 1, 3, none⟩ = some (.int .i64 s) := cell_at hT2 rfl
        have qhT2_4 : w60.cell? ⟨w.heap.size + 1 + 1, 4, none⟩ = some (.int .i64 f) := cell_at hT2 rfl
        have qhT2_5 : w60.cell? ⟨w.heap.size + 1 + 1, 5, none⟩ = some (.int .i64 i) := cell_at hT2 rfl
        have hwk : IntKind.i64.wrap ((j : Int) + 1) = ((j + 1 : Nat) : Int) := by rw [wrapI (by omega)]; simp
        have HCJ : Hid (Mo.cnt ((List.range j).map DS) i ≤ j) := Lib.hid (by unfold Mo.cnt; exact Nat.le_trans List.countP_le_length (by simp))
        have HCN : Hid (Mo.cnt ((List.range (j + 1)).map DS) i = Mo.cnt ((List.range j).map DS) i + if 0 ≤ Im.at0 (DS j) i then 1 else 0) := Lib.hid (by
          unfold Mo.cnt
          rw [List.range_succ, List.map_append, List.countP_append]
          simp [List.countP_cons])
        by_cases hlt : j < np
        ·
            have hlt2 : (j : Int) < (np : Int) := by omega
            generalize Mo.cnt ((List.range j).map DS) i = q at HCJ HCN ⊢
            go_wp2_with fail
            refine wp_region_plan [(0, true), (2, true), (4, true), (1, false), (3, false), (5, false), (6, true), (7, true), (8, true), (9, true), (10, true)] w60.heap.size (by kernel_rfl) (by kernel_rfl) (Nat.le_refl _) (fun _ _ d _ _ h => by cases d <;> exact h) ?_
            have hC : Below w60.heap.size w60 w60 := Below.refl _ _
            have zhT0 : w.heap.size < w60.heap.size := (Array.getElem?_eq_some_iff.1 hT0).1
            have zhT1 : w.heap.size + 1 < w60.heap.size := (Array.getElem?_eq_some_iff.1 hT1).1
            have zhT2 : w.heap.size + 1 + 1 < w60.heap.size := (Array.getElem?_eq_some_iff.1 hT2).1
            repeat (first | (refine wpPlanA_skip _ rfl (by rfl) ?_; simp only [Act.put, List.setIfInBounds_toArray, List.set_cons_zero, List.set_cons_succ]) | (refine wpPlanA_soft _ ?_ rfl (by rfl) ?_ ?_; rotate_left; (intro wq hq hcq; go_simp; first | exact rfl | exact ⟨rfl, rfl⟩); simp only [Act.put, List.setIfInBounds_toArray, List.set_cons_zero, List.set_cons_succ]))
            refine wpPlanA_hard _ rfl (by rfl) (fun w61 hS K hK => ?_)
            go_simp
            refine (c20d c r A n cap l _ hl (H.below hS)).mono ?_
            rintro e w62 ⟨B36, cb36, rfl, hr36, hb⟩
            replace hS := hS.call hb rfl
            have hB62 := hB60.call hS rfl
            replace hC := hC.call hS rfl
            replace hT0 := blkb hT0 hS
            replace hT1 := blkb hT1 hS
            replace hT2 := blkb hT2 hS
            replace H := H.below hS
            replace HP := HP.below hS
            replace HD := HD.below hS
            replace HE := HE.below hS
            replace HM := HM.below hS
            replace hst := hst.below hS
            replace hI := hI.below hS
            replace hbr := hbr.call hS rfl
            refine hK _ _ hC ?_
            clear hS hb hB60 hK K
            try simp only [Act.put, List.setIfInBounds_toArray, List.set_cons_zero, List.set_cons_succ]
            refine wpPlanA_hard _ rfl (by rfl) (fun w63 hS K hK => ?_)
            go_simp
            refine (c21d un len most P np capp ps _ hp (HP.below hS)).mono ?_
            rintro e w64 ⟨P37, pc37, rfl, ⟨hp37, hq37⟩, hb⟩
            replace hS := hS.call hb rfl
            have hB64 := hB62.call hS rfl
            replace hC := hC.call hS rfl
            replace hT0 := blkb hT0 hS
            replace hT1 := blkb hT1 hS
            replace hT2 := blkb hT2 hS
            replace H := H.below hS
            replace HP := HP.below hS
            replace HD := HD.below hS
            replace HE := HE.below hS
            replace HM := HM.below hS
            replace hst := hst.below hS
            replace hI := hI.below hS
            replace hbr := hbr.call hS rfl
            replace hr36 := hr36.below hS
            refine hK _ _ hC ?_
            clear hS hb hB62 hK K
            try simp only [Act.put, List.setIfInBounds_toArray, List.set_cons_zero, List.set_cons_succ]
            refine wpPlanA_hard _ rfl (by rfl) (fun w65 hS K hK => ?_)
            go_simp
            refine (K28.out j hlt _ _ _ _ _ (hr36.below hS) (hp37.below hS) (hst.below hS)).mono ?_
            rintro e w66 ⟨FD, fdc, rfl, hD, hb⟩
            replace hS := hS.call hb rfl
            have hB66 := hB64.call hS rfl
            replace hC := hC.call hS rfl
            replace hT0 := blkb hT0 hS
            replace hT1 := blkb hT1 hS
            replace hT2 := blkb hT2 hS
            replace H := H.below hS
            replace HP := HP.below hS
            replace HD := HD.below hS
            replace HE := HE.below hS
            replace HM := HM.below hS
            replace hst := hst.below hS
            replace hI := hI.below hS
            replace hbr := hbr.call hS rfl
            replace hr36 := hr36.below hS
            replace hp37 := hp37.below hS
            refine hK _ _ hC ?_
            clear hS hb hB64 hK K
            try simp only [Act.put, List.setIfInBounds_toArray, List.set_cons_zero, List.set_cons_succ]
            repeat (first | (refine wpPlanA_skip _ rfl (by rfl) ?_; simp only [Act.put, List.setIfInBounds_toArray, List.set_cons_zero, List.set_cons_succ]) | (refine wpPlanA_soft _ ?_ rfl (by rfl) ?_ ?_; rotate_left; (intro wq hq hcq; go_simp; first | exact rfl | exact ⟨rfl, rfl⟩); simp only [Act.put, List.setIfInBounds_toArray, List.set_cons_zero, List.set_cons_succ]))
            clear hr36
            clear hp37
            clear qhT0_0 qhT0_1 qhT0_2 qhT1_0 qhT1_1 qhT1_2 qhT1_3 qhT2_0 qhT2_1 qhT2_2 qhT2_3 qhT2_4 qhT2_5
            refine wpPlanA_nil (fun w67 hS => ?_)
            clear hC zhT0 zhT1 zhT2
            have hB67 := hB66.call hS rfl
            replace hT0 := blkb hT0 hS
            replace hT1 := blkb hT1 hS
            replace hT2 := blkb hT2 hS
            replace H := H.below hS
            replace HP := HP.below hS
            replace HD := HD.below hS
            replace HE := HE.below hS
            replace HM := HM.below hS
            replace hst := hst.below hS
            replace hI := hI.below hS
            replace hbr := hbr.call hS rfl
            replace hD := hD.below hS
            clear hS hB66
            have qhT0_0 : w67.cell? ⟨w.heap.size, 0, none⟩ = some (.int .i64 c) := cell_at hT0 rfl
            have qhT0_1 : w67.cell? ⟨w.heap.size, 1, none⟩ = some (.int .i64 r) := cell_at hT0 rfl
            have qhT0_2 : w67.cell? ⟨w.heap.size, 2, none⟩ = some (.slice A n cap) := cell_at hT0 rfl
            have qhT1_0 : w67.cell? ⟨w.heap.size + 1, 0, none⟩ = some (.int .i64 un) := cell_at hT1 rfl
            have qhT1_1 : w67.cell? ⟨w.heap.size + 1, 1, none⟩ = some (.int .i64 len) := cell_at hT1 rfl
            have qhT1_2 : w67.cell? ⟨w.heap.size + 1, 2, none⟩ = some (.int .i64 most) := cell_at hT1 rfl
            have qhT1_3 : w67.cell? ⟨w.heap.size + 1, 3, none⟩ = some (.slice P np capp) := cell_at hT1 rfl
            have qhT2_0 : w67.cell? ⟨w.heap.size + 1 + 1, 0, none⟩ = some (.slice D np cd) := cell_at hT2 rfl
            have qhT2_1 : w67.cell? ⟨w.heap.size + 1 + 1, 1, none⟩ = some (.slice E np ce) := cell_at hT2 rfl
            have qhT2_2 : w67.cell? ⟨w.heap.size + 1 + 1, 2, none⟩ = some (.slice M n cm) := cell_at hT2 rfl
            have qhT2_3 : w67.cell? ⟨w.heap.size + 1 + 1, 3, none⟩ = some (.int .i64 s) := cell_at hT2 rfl
            have qhT2_4 : w67.cell? ⟨w.heap.size + 1 + 1, 4, none⟩ = some (.int .i64 f) := cell_at hT2 rfl
            have qhT2_5 : w67.cell? ⟨w.heap.size + 1 + 1, 5, none⟩ = some (.int .i64 i) := cell_at hT2 rfl
            obtain ⟨fb, fo, rfl, zf⟩ := hD.form (by omega)
            have qd := hD.get hiN
            have hi2 : (i : Int) < (n : Int) := by omega
            have hi0 : (0 : Int) ≤ (i : Int) := by omega
            generalize Im.at0 (DS j) i = x at qd HCN
            have HN := Lib.hid hbr
            clear hbr hD
            by_cases hx : 0 ≤ x
            ·
                have hdx : decide (0 ≤ x) = true := by simpa using hx
                have hwq : IntKind.i64.wrap ((q : Int) + 1) = ((q + 1 : Nat) : Int) := by rw [wrapI (by have := HCJ.out; omega)]; simp
                have HCE : Hid (Mo.cnt ((List.range (j + 1)).map DS) i = q + 1) := Lib.hid (by rw [HCN.out, if_pos hx])
                clear hx
                go_wp2
                go_roundw
                case rel => exact ⟨j + 1, by omega, by go_num, by rw [HCE.out]; go_num, HN.out⟩
                case measure => simp [intOf]; omega
            ·
                have hdx : decide (0 ≤ x) = false := by simpa using hx
                have HCE : Hid (Mo.cnt ((List.range (j + 1)).map DS) i = q) := Lib.hid (by rw [HCN.out, if_neg hx]; rfl)
                clear hx
                go_wp2
                go_roundw
                case rel => exact ⟨j + 1, by omega, by go_num, by rw [HCE.out], HN.out⟩
                case measure => simp [intOf]; omega
        obtain rfl : np = j := by omega
        have HQ : Hid (Mo.cnt ((List.range np).map DS) i = many) := Lib.hid HMANY.out.symm
        rw [HQ.out]
        have hmany17 : many ≤ 17 := by rw [← HQ.out]; have := HCJ.out; omega
        clear HCJ HCN HQ
        go_wp2_with fail
        clear hbr
        refine wp_region_planF (Φ := Fresh w60.heap.size #[.int .i64 0, .int .i64 0] 61) [(0, 1), (2, 1), (4, 1), (5, 1), (7, 1), (8, 1), (1, 0), (3, 0), (6, 0), (9, 0), (10, 1), (11, 1), (12, 1), (13, 2), (14, 3), (15, 1)] 13 w60.heap.size _ rfl (by kernel_rfl) (by kernel_rfl) (Nat.le_refl _) (fun _ _ d _ _ h => by cases d <;> exact h) (fun _ _ d _ _ h => by cases d <;> exact h) (fun v w w' hv hb => hv.below hb) ?hF ?_
        case hF =>
          intro a wq hq
          refine ⟨rfl, ?_⟩
          have hsz := hq.size
          go_simp
          exact ⟨_, rfl, ⟨_, rfl, hsz, heap_new rfl⟩, (Below.refl _ _).alloc (Nat.le_refl _) _⟩
        have hC : Below w60.heap.size w60 w60 := Below.refl _ _
        have hBr := hB60
        have zhT0 : w.heap.size < w60.heap.size := (Array.getElem?_eq_some_iff.1 hT0).1
        have zhT1 : w.heap.size + 1 < w60.heap.size := (Array.getElem?_eq_some_iff.1 hT1).1
        have zhT2 : w.heap.size + 1 + 1 < w60.heap.size := (Array.getElem?_eq_some_iff.1 hT2).1
        have hT00 := hT0
        have hT10 := hT1
        have hT20 := hT2
        have H0 := H
        have HP0 := HP
        have HD0 := HD
        have HE0 := HE
        have HM0 := HM
        have hst0 := hst
        have hI0 := hI
        repeat (first | (refine wpPlanFA_skip _ rfl (by rfl) ?_; simp only [Act.put, List.setIfInBounds_toArray, List.set_cons_zero, List.set_cons_succ]) | (refine wpPlanFA_soft _ ?_ rfl (by rfl) ?_ ?_; rotate_left; (intro wq hq hcq; go_simp; first | exact rfl | exact ⟨rfl, rfl⟩); simp only [Act.put, List.setIfInBounds_toArray, List.set_cons_zero, List.set_cons_succ]))
        refine wpPlanFA_hard _ rfl (by rfl) (fun w61 hS K hK => ?_)
        have hB61 := hB60.call hS rfl
        replace hC := hC.call hS rfl
        replace hT0 := blkb hT0 hS
        replace hT1 := blkb hT1 hS
        replace hT2 := blkb hT2 hS
        replace H := H.below hS
        replace HP := HP.below hS
        replace HD := HD.below hS
        replace HE := HE.below hS
        replace HM := HM.below hS
        replace hst := hst.below hS
        replace hI := hI.below hS
        clear hS hB60
        go_simp
        refine (c20d c r A n cap l _ hl H).mono ?_
        rintro e w62 ⟨B38, cb38, rfl, hr38, hb⟩
        have hB62 := hB61.call hb rfl
        replace hC := hC.call hb rfl
        replace hT0 := blkb hT0 hb
        replace hT1 := blkb hT1 hb
        replace hT2 := blkb hT2 hb
        replace H := H.below hb
        replace HP := HP.below hb
        replace HD := HD.below hb
        replace HE := HE.below hb
        replace HM := HM.below hb
        replace hst := hst.below hb
        replace hI := hI.below hb
        refine hK _ _ hC hb ?_
        clear hK K hb hB61
        try simp only [Act.put, List.setIfInBounds_toArray, List.set_cons_zero, List.set_cons_succ]
        refine wpPlanFA_hard _ rfl (by rfl) (fun w63 hS K hK => ?_)
        have hB63 := hB62.call hS rfl
        replace hC := hC.call hS rfl
        replace hT0 := blkb hT0 hS
        replace hT1 := blkb hT1 hS
        replace hT2 := blkb hT2 hS
        replace H := H.below hS
        replace HP := HP.below hS
        replace HD := HD.below hS
        replace HE := HE.below hS
        replace HM := HM.below hS
        replace hst := hst.below hS
        replace hI := hI.below hS
        replace hr38 := hr38.below hS
        clear hS hB62
        go_simp
        refine (c21d un len most P np capp ps _ hp HP).mono ?_
        rintro e w64 ⟨P39, pc39, rfl, ⟨hp39, hq39⟩, hb⟩
        have hB64 := hB63.call hb rfl
        replace hC := hC.call hb rfl
        replace hT0 := blkb hT0 hb
        replace hT1 := blkb hT1 hb
        replace hT2 := blkb hT2 hb
        replace H := H.below hb
        replace HP := HP.below hb
        replace HD := HD.below hb
        replace HE := HE.below hb
        replace HM := HM.below hb
        replace hst := hst.below hb
        replace hI := hI.below hb
        replace hr38 := hr38.below hb
        refine hK _ _ hC hb ?_
        clear hK K hb hB63
        try simp only [Act.put, List.setIfInBounds_toArray, List.set_cons_zero, List.set_cons_succ]
        refine wpPlanFA_hard _ rfl (by rfl) (fun w65 hS K hK => ?_)
        have hB65 := hB64.call hS rfl
        replace hC := hC.call hS rfl
        replace hT0 := blkb hT0 hS
        replace hT1 := blkb hT1 hS
        replace hT2 := blkb hT2 hS
        replace H := H.below hS
        replace HP := HP.below hS
        replace HD := HD.below hS
        replace HE := HE.below hS
        replace HM := HM.below hS
        replace hst := hst.below hS
        replace hI := hI.below hS
        replace hr38 := hr38.below hS
        replace hp39 := hp39.below hS
        clear hS hB64
        go_simp
        refine (c33d D np cd dl _ h5 HD45'.out HD).mono ?_
        rintro e w66 ⟨F40, fc40, rfl, he40, hb⟩
        have hB66 := hB65.call hb rfl
        replace hC := hC.call hb rfl
        replace hT0 := blkb hT0 hb
        replace hT1 := blkb hT1 hb
        replace hT2 := blkb hT2 hb
        replace H := H.below hb
        replace HP := HP.below hb
        replace HD := HD.below hb
        replace HE := HE.below hb
        replace HM := HM.below hb
        replace hst := hst.below hb
        replace hI := hI.below hb
        replace hr38 := hr38.below hb
        replace hp39 := hp39.below hb
        refine hK _ _ hC hb ?_
        clear hK K hb hB65
        try simp only [Act.put, List.setIfInBounds_toArray, List.set_cons_zero, List.set_cons_succ]
        refine wpPlanFA_hard _ rfl (by rfl) (fun w67 hS K hK => ?_)
        have hB67 := hB66.call hS rfl
        replace hC := hC.call hS rfl
        replace hT0 := blkb hT0 hS
        replace hT1 := blkb hT1 hS
        replace hT2 := blkb hT2 hS
        replace H := H.below hS
        replace HP := HP.below hS
        replace HD := HD.below hS
        replace HE := HE.below hS
        replace HM := HM.below hS
        replace hst := hst.below hS
        replace hI := hI.below hS
        replace hr38 := hr38.below hS
        replace hp39 := hp39.below hS
        replace he40 := he40.below hS
        clear hS hB66
        go_simp
        refine (K35.out _ _ _ _ _ _ _ hq39 hr38 hp39 he40 hst).mono ?_
        rintro e w68 ⟨rfl, hb⟩
        have hB68 := hB67.call hb rfl
        replace hC := hC.call hb rfl
        replace hT0 := blkb hT0 hb
        replace hT1 := blkb hT1 hb
        replace hT2 := blkb hT2 hb
        replace H := H.below hb
        replace HP := HP.below hb
        replace HD := HD.below hb
        replace HE := HE.below hb
        replace HM := HM.below hb
        replace hst := hst.below hb
        replace hI := hI.below hb
        replace hr38 := hr38.below hb
        replace hp39 := hp39.below hb
        replace he40 := he40.below hb
        refine hK _ _ hC hb ?_
        clear hK K hb hB67
        try simp only [Act.put, List.setIfInBounds_toArray, List.set_cons_zero, List.set_cons_succ]
        repeat (first | (refine wpPlanFA_skip _ rfl (by rfl) ?_; simp only [Act.put, List.setIfInBounds_toArray, List.set_cons_zero, List.set_cons_succ]) | (refine wpPlanFA_soft _ ?_ rfl (by rfl) ?_ ?_; rotate_left; (intro wq hq hcq; go_simp; first | exact rfl | exact ⟨rfl, rfl⟩); simp only [Act.put, List.setIfInBounds_toArray, List.set_cons_zero, List.set_cons_succ]))
        clear hr38
        clear hp39
        clear he40
        refine wpPlanFA_float _ rfl (fun v w69 hS hv => ?_)
        obtain ⟨bhAm, rfl, hge, hAm⟩ := hv
        have hB69 := hB68.call hS rfl
        replace hC := hC.call hS rfl
        replace hT0 := blkb hT0 hS
        replace hT1 := blkb hT1 hS
        replace hT2 := blkb hT2 hS
        replace H := H.below hS
        replace HP := HP.below hS
        replace HD := HD.below hS
        replace HE := HE.below hS
        replace HM := HM.below hS
        replace hst := hst.below hS
        replace hI := hI.below hS
        clear hS hB68
        try simp only [Act.put, List.setIfInBounds_toArray, List.set_cons_zero, List.set_cons_succ]
        refine wpPlanFA_late _ rfl (by rfl) (fun w70 hS K hK => ?_)
        replace hC := hC.call hS rfl
        replace hAm := blkb hAm hS
        clear hS hB69 hT0 hT1 hT2 H HP HD HE HM hst hI
        refine wp_store_blk 61 _ _ rfl bhAm _ rfl rfl hAm ?s1 ?s2 ?s3 ?_
        case s1 => rfl
        case s2 => kernel_rfl
        case s3 => simp [Value.oneCell']
        intro w71 hAmn hg3 hs3
        replace hC : Below w60.heap.size w60 w71 := hC.grown hg3 hC.size (fun j hj => by cases hj; exact hge)
        refine hK _ _ hC ?_
        clear hK K hAm hg3 hs3
        have hAm := hAmn
        clear hAmn
        have hB71 := hBr.call hC rfl
        have hT0 := blkb hT00 hC
        have hT1 := blkb hT10 hC
        have hT2 := blkb hT20 hC
        have H := H0.below hC
        have HP := HP0.below hC
        have HD := HD0.below hC
        have HE := HE0.below hC
        have HM := HM0.below hC
        have hst := hst0.below hC
        have hI := hI0.below hC
        try simp only [Act.put, List.setIfInBounds_toArray, List.set_cons_zero, List.set_cons_succ]
        repeat (first | (refine wpPlanFA_skip _ rfl (by rfl) ?_; simp only [Act.put, List.setIfInBounds_toArray, List.set_cons_zero, List.set_cons_succ]) | (refine wpPlanFA_soft _ ?_ rfl (by rfl) ?_ ?_; rotate_left; (intro wq hq hcq; go_simp; first | exact rfl | exact ⟨rfl, rfl⟩); simp only [Act.put, List.setIfInBounds_toArray, List.set_cons_zero, List.set_cons_succ]))
        clear qhT0_0 qhT0_1 qhT0_2 qhT1_0 qhT1_1 qhT1_2 qhT1_3 qhT2_0 qhT2_1 qhT2_2 qhT2_3 qhT2_4 qhT2_5
        refine wpPlanFA_nil (fun w72 hS => ?_)
        clear hC hge hBr zhT0 zhT1 zhT2 hT00 hT10 hT20 H0 HP0 HD0 HE0 HM0 hst0 hI0
        have hB72 := hB71.call hS rfl
        replace hT0 := blkb hT0 hS
        replace hT1 := blkb hT1 hS
        replace hT2 := blkb hT2 hS
        replace H := H.below hS
        replace HP := HP.below hS
        replace HD := HD.below hS
        replace HE := HE.below hS
        replace HM := HM.below hS
        replace hst := hst.below hS
        replace hI := hI.below hS
        replace hAm := blkb hAm hS
        clear hS hB71
        have qhT0_0 : w72.cell? ⟨w.heap.size, 0, none⟩ = some (.int .i64 c) := cell_at hT0 rfl
        have qhT0_1 : w72.cell? ⟨w.heap.size, 1, none⟩ = some (.int .i64 r) := cell_at hT0 rfl
        have qhT0_2 : w72.cell? ⟨w.heap.size, 2, none⟩ = some (.slice A n cap) := cell_at hT0 rfl
        have qhT1_0 : w72.cell? ⟨w.heap.size + 1, 0, none⟩ = some (.int .i64 un) := cell_at hT1 rfl
        have qhT1_1 : w72.cell? ⟨w.heap.size + 1, 1, none⟩ = some (.int .i64 len) := cell_at hT1 rfl
        have qhT1_2 : w72.cell? ⟨w.heap.size + 1, 2, none⟩ = some (.int .i64 most) := cell_at hT1 rfl
        have qhT1_3 : w72.cell? ⟨w.heap.size + 1, 3, none⟩ = some (.slice P np capp) := cell_at hT1 rfl
        have qhT2_0 : w72.cell? ⟨w.heap.size + 1 + 1, 0, none⟩ = some (.slice D np cd) := cell_at hT2 rfl
        have qhT2_1 : w72.cell? ⟨w.heap.size + 1 + 1, 1, none⟩ = some (.slice E np ce) := cell_at hT2 rfl
        have qhT2_2 : w72.cell? ⟨w.heap.size + 1 + 1, 2, none⟩ = some (.slice M n cm) := cell_at hT2 rfl
        have qhT2_3 : w72.cell? ⟨w.heap.size + 1 + 1, 3, none⟩ = some (.int .i64 s) := cell_at hT2 rfl
        have qhT2_4 : w72.cell? ⟨w.heap.size + 1 + 1, 4, none⟩ = some (.int .i64 f) := cell_at hT2 rfl
        have qhT2_5 : w72.cell? ⟨w.heap.size + 1 + 1, 5, none⟩ = some (.int .i64 i) := cell_at hT2 rfl
        by_cases hmz : many = 0
        ·
            have HAE := Lib.hid (HA0.out hmz)
            obtain rfl := HAE.out
            have hz1 : ((many : Int) == 0) = true := by simp; omega
            clear hmz
            go_wp2_with fail
            refine (c18 _ hst).mono ?_
            rintro e wz ⟨rfl, hz⟩
            go_wp2
            go_ret
            exact ⟨rfl, hB72.call hz rfl⟩
        obtain ⟨hae, hden1, hden2, hnm, hz1, hz2⟩ := HA1.out (by omega)
        subst hae
        have hmf : ((many : Int) == 0) = false := by simp; omega
        obtain ⟨ib, io, rfl, zib⟩ := hI.form (by omega)
        have qI := hI.get hiN
        have hi2 : (i : Int) < (n : Int) := by omega
        have hi0 : (0 : Int) ≤ (i : Int) := by omega
        generalize Im.at0 IMG i = x at qI hnm hz1 hz2
        obtain ⟨z, hz⟩ : ∃ z, z = x * DEN := ⟨_, rfl⟩
        have hw2 : IntKind.i64.wrap (x * DEN) = z := by rw [hz]; exact wrapI (by omega)
        have hw1 : IntKind.i64.wrap (NUM * (many : Int)) = z := by rw [hnm]; exact hw2
        have hd1 : decide (1 ≤ DEN) = true := by simpa using hden1
        have hd2 : decide (DEN ≤ (many : Int)) = true := by simpa using hden2
        have qA0 : w72.cell? ⟨bhAm, 0, none⟩ = some (.int .i64 NUM) := cell_at hAm rfl
        have qA1 : w72.cell? ⟨bhAm, 1, none⟩ = some (.int .i64 DEN) := cell_at hAm rfl
        have zA := cell_lt qA1
        clear hz hmz hden1 hden2 hnm hz1 hz2
        clear hI
        go_wp2_with fail
        refine wp_region_plan [(0, true), (1, true), (2, true), (3, true), (4, true), (5, true), (6, true), (7, true), (8, true), (9, true), (10, true), (11, true), (12, true), (13, true), (14, true), (15, true), (16, true), (17, true), (18, true), (19, true), (20, true), (21, true), (22, true), (23, true), (24, true), (25, true), (26, true), (27, true), (28, true), (29, false), (30, true), (31, true)] w72.heap.size (by kernel_rfl) (by kernel_rfl) (Nat.le_refl _) (fun _ _ d _ _ h => by cases d <;> exact h) ?_
        have hC : Below w72.heap.size w72 w72 := Below.refl _ _
        have zhT0 : w.heap.size < w72.heap.size := (Array.getElem?_eq_some_iff.1 hT0).1
        have zhT1 : w.heap.size + 1 < w72.heap.size := (Array.getElem?_eq_some_iff.1 hT1).1
        have zhT2 : w.heap.size + 1 + 1 < w72.heap.size := (Array.getElem?_eq_some_iff.1 hT2).1
        repeat (first | (refine wpPlanA_skip _ rfl (by rfl) ?_; simp only [Act.put, List.setIfInBounds_toArray, List.set_cons_zero, List.set_cons_succ]) | (refine wpPlanA_soft _ ?_ rfl (by rfl) ?_ ?_; rotate_left; (intro wq hq hcq; go_simp; first | exact rfl | exact ⟨rfl, rfl⟩); simp only [Act.put, List.setIfInBounds_toArray, List.set_cons_zero, List.set_cons_succ]))
        clear qI qA0 qA1 zA zib
        refine wpPlanA_hard _ rfl (by rfl) (fun w73 hS K hK => ?_)
        go_simp
        refine (c18 _ (hst.below hS)).mono ?_
        rintro e w74 ⟨rfl, hb⟩
        replace hS := hS.call hb rfl
        have hB74 := hB72.call hS rfl
        replace hC := hC.call hS rfl
        replace hT0 := blkb hT0 hS
        replace hT1 := blkb hT1 hS
        replace hT2 := blkb hT2 hS
        replace H := H.below hS
        replace HP := HP.below hS
        replace HD := HD.below hS
        replace HE := HE.below hS
        replace HM := HM.below hS
        replace hst := hst.below hS
        replace hAm := blkb hAm hS
        refine hK _ _ hC ?_
        clear hS hb hB72 hK K
        try simp only [Act.put, List.setIfInBounds_toArray, List.set_cons_zero, List.set_cons_succ]
        repeat (first | (refine wpPlanA_skip _ rfl (by rfl) ?_; simp only [Act.put, List.setIfInBounds_toArray, List.set_cons_zero, List.set_cons_succ]) | (refine wpPlanA_soft _ ?_ rfl (by rfl) ?_ ?_; rotate_left; (intro wq hq hcq; go_simp; first | exact rfl | exact ⟨rfl, rfl⟩); simp only [Act.put, List.setIfInBounds_toArray, List.set_cons_zero, List.set_cons_succ]))
        clear qhT0_0 qhT0_1 qhT0_2 qhT1_0 qhT1_1 qhT1_2 qhT1_3 qhT2_0 qhT2_1 qhT2_2 qhT2_3 qhT2_4 qhT2_5
        refine wpPlanA_nil (fun w75 hS => ?_)
        clear hC zhT0 zhT1 zhT2
        have hB75 := hB74.call hS rfl
        replace hT0 := blkb hT0 hS
        replace hT1 := blkb hT1 hS
        replace hT2 := blkb hT2 hS
        replace H := H.below hS
        replace HP := HP.below hS
        replace HD := HD.below hS
        replace HE := HE.below hS
        replace HM := HM.below hS
        replace hst := hst.below hS
        replace hAm := blkb hAm hS
        clear hS hB74
        have qhT0_0 : w75.cell? ⟨w.heap.size, 0, none⟩ = some (.int .i64 c) := cell_at hT0 rfl
        have qhT0_1 : w75.cell? ⟨w.heap.size, 1, none⟩ = some (.int .i64 r) := cell_at hT0 rfl
        have qhT0_2 : w75.cell? ⟨w.heap.size, 2, none⟩ = some (.slice A n cap) := cell_at hT0 rfl
        have qhT1_0 : w75.cell? ⟨w.heap.size + 1, 0, none⟩ = some (.int .i64 un) := cell_at hT1 rfl
        have qhT1_1 : w75.cell? ⟨w.heap.size + 1, 1, none⟩ = some (.int .i64 len) := cell_at hT1 rfl
        have qhT1_2 : w75.cell? ⟨w.heap.size + 1, 2, none⟩ = some (.int .i64 most) := cell_at hT1 rfl
        have qhT1_3 : w75.cell? ⟨w.heap.size + 1, 3, none⟩ = some (.slice P np capp) := cell_at hT1 rfl
        have qhT2_0 : w75.cell? ⟨w.heap.size + 1 + 1, 0, none⟩ = some (.slice D np cd) := cell_at hT2 rfl
        have qhT2_1 : w75.cell? ⟨w.heap.size + 1 + 1, 1, none⟩ = some (.slice E np ce) := cell_at hT2 rfl
        have qhT2_2 : w75.cell? ⟨w.heap.size + 1 + 1, 2, none⟩ = some (.slice M n cm) := cell_at hT2 rfl
        have qhT2_3 : w75.cell? ⟨w.heap.size + 1 + 1, 3, none⟩ = some (.int .i64 s) := cell_at hT2 rfl
        have qhT2_4 : w75.cell? ⟨w.heap.size + 1 + 1, 4, none⟩ = some (.int .i64 f) := cell_at hT2 rfl
        have qhT2_5 : w75.cell? ⟨w.heap.size + 1 + 1, 5, none⟩ = some (.int .i64 i) := cell_at hT2 rfl
        go_wp2
        go_ret
        exact ⟨rfl, hB75⟩

end Go.Proofs.YtdimmlljjmmdbaaGreatDoor
