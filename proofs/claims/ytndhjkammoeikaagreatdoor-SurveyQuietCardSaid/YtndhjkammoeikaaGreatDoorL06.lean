/- A part of the proofs about chapter 9: contracts of functions and plain laws (W71). -/
import Derived.Test.YtndhjkammoeikaaGreatDoorL02
import Derived.Test.YtndhjkammoeikaaGreatDoorL05
import Derived.Test.YtndhjkammoeikaaGreatDoorL01
set_option linter.all false
namespace Go.Proofs.YtndhjkammoeikaaGreatDoor
open Go.RowKit
set_option maxHeartbeats 100000000
set_option maxRecDepth 20000

def putRange (a : Act) (lo : Nat) (xs : List Value) : Act := ⟨(a.tmps.toList.take lo ++ (xs ++ a.tmps.toList.drop (lo + xs.length))).toArray, a.defers⟩
theorem wp_merge {P : Program} {code : Code} {Q : Exit → Act → World → Prop} {a : Act} {w : World} (lo : Nat) (X : List Value → Prop)
    (h1 : code.wp P (fun e a' w' => e = .normal ∧ (∃ xs, X xs ∧ a' = putRange a lo xs) ∧ Below w.heap.size w w') a w)
    (h2 : ∀ xs w', X xs → Below w.heap.size w w' → Q .normal (putRange a lo xs) w') : code.wp P Q a w :=
  wp_mono h1 (by rintro e a' w' ⟨rfl, ⟨x, hx, rfl⟩, hb⟩; exact h2 x w' hx hb)
theorem wrapI (n : Int) (h0 : -9223372036854775808 ≤ n) (h1 : n ≤ 9223372036854775807) : IntKind.i64.wrap n = n := by rw [IntKind.wrap_i64]; omega
theorem l7_bad (v : Ves) (u : Wat) (A : Option Addr) (cap : Nat) (l : List Sgt) (w : World) (H : RdL w 3 Sgt.enc A l) (hbad : Mo.all v u l ≠ 0) :
    Calls Tryz.prog 7 #[.agg #[.int .i64 v.sx, .int .i64 v.sy, .int .i64 v.dx, .int .i64 v.dy, .int .i64 v.n], .agg #[.int .i64 u.ring, .int .i64 u.speed, .int .i64 u.loss, .int .i64 u.clear, .int .i64 u.soft, .slice A l.length cap]] w fun en w' => en = .returned (.bool true) ∧ Below w.heap.size w w' := by
  obtain ⟨N, hN⟩ : ∃ N, N = l.length := ⟨_, rfl⟩
  obtain ⟨E, hE⟩ : ∃ E, E = Mo.all v u l := ⟨_, rfl⟩
  have h20 := fun w1 (h : l.length ≤ 1000000) (H1 : RdS w1 3 A l.length (l.flatMap Sgt.enc)) => c20 v u A cap l w1 h H1
  rw [← hE] at hbad h20
  have hq : (E != 0) = true := by simpa using hbad
  replace H : RdS w 3 A l.length (l.flatMap Sgt.enc) := H
  rw [← hN] at H h20 ⊢
  have H20 := Lib.hid h20
  clear h20 hN hE hbad
  go_enter Tryz.func7, Tryz.ntmps7
  obtain ⟨w0, hW⟩ : ∃ W, W = (w.alloc (Obj.cells #[.int .i64 v.sx, .int .i64 v.sy, .int .i64 v.dx, .int .i64 v.dy, .int .i64 v.n] 25)).alloc (Obj.cells #[.int .i64 u.ring, .int .i64 u.speed, .int .i64 u.loss, .int .i64 u.clear, .int .i64 u.soft, .slice A N cap] 60) := ⟨_, rfl⟩
  have hT0 : w0.heap[w.heap.size]? = some (.cells #[.int .i64 v.sx, .int .i64 v.sy, .int .i64 v.dx, .int .i64 v.dy, .int .i64 v.n] 25 (0, 0)) := by rw [hW]; exact heap_old (by simp <;> omega) (heap_new (by simp))
  have hT1 : w0.heap[w.heap.size + 1]? = some (.cells #[.int .i64 u.ring, .int .i64 u.speed, .int .i64 u.loss, .int .i64 u.clear, .int .i64 u.soft, .slice A N cap] 60 (0, 0)) := by rw [hW]; exact heap_new (by simp)
  have hB0 : Below w.heap.size w w0 := by rw [hW]; exact (((Below.refl _ _).alloc (by first | omega | (simp <;> omega)) _).alloc (by first | omega | (simp <;> omega)) _)
  replace H := H.below hB0
  go_wp2_with fail
  rw [← hW]
  clear hW
  have qhT0_0 : w0.cell? ⟨w.heap.size, 0, none⟩ = some (.int .i64 v.sx) := cell_at hT0 rfl
  have qhT0_1 : w0.cell? ⟨w.heap.size, 1, none⟩ = some (.int .i64 v.sy) := cell_at hT0 rfl
  have qhT0_2 : w0.cell? ⟨w.heap.size, 2, none⟩ = some (.int .i64 v.dx) := cell_at hT0 rfl
  have qhT0_3 : w0.cell? ⟨w.heap.size, 3, none⟩ = some (.int .i64 v.dy) := cell_at hT0 rfl
  have qhT0_4 : w0.cell? ⟨w.heap.size, 4, none⟩ = some (.int .i64 v.n) := cell_at hT0 rfl
  have qhT1_0 : w0.cell? ⟨w.heap.size + 1, 0, none⟩ = some (.int .i64 u.ring) := cell_at hT1 rfl
  have qhT1_1 : w0.cell? ⟨w.heap.size + 1, 1, none⟩ = some (.int .i64 u.speed) := cell_at hT1 rfl
  have qhT1_2 : w0.cell? ⟨w.heap.size + 1, 2, none⟩ = some (.int .i64 u.loss) := cell_at hT1 rfl
  have qhT1_3 : w0.cell? ⟨w.heap.size + 1, 3, none⟩ = some (.int .i64 u.clear) := cell_at hT1 rfl
  have qhT1_4 : w0.cell? ⟨w.heap.size + 1, 4, none⟩ = some (.int .i64 u.soft) := cell_at hT1 rfl
  have qhT1_5 : w0.cell? ⟨w.heap.size + 1, 5, none⟩ = some (.slice A N cap) := cell_at hT1 rfl
  go_wp2_with fail
  refine (c14 v A N cap _).mono ?_
  rintro e w1 ⟨⟨b, rfl, hb1⟩, hb⟩
  clear qhT0_0 qhT0_1 qhT0_2 qhT0_3 qhT0_4 qhT1_0 qhT1_1 qhT1_2 qhT1_3 qhT1_4 qhT1_5
  have hS := hb
  have hB1 := hB0.call hS rfl
  replace hT0 := blkb hT0 hS
  replace hT1 := blkb hT1 hS
  replace H := H.below hS
  clear hS hB0
  have qhT0_0 : w1.cell? ⟨w.heap.size, 0, none⟩ = some (.int .i64 v.sx) := cell_at hT0 rfl
  have qhT0_1 : w1.cell? ⟨w.heap.size, 1, none⟩ = some (.int .i64 v.sy) := cell_at hT0 rfl
  have qhT0_2 : w1.cell? ⟨w.heap.size, 2, none⟩ = some (.int .i64 v.dx) := cell_at hT0 rfl
  have qhT0_3 : w1.cell? ⟨w.heap.size, 3, none⟩ = some (.int .i64 v.dy) := cell_at hT0 rfl
  have qhT0_4 : w1.cell? ⟨w.heap.size, 4, none⟩ = some (.int .i64 v.n) := cell_at hT0 rfl
  have qhT1_0 : w1.cell? ⟨w.heap.size + 1, 0, none⟩ = some (.int .i64 u.ring) := cell_at hT1 rfl
  have qhT1_1 : w1.cell? ⟨w.heap.size + 1, 1, none⟩ = some (.int .i64 u.speed) := cell_at hT1 rfl
  have qhT1_2 : w1.cell? ⟨w.heap.size + 1, 2, none⟩ = some (.int .i64 u.loss) := cell_at hT1 rfl
  have qhT1_3 : w1.cell? ⟨w.heap.size + 1, 3, none⟩ = some (.int .i64 u.clear) := cell_at hT1 rfl
  have qhT1_4 : w1.cell? ⟨w.heap.size + 1, 4, none⟩ = some (.int .i64 u.soft) := cell_at hT1 rfl
  have qhT1_5 : w1.cell? ⟨w.heap.size + 1, 5, none⟩ = some (.slice A N cap) := cell_at hT1 rfl
  clear hb
  cases b
  case false =>
    go_wp2_with fail
    refine (c15 _).mono ?_
    rintro e wz ⟨rfl, hz⟩
    go_wp2
    go_ret
    exact ⟨rfl, hB1.call hz rfl⟩
  have hl := hb1 rfl
  clear hb1
  go_wp2_with fail
  refine (H20.out _ (by omega) H).mono ?_
  rintro e w2 ⟨rfl, hb⟩
  clear qhT0_0 qhT0_1 qhT0_2 qhT0_3 qhT0_4 qhT1_0 qhT1_1 qhT1_2 qhT1_3 qhT1_4 qhT1_5
  have hS := hb
  have hB2 := hB1.call hS rfl
  replace hT0 := blkb hT0 hS
  replace hT1 := blkb hT1 hS
  replace H := H.below hS
  clear hS hB1
  have qhT0_0 : w2.cell? ⟨w.heap.size, 0, none⟩ = some (.int .i64 v.sx) := cell_at hT0 rfl
  have qhT0_1 : w2.cell? ⟨w.heap.size, 1, none⟩ = some (.int .i64 v.sy) := cell_at hT0 rfl
  have qhT0_2 : w2.cell? ⟨w.heap.size, 2, none⟩ = some (.int .i64 v.dx) := cell_at hT0 rfl
  have qhT0_3 : w2.cell? ⟨w.heap.size, 3, none⟩ = some (.int .i64 v.dy) := cell_at hT0 rfl
  have qhT0_4 : w2.cell? ⟨w.heap.size, 4, none⟩ = some (.int .i64 v.n) := cell_at hT0 rfl
  have qhT1_0 : w2.cell? ⟨w.heap.size + 1, 0, none⟩ = some (.int .i64 u.ring) := cell_at hT1 rfl
  have qhT1_1 : w2.cell? ⟨w.heap.size + 1, 1, none⟩ = some (.int .i64 u.speed) := cell_at hT1 rfl
  have qhT1_2 : w2.cell? ⟨w.heap.size + 1, 2, none⟩ = some (.int .i64 u.loss) := cell_at hT1 rfl
  have qhT1_3 : w2.cell? ⟨w.heap.size + 1, 3, none⟩ = some (.int .i64 u.clear) := cell_at hT1 rfl
  have qhT1_4 : w2.cell? ⟨w.heap.size + 1, 4, none⟩ = some (.int .i64 u.soft) := cell_at hT1 rfl
  have qhT1_5 : w2.cell? ⟨w.heap.size + 1, 5, none⟩ = some (.slice A N cap) := cell_at hT1 rfl
  clear hb
  go_wp2_with fail
  refine (c15 _).mono ?_
  rintro e wz ⟨rfl, hz⟩
  go_wp2
  go_ret
  exact ⟨rfl, hB2.call hz rfl⟩

theorem l7_ok (v : Ves) (u : Wat) (A : Option Addr) (cap : Nat) (l : List Sgt) (N : Nat) (w : World) (H : RdL w 3 Sgt.enc A l) (hall : Mo.all v u l = 0) (hN : v.n = (N : Int)) :
    Calls Tryz.prog 7 #[.agg #[.int .i64 v.sx, .int .i64 v.sy, .int .i64 v.dx, .int .i64 v.dy, .int .i64 (N : Int)], .agg #[.int .i64 u.ring, .int .i64 u.speed, .int .i64 u.loss, .int .i64 u.clear, .int .i64 u.soft, .slice A l.length cap]] w fun en w' => en = .returned (.bool true) ∧ Below w.heap.size w w' := by
  obtain ⟨hvo, huo, hl64, _⟩ := Mo.all_ok hall
  have hNb := hvo.n
  have hNN : v.n.toNat = N := by omega
  obtain ⟨p, hp⟩ : ∃ p : Nat → Bool, p = fun (k : Nat) => Mo.inside v u l k := ⟨_, rfl⟩
  obtain ⟨lev, hlev⟩ : ∃ lev : Nat → Int, lev = Mo.level v u l := ⟨_, rfl⟩
  obtain ⟨R, hR⟩ : ∃ R, R = Mo.runs (fun (t : Nat) => Mo.level v u l t == 0) N := ⟨_, rfl⟩
  obtain ⟨PA, hPA⟩ : ∃ a, a = ((Mo.insides v u l).map Value.bool).toArray := ⟨_, rfl⟩
  obtain ⟨LA, hLA⟩ : ∃ a, a = ((Mo.levels v u l).map (Value.int .i64)).toArray := ⟨_, rfl⟩
  have hRl : R.length ≤ N := by rw [hR]; exact Mo.runs_len _ _
  have hRc : ∀ k : Nat, k < N → Mo.cov R k = if lev k = 0 then 1 else 0 := by
    intro k hk
    rw [hR, Mo.cov_runs, hlev]
    by_cases h : Mo.level v u l k = 0 <;> simp [h, hk]
  have hf := fun k => Mo.level_facts v u l k huo
  have hst := fun k => Mo.level_step v u l k huo
  have hp1 : ∀ k, k < N → PA[k]? = some (.bool (p k)) := by intro k hk; rw [hPA, hp]; exact Mo.ins_get v u l k (by omega)
  have hl1 : ∀ k, k < N → LA[k]? = some (.int .i64 (lev k)) := by intro k hk; rw [hLA, hlev]; exact Mo.lev_get v u l k (by omega)
  have hfo := fun (k : Nat) (x : Int) (hk : k < N) => Mo.fires_one v u l k x hall (by omega)
  rw [← hp, ← hlev] at hf
  rw [← hlev] at hst hfo
  have hfo2 : ∀ (k : Nat) (x : Int), k < N → 1 ≤ x → x ≤ 1001 → Mo.fires v u l [⟨k, x⟩] = if p k = true then (if lev k < x then 31 else 0) else if lev k < x then 21 else 0 := by
    intro k x hk h1 h2; rw [hp]; exact hfo k x hk h1 h2
  have h20 := fun w1 (h : l.length ≤ 1000000) (H1 : RdS w1 3 A l.length (l.flatMap Sgt.enc)) => c20 v u A cap l w1 h H1
  have h16 := fun w1 A cap (H1 : RdS w1 3 A l.length (l.flatMap Sgt.enc)) => c16_ok v u A cap l w1 H1 hall
  have h18 := fun w1 A cap (H1 : RdS w1 3 A l.length (l.flatMap Sgt.enc)) => c18_ok v u A cap l w1 H1 hall
  have h19 := fun w1 A cap (H1 : RdS w1 3 A l.length (l.flatMap Sgt.enc)) => c19_ok v u A cap l w1 H1 hall
  have h17 := fun w1 (H1 : RdS w1 3 A l.length (l.flatMap Sgt.enc)) => c17 A cap l w1 (by omega) H1
  have h14 := fun w1 A n cap => c14 v A n cap w1
  have h34 := fun w1 A cap D dcap (fs : List Fir) (h : fs.length ≤ 1000000) (H1 : RdS w1 3 A l.length (l.flatMap Sgt.enc)) (H2 : RdL w1 2 Fir.enc D fs) => c34 v u A cap l D dcap fs w1 (by omega) H1 h H2
  rw [hNN] at h16 h18 h19
  rw [← hPA] at h16
  rw [← hLA] at h18
  rw [← hR] at h19
  rw [hall] at h20
  rw [hN] at h20 h16 h18 h19 h14 h34
  obtain ⟨M, hM⟩ : ∃ M, M = l.length := ⟨_, rfl⟩
  replace H : RdS w 3 A l.length (l.flatMap Sgt.enc) := H
  have hM64 : M ≤ 64 := by omega
  rw [← hM] at H h20 h16 h18 h19 h17 h34 ⊢
  have hus := huo.soft
  have huc := huo.clear
  have HF := Lib.hid hf
  have HST := Lib.hid hst
  have HP1 := Lib.hid hp1
  have HL1 := Lib.hid hl1
  have HFO := Lib.hid hfo2
  have HRC := Lib.hid hRc
  have H20 := Lib.hid h20
  have H16 := Lib.hid h16
  have H18 := Lib.hid h18
  have H19 := Lib.hid h19
  have H17 := Lib.hid h17
  have H14 := Lib.hid h14
  have H34 := Lib.hid h34
  have hN1 : 1 ≤ N ∧ N ≤ 4096 := by omega
  have hnn : ((N : Int) != (N : Int)) = false := by simp
  clear hf hst hp1 hl1 hfo hfo2 hRc h20 h16 h18 h19 h17 h14 h34 hM hp hlev hR hPA hLA hvo huo hNb hNN hN hall hl64
  go_enter Tryz.func7, Tryz.ntmps7
  obtain ⟨w0, hW⟩ : ∃ W, W = (w.alloc (Obj.cells #[.int .i64 v.sx, .int .i64 v.sy, .int .i64 v.dx, .int .i64 v.dy, .int .i64 (N : Int)] 25)).alloc (Obj.cells #[.int .i64 u.ring, .int .i64 u.speed, .int .i64 u.loss, .int .i64 u.clear, .int .i64 u.soft, .slice A M cap] 60) := ⟨_, rfl⟩
  have hT0 : w0.heap[w.heap.size]? = some (.cells #[.int .i64 v.sx, .int .i64 v.sy, .int .i64 v.dx, .int .i64 v.dy, .int .i64 (N : Int)] 25 (0, 0)) := by rw [hW]; exact heap_old (by simp <;> omega) (heap_new (by simp))
  have hT1 : w0.heap[w.heap.size + 1]? = some (.cells #[.int .i64 u.ring, .int .i64 u.speed, .int .i64 u.loss, .int .i64 u.clear, .int .i64 u.soft, .slice A M cap] 60 (0, 0)) := by rw [hW]; exact heap_new (by simp)
  have hB0 : Below w.heap.size w w0 := by rw [hW]; exact (((Below.refl _ _).alloc (by first | omega | (simp <;> omega)) _).alloc (by first | omega | (simp <;> omega)) _)
  replace H := H.below hB0
  go_wp2_with fail
  rw [← hW]
  clear hW
  have qhT0_0 : w0.cell? ⟨w.heap.size, 0, none⟩ = some (.int .i64 v.sx) := cell_at hT0 rfl
  have qhT0_1 : w0.cell? ⟨w.heap.size, 1, none⟩ = some (.int .i64 v.sy) := cell_at hT0 rfl
  have qhT0_2 : w0.cell? ⟨w.heap.size, 2, none⟩ = some (.int .i64 v.dx) := cell_at hT0 rfl
  have qhT0_3 : w0.cell? ⟨w.heap.size, 3, none⟩ = some (.int .i64 v.dy) := cell_at hT0 rfl
  have qhT0_4 : w0.cell? ⟨w.heap.size, 4, none⟩ = some (.int .i64 (N : Int)) := cell_at hT0 rfl
  have qhT1_0 : w0.cell? ⟨w.heap.size + 1, 0, none⟩ = some (.int .i64 u.ring) := cell_at hT1 rfl
  have qhT1_1 : w0.cell? ⟨w.heap.size + 1, 1, none⟩ = some (.int .i64 u.speed) := cell_at hT1 rfl
  have qhT1_2 : w0.cell? ⟨w.heap.size + 1, 2, none⟩ = some (.int .i64 u.loss) := cell_at hT1 rfl
  have qhT1_3 : w0.cell? ⟨w.heap.size + 1, 3, none⟩ = some (.int .i64 u.clear) := cell_at hT1 rfl
  have qhT1_4 : w0.cell? ⟨w.heap.size + 1, 4, none⟩ = some (.int .i64 u.soft) := cell_at hT1 rfl
  have qhT1_5 : w0.cell? ⟨w.heap.size + 1, 5, none⟩ = some (.slice A M cap) := cell_at hT1 rfl
  go_wp2_with fail
  refine (H14.out _ A M cap).mono ?_
  rintro e w1 ⟨⟨b, rfl, hb1⟩, hb⟩
  clear qhT0_0 qhT0_1 qhT0_2 qhT0_3 qhT0_4 qhT1_0 qhT1_1 qhT1_2 qhT1_3 qhT1_4 qhT1_5
  have hS := hb
  have hB1 := hB0.call hS rfl
  replace hT0 := blkb hT0 hS
  replace hT1 := blkb hT1 hS
  replace H := H.below hS
  clear hS hB0
  have qhT0_0 : w1.cell? ⟨w.heap.size, 0, none⟩ = some (.int .i64 v.sx) := cell_at hT0 rfl
  have qhT0_1 : w1.cell? ⟨w.heap.size, 1, none⟩ = some (.int .i64 v.sy) := cell_at hT0 rfl
  have qhT0_2 : w1.cell? ⟨w.heap.size, 2, none⟩ = some (.int .i64 v.dx) := cell_at hT0 rfl
  have qhT0_3 : w1.cell? ⟨w.heap.size, 3, none⟩ = some (.int .i64 v.dy) := cell_at hT0 rfl
  have qhT0_4 : w1.cell? ⟨w.heap.size, 4, none⟩ = some (.int .i64 (N : Int)) := cell_at hT0 rfl
  have qhT1_0 : w1.cell? ⟨w.heap.size + 1, 0, none⟩ = some (.int .i64 u.ring) := cell_at hT1 rfl
  have qhT1_1 : w1.cell? ⟨w.heap.size + 1, 1, none⟩ = some (.int .i64 u.speed) := cell_at hT1 rfl
  have qhT1_2 : w1.cell? ⟨w.heap.size + 1, 2, none⟩ = some (.int .i64 u.loss) := cell_at hT1 rfl
  have qhT1_3 : w1.cell? ⟨w.heap.size + 1, 3, none⟩ = some (.int .i64 u.clear) := cell_at hT1 rfl
  have qhT1_4 : w1.cell? ⟨w.heap.size + 1, 4, none⟩ = some (.int .i64 u.soft) := cell_at hT1 rfl
  have qhT1_5 : w1.cell? ⟨w.heap.size + 1, 5, none⟩ = some (.slice A M cap) := cell_at hT1 rfl
  clear hb
  cases b
  case false =>
    go_wp2_with fail
    refine (c15 _).mono ?_
    rintro e wz ⟨rfl, hz⟩
    go_wp2
    go_ret
    exact ⟨rfl, hB1.call hz rfl⟩
  clear hb1
  go_wp2_with fail
  refine (H20.out _ (by omega) H).mono ?_
  rintro e w2 ⟨rfl, hb⟩
  clear qhT0_0 qhT0_1 qhT0_2 qhT0_3 qhT0_4 qhT1_0 qhT1_1 qhT1_2 qhT1_3 qhT1_4 qhT1_5
  have hS := hb
  have hB2 := hB1.call hS rfl
  replace hT0 := blkb hT0 hS
  replace hT1 := blkb hT1 hS
  replace H := H.below hS
  clear hS hB1
  have qhT0_0 : w2.cell? ⟨w.heap.size, 0, none⟩ = some (.int .i64 v.sx) := cell_at hT0 rfl
  have qhT0_1 : w2.cell? ⟨w.heap.size, 1, none⟩ = some (.int .i64 v.sy) := cell_at hT0 rfl
  have qhT0_2 : w2.cell? ⟨w.heap.size, 2, none⟩ = some (.int .i64 v.dx) := cell_at hT0 rfl
  have qhT0_3 : w2.cell? ⟨w.heap.size, 3, none⟩ = some (.int .i64 v.dy) := cell_at hT0 rfl
  have qhT0_4 : w2.cell? ⟨w.heap.size, 4, none⟩ = some (.int .i64 (N : Int)) := cell_at hT0 rfl
  have qhT1_0 : w2.cell? ⟨w.heap.size + 1, 0, none⟩ = some (.int .i64 u.ring) := cell_at hT1 rfl
  have qhT1_1 : w2.cell? ⟨w.heap.size + 1, 1, none⟩ = some (.int .i64 u.speed) := cell_at hT1 rfl
  have qhT1_2 : w2.cell? ⟨w.heap.size + 1, 2, none⟩ = some (.int .i64 u.loss) := cell_at hT1 rfl
  have qhT1_3 : w2.cell? ⟨w.heap.size + 1, 3, none⟩ = some (.int .i64 u.clear) := cell_at hT1 rfl
  have qhT1_4 : w2.cell? ⟨w.heap.size + 1, 4, none⟩ = some (.int .i64 u.soft) := cell_at hT1 rfl
  have qhT1_5 : w2.cell? ⟨w.heap.size + 1, 5, none⟩ = some (.slice A M cap) := cell_at hT1 rfl
  clear hb
  have hz : (w2.alloc (Obj.cells #[.int .i64 0, .int .i64 0, .int .i64 0, .int .i64 0, .int .i64 0] 36)).heap[w2.heap.size]? = some (Obj.cells #[.int .i64 0, .int .i64 0, .int .i64 0, .int .i64 0, .int .i64 0] 36) := heap_new rfl
  go_wp2_with (refine wpList_store_blk rfl 36 _ _ rfl w2.heap.size _ rfl rfl hz ?s1 ?s2 ?s3 ?_)
  case s1 => rfl
  case s2 => kernel_rfl
  case s3 => simp [Value.oneCell']
  intro w3 t5 hg3 hs3
  clear qhT0_0 qhT0_1 qhT0_2 qhT0_3 qhT0_4 qhT1_0 qhT1_1 qhT1_2 qhT1_3 qhT1_4 qhT1_5
  have hS := ((Below.refl _ _).alloc (Nat.le_refl _) _).grown hg3 (by simp) (fun j hj => by cases hj; exact Nat.le_refl _)
  have hB3 := hB2.call hS rfl
  replace hT0 := blkb hT0 hS
  replace hT1 := blkb hT1 hS
  replace H := H.below hS
  clear hS hB2
  have qhT0_0 : w3.cell? ⟨w.heap.size, 0, none⟩ = some (.int .i64 v.sx) := cell_at hT0 rfl
  have qhT0_1 : w3.cell? ⟨w.heap.size, 1, none⟩ = some (.int .i64 v.sy) := cell_at hT0 rfl
  have qhT0_2 : w3.cell? ⟨w.heap.size, 2, none⟩ = some (.int .i64 v.dx) := cell_at hT0 rfl
  have qhT0_3 : w3.cell? ⟨w.heap.size, 3, none⟩ = some (.int .i64 v.dy) := cell_at hT0 rfl
  have qhT0_4 : w3.cell? ⟨w.heap.size, 4, none⟩ = some (.int .i64 (N : Int)) := cell_at hT0 rfl
  have qhT1_0 : w3.cell? ⟨w.heap.size + 1, 0, none⟩ = some (.int .i64 u.ring) := cell_at hT1 rfl
  have qhT1_1 : w3.cell? ⟨w.heap.size + 1, 1, none⟩ = some (.int .i64 u.speed) := cell_at hT1 rfl
  have qhT1_2 : w3.cell? ⟨w.heap.size + 1, 2, none⟩ = some (.int .i64 u.loss) := cell_at hT1 rfl
  have qhT1_3 : w3.cell? ⟨w.heap.size + 1, 3, none⟩ = some (.int .i64 u.clear) := cell_at hT1 rfl
  have qhT1_4 : w3.cell? ⟨w.heap.size + 1, 4, none⟩ = some (.int .i64 u.soft) := cell_at hT1 rfl
  have qhT1_5 : w3.cell? ⟨w.heap.size + 1, 5, none⟩ = some (.slice A M cap) := cell_at hT1 rfl
  clear hz hg3 hs3
  obtain ⟨bt5, hbt5⟩ : ∃ b, b = w2.heap.size := ⟨_, rfl⟩
  rw [← hbt5] at t5 ⊢
  clear hbt5
  clear qhT0_0 qhT0_1 qhT0_2 qhT0_3 qhT0_4 qhT1_0 qhT1_1 qhT1_2 qhT1_3 qhT1_4 qhT1_5
  have qhT0_0 : w3.cell? ⟨w.heap.size, 0, none⟩ = some (.int .i64 v.sx) := cell_at hT0 rfl
  have qhT0_1 : w3.cell? ⟨w.heap.size, 1, none⟩ = some (.int .i64 v.sy) := cell_at hT0 rfl
  have qhT0_2 : w3.cell? ⟨w.heap.size, 2, none⟩ = some (.int .i64 v.dx) := cell_at hT0 rfl
  have qhT0_3 : w3.cell? ⟨w.heap.size, 3, none⟩ = some (.int .i64 v.dy) := cell_at hT0 rfl
  have qhT0_4 : w3.cell? ⟨w.heap.size, 4, none⟩ = some (.int .i64 (N : Int)) := cell_at hT0 rfl
  have qhT1_0 : w3.cell? ⟨w.heap.size + 1, 0, none⟩ = some (.int .i64 u.ring) := cell_at hT1 rfl
  have qhT1_1 : w3.cell? ⟨w.heap.size + 1, 1, none⟩ = some (.int .i64 u.speed) := cell_at hT1 rfl
  have qhT1_2 : w3.cell? ⟨w.heap.size + 1, 2, none⟩ = some (.int .i64 u.loss) := cell_at hT1 rfl
  have qhT1_3 : w3.cell? ⟨w.heap.size + 1, 3, none⟩ = some (.int .i64 u.clear) := cell_at hT1 rfl
  have qhT1_4 : w3.cell? ⟨w.heap.size + 1, 4, none⟩ = some (.int .i64 u.soft) := cell_at hT1 rfl
  have qhT1_5 : w3.cell? ⟨w.heap.size + 1, 5, none⟩ = some (.slice A M cap) := cell_at hT1 rfl
  have qt5_0 : w3.cell? ⟨bt5, 0, none⟩ = some (.int .i64 u.ring) := cell_at t5 rfl
  have qt5_1 : w3.cell? ⟨bt5, 1, none⟩ = some (.int .i64 u.speed) := cell_at t5 rfl
  have qt5_2 : w3.cell? ⟨bt5, 2, none⟩ = some (.int .i64 u.loss) := cell_at t5 rfl
  have qt5_3 : w3.cell? ⟨bt5, 3, none⟩ = some (.int .i64 u.clear) := cell_at t5 rfl
  have qt5_4 : w3.cell? ⟨bt5, 4, none⟩ = some (.int .i64 u.soft) := cell_at t5 rfl
  go_wp2
  refine wp_region_plan [(0, true), (1, true), (2, true), (3, true), (4, false), (5, false), (6, true), (7, true), (8, true), (9, true), (10, true)] w3.heap.size (by kernel_rfl) (by kernel_rfl) (Nat.le_refl _) (fun _ _ d _ _ h => by cases d <;> exact h) ?_
  have hC : Below w3.heap.size w3 w3 := Below.refl _ _
  have zhT0 : w.heap.size < w3.heap.size := (Array.getElem?_eq_some_iff.1 hT0).1
  have zhT1 : w.heap.size + 1 < w3.heap.size := (Array.getElem?_eq_some_iff.1 hT1).1
  have zt5 : bt5 < w3.heap.size := (Array.getElem?_eq_some_iff.1 t5).1
  repeat (first | (refine wpPlanA_skip _ rfl (by rfl) ?_; simp only [Act.put, List.setIfInBounds_toArray, List.set_cons_zero, List.set_cons_succ]) | (refine wpPlanA_soft _ ?_ rfl (by rfl) ?_ ?_; rotate_left; (intro wq hq hcq; go_simp; first | exact rfl | exact ⟨rfl, rfl⟩); simp only [Act.put, List.setIfInBounds_toArray, List.set_cons_zero, List.set_cons_succ]))
  refine wpPlanA_hard _ rfl (by rfl) (fun w4 hS K hK => ?_)
  have hB4 := hB3.call hS rfl
  replace hC := hC.call hS rfl
  replace hT0 := blkb hT0 hS
  replace hT1 := blkb hT1 hS
  replace H := H.below hS
  replace t5 := blkb t5 hS
  clear hS hB3
  go_simp
  refine (H17.out _ H).mono ?_
  rintro e w5 ⟨_, rfl, ⟨AT, CT, rfl, ht⟩, hb⟩
  have hB5 := hB4.call hb rfl
  replace hC := hC.call hb rfl
  replace hT0 := blkb hT0 hb
  replace hT1 := blkb hT1 hb
  replace H := H.below hb
  replace t5 := blkb t5 hb
  clear hb hB4
  refine hK _ _ hC ?_
  clear hK K
  try simp only [Act.put, List.setIfInBounds_toArray, List.set_cons_zero, List.set_cons_succ]
  refine wpPlanA_hard _ rfl (by rfl) (fun w6 hS K hK => ?_)
  have hB6 := hB5.call hS rfl
  replace hC := hC.call hS rfl
  replace hT0 := blkb hT0 hS
  replace hT1 := blkb hT1 hS
  replace H := H.below hS
  replace t5 := blkb t5 hS
  replace ht := ht.below hS
  clear hS hB5
  go_simp
  refine (H16.out _ AT CT ht).mono ?_
  rintro e w7 ⟨g6, rfl, h6, _, hb⟩
  have hB7 := hB6.call hb rfl
  replace hC := hC.call hb rfl
  replace hT0 := blkb hT0 hb
  replace hT1 := blkb hT1 hb
  replace H := H.below hb
  replace t5 := blkb t5 hb
  replace ht := ht.below hb
  clear hb hB6
  refine hK _ _ hC ?_
  clear hK K
  try simp only [Act.put, List.setIfInBounds_toArray, List.set_cons_zero, List.set_cons_succ]
  repeat (first | (refine wpPlanA_skip _ rfl (by rfl) ?_; simp only [Act.put, List.setIfInBounds_toArray, List.set_cons_zero, List.set_cons_succ]) | (refine wpPlanA_soft _ ?_ rfl (by rfl) ?_ ?_; rotate_left; (intro wq hq hcq; go_simp; first | exact rfl | exact ⟨rfl, rfl⟩); simp only [Act.put, List.setIfInBounds_toArray, List.set_cons_zero, List.set_cons_succ]))
  clear qhT0_0 qhT0_1 qhT0_2 qhT0_3 qhT0_4 qhT1_0 qhT1_1 qhT1_2 qhT1_3 qhT1_4 qhT1_5 qt5_0 qt5_1 qt5_2 qt5_3 qt5_4
  refine wpPlanA_nil (fun w8 hS => ?_)
  clear hC zhT0 zhT1 zt5
  have hB8 := hB7.call hS rfl
  replace hT0 := blkb hT0 hS
  replace hT1 := blkb hT1 hS
  replace H := H.below hS
  replace t5 := blkb t5 hS
  replace ht := ht.below hS
  replace h6 := blkb h6 hS
  clear hS hB7
  have qhT0_0 : w8.cell? ⟨w.heap.size, 0, none⟩ = some (.int .i64 v.sx) := cell_at hT0 rfl
  have qhT0_1 : w8.cell? ⟨w.heap.size, 1, none⟩ = some (.int .i64 v.sy) := cell_at hT0 rfl
  have qhT0_2 : w8.cell? ⟨w.heap.size, 2, none⟩ = some (.int .i64 v.dx) := cell_at hT0 rfl
  have qhT0_3 : w8.cell? ⟨w.heap.size, 3, none⟩ = some (.int .i64 v.dy) := cell_at hT0 rfl
  have qhT0_4 : w8.cell? ⟨w.heap.size, 4, none⟩ = some (.int .i64 (N : Int)) := cell_at hT0 rfl
  have qhT1_0 : w8.cell? ⟨w.heap.size + 1, 0, none⟩ = some (.int .i64 u.ring) := cell_at hT1 rfl
  have qhT1_1 : w8.cell? ⟨w.heap.size + 1, 1, none⟩ = some (.int .i64 u.speed) := cell_at hT1 rfl
  have qhT1_2 : w8.cell? ⟨w.heap.size + 1, 2, none⟩ = some (.int .i64 u.loss) := cell_at hT1 rfl
  have qhT1_3 : w8.cell? ⟨w.heap.size + 1, 3, none⟩ = some (.int .i64 u.clear) := cell_at hT1 rfl
  have qhT1_4 : w8.cell? ⟨w.heap.size + 1, 4, none⟩ = some (.int .i64 u.soft) := cell_at hT1 rfl
  have qhT1_5 : w8.cell? ⟨w.heap.size + 1, 5, none⟩ = some (.slice A M cap) := cell_at hT1 rfl
  have qt5_0 : w8.cell? ⟨bt5, 0, none⟩ = some (.int .i64 u.ring) := cell_at t5 rfl
  have qt5_1 : w8.cell? ⟨bt5, 1, none⟩ = some (.int .i64 u.speed) := cell_at t5 rfl
  have qt5_2 : w8.cell? ⟨bt5, 2, none⟩ = some (.int .i64 u.loss) := cell_at t5 rfl
  have qt5_3 : w8.cell? ⟨bt5, 3, none⟩ = some (.int .i64 u.clear) := cell_at t5 rfl
  have qt5_4 : w8.cell? ⟨bt5, 4, none⟩ = some (.int .i64 u.soft) := cell_at t5 rfl
  clear ht
  go_wp2
  refine wp_region_plan [(0, true), (1, true), (2, true), (3, true), (4, false), (5, false), (6, true), (7, true), (8, true), (9, true), (10, true)] w8.heap.size (by kernel_rfl) (by kernel_rfl) (Nat.le_refl _) (fun _ _ d _ _ h => by cases d <;> exact h) ?_
  have hC : Below w8.heap.size w8 w8 := Below.refl _ _
  have zhT0 : w.heap.size < w8.heap.size := (Array.getElem?_eq_some_iff.1 hT0).1
  have zhT1 : w.heap.size + 1 < w8.heap.size := (Array.getElem?_eq_some_iff.1 hT1).1
  have zt5 : bt5 < w8.heap.size := (Array.getElem?_eq_some_iff.1 t5).1
  repeat (first | (refine wpPlanA_skip _ rfl (by rfl) ?_; simp only [Act.put, List.setIfInBounds_toArray, List.set_cons_zero, List.set_cons_succ]) | (refine wpPlanA_soft _ ?_ rfl (by rfl) ?_ ?_; rotate_left; (intro wq hq hcq; go_simp; first | exact rfl | exact ⟨rfl, rfl⟩); simp only [Act.put, List.setIfInBounds_toArray, List.set_cons_zero, List.set_cons_succ]))
  refine wpPlanA_hard _ rfl (by rfl) (fun w9 hS K hK => ?_)
  have hB9 := hB8.call hS rfl
  replace hC := hC.call hS rfl
  replace hT0 := blkb hT0 hS
  replace hT1 := blkb hT1 hS
  replace H := H.below hS
  replace t5 := blkb t5 hS
  replace h6 := blkb h6 hS
  clear hS hB8
  go_simp
  refine (H17.out _ H).mono ?_
  rintro e w10 ⟨_, rfl, ⟨AT, CT, rfl, ht⟩, hb⟩
  have hB10 := hB9.call hb rfl
  replace hC := hC.call hb rfl
  replace hT0 := blkb hT0 hb
  replace hT1 := blkb hT1 hb
  replace H := H.below hb
  replace t5 := blkb t5 hb
  replace h6 := blkb h6 hb
  clear hb hB9
  refine hK _ _ hC ?_
  clear hK K
  try simp only [Act.put, List.setIfInBounds_toArray, List.set_cons_zero, List.set_cons_succ]
  refine wpPlanA_hard _ rfl (by rfl) (fun w11 hS K hK => ?_)
  have hB11 := hB10.call hS rfl
  replace hC := hC.call hS rfl
  replace hT0 := blkb hT0 hS
  replace hT1 := blkb hT1 hS
  replace H := H.below hS
  replace t5 := blkb t5 hS
  replace h6 := blkb h6 hS
  replace ht := ht.below hS
  clear hS hB10
  go_simp
  refine (H18.out _ AT CT ht).mono ?_
  rintro e w12 ⟨g8, rfl, h8, _, hb⟩
  have hB12 := hB11.call hb rfl
  replace hC := hC.call hb rfl
  replace hT0 := blkb hT0 hb
  replace hT1 := blkb hT1 hb
  replace H := H.below hb
  replace t5 := blkb t5 hb
  replace h6 := blkb h6 hb
  replace ht := ht.below hb
  clear hb hB11
  refine hK _ _ hC ?_
  clear hK K
  try simp only [Act.put, List.setIfInBounds_toArray, List.set_cons_zero, List.set_cons_succ]
  repeat (first | (refine wpPlanA_skip _ rfl (by rfl) ?_; simp only [Act.put, List.setIfInBounds_toArray, List.set_cons_zero, List.set_cons_succ]) | (refine wpPlanA_soft _ ?_ rfl (by rfl) ?_ ?_; rotate_left; (intro wq hq hcq; go_simp; first | exact rfl | exact ⟨rfl, rfl⟩); simp only [Act.put, List.setIfInBounds_toArray, List.set_cons_zero, List.set_cons_succ]))
  clear qhT0_0 qhT0_1 qhT0_2 qhT0_3 qhT0_4 qhT1_0 qhT1_1 qhT1_2 qhT1_3 qhT1_4 qhT1_5 qt5_0 qt5_1 qt5_2 qt5_3 qt5_4
  refine wpPlanA_nil (fun w13 hS => ?_)
  clear hC zhT0 zhT1 zt5
  have hB13 := hB12.call hS rfl
  replace hT0 := blkb hT0 hS
  replace hT1 := blkb hT1 hS
  replace H := H.below hS
  replace t5 := blkb t5 hS
  replace h6 := blkb h6 hS
  replace ht := ht.below hS
  replace h8 := blkb h8 hS
  clear hS hB12
  have qhT0_0 : w13.cell? ⟨w.heap.size, 0, none⟩ = some (.int .i64 v.sx) := cell_at hT0 rfl
  have qhT0_1 : w13.cell? ⟨w.heap.size, 1, none⟩ = some (.int .i64 v.sy) := cell_at hT0 rfl
  have qhT0_2 : w13.cell? ⟨w.heap.size, 2, none⟩ = some (.int .i64 v.dx) := cell_at hT0 rfl
  have qhT0_3 : w13.cell? ⟨w.heap.size, 3, none⟩ = some (.int .i64 v.dy) := cell_at hT0 rfl
  have qhT0_4 : w13.cell? ⟨w.heap.size, 4, none⟩ = some (.int .i64 (N : Int)) := cell_at hT0 rfl
  have qhT1_0 : w13.cell? ⟨w.heap.size + 1, 0, none⟩ = some (.int .i64 u.ring) := cell_at hT1 rfl
  have qhT1_1 : w13.cell? ⟨w.heap.size + 1, 1, none⟩ = some (.int .i64 u.speed) := cell_at hT1 rfl
  have qhT1_2 : w13.cell? ⟨w.heap.size + 1, 2, none⟩ = some (.int .i64 u.loss) := cell_at hT1 rfl
  have qhT1_3 : w13.cell? ⟨w.heap.size + 1, 3, none⟩ = some (.int .i64 u.clear) := cell_at hT1 rfl
  have qhT1_4 : w13.cell? ⟨w.heap.size + 1, 4, none⟩ = some (.int .i64 u.soft) := cell_at hT1 rfl
  have qhT1_5 : w13.cell? ⟨w.heap.size + 1, 5, none⟩ = some (.slice A M cap) := cell_at hT1 rfl
  have qt5_0 : w13.cell? ⟨bt5, 0, none⟩ = some (.int .i64 u.ring) := cell_at t5 rfl
  have qt5_1 : w13.cell? ⟨bt5, 1, none⟩ = some (.int .i64 u.speed) := cell_at t5 rfl
  have qt5_2 : w13.cell? ⟨bt5, 2, none⟩ = some (.int .i64 u.loss) := cell_at t5 rfl
  have qt5_3 : w13.cell? ⟨bt5, 3, none⟩ = some (.int .i64 u.clear) := cell_at t5 rfl
  have qt5_4 : w13.cell? ⟨bt5, 4, none⟩ = some (.int .i64 u.soft) := cell_at t5 rfl
  clear ht
  go_wp2
  refine wp_region_plan [(0, true), (1, true), (2, true), (3, true), (4, false), (5, false), (6, true), (7, true), (8, true), (9, true), (10, true)] w13.heap.size (by kernel_rfl) (by kernel_rfl) (Nat.le_refl _) (fun _ _ d _ _ h => by cases d <;> exact h) ?_
  have hC : Below w13.heap.size w13 w13 := Below.refl _ _
  have zhT0 : w.heap.size < w13.heap.size := (Array.getElem?_eq_some_iff.1 hT0).1
  have zhT1 : w.heap.size + 1 < w13.heap.size := (Array.getElem?_eq_some_iff.1 hT1).1
  have zt5 : bt5 < w13.heap.size := (Array.getElem?_eq_some_iff.1 t5).1
  repeat (first | (refine wpPlanA_skip _ rfl (by rfl) ?_; simp only [Act.put, List.setIfInBounds_toArray, List.set_cons_zero, List.set_cons_succ]) | (refine wpPlanA_soft _ ?_ rfl (by rfl) ?_ ?_; rotate_left; (intro wq hq hcq; go_simp; first | exact rfl | exact ⟨rfl, rfl⟩); simp only [Act.put, List.setIfInBounds_toArray, List.set_cons_zero, List.set_cons_succ]))
  refine wpPlanA_hard _ rfl (by rfl) (fun w14 hS K hK => ?_)
  have hB14 := hB13.call hS rfl
  replace hC := hC.call hS rfl
  replace hT0 := blkb hT0 hS
  replace hT1 := blkb hT1 hS
  replace H := H.below hS
  replace t5 := blkb t5 hS
  replace h6 := blkb h6 hS
  replace h8 := blkb h8 hS
  clear hS hB13
  go_simp
  refine (H17.out _ H).mono ?_
  rintro e w15 ⟨_, rfl, ⟨AT, CT, rfl, ht⟩, hb⟩
  have hB15 := hB14.call hb rfl
  replace hC := hC.call hb rfl
  replace hT0 := blkb hT0 hb
  replace hT1 := blkb hT1 hb
  replace H := H.below hb
  replace t5 := blkb t5 hb
  replace h6 := blkb h6 hb
  replace h8 := blkb h8 hb
  clear hb hB14
  refine hK _ _ hC ?_
  clear hK K
  try simp only [Act.put, List.setIfInBounds_toArray, List.set_cons_zero, List.set_cons_succ]
  refine wpPlanA_hard _ rfl (by rfl) (fun w16 hS K hK => ?_)
  have hB16 := hB15.call hS rfl
  replace hC := hC.call hS rfl
  replace hT0 := blkb hT0 hS
  replace hT1 := blkb hT1 hS
  replace H := H.below hS
  replace t5 := blkb t5 hS
  replace h6 := blkb h6 hS
  replace h8 := blkb h8 hS
  replace ht := ht.below hS
  clear hS hB15
  go_simp
  refine (H19.out _ AT CT ht).mono ?_
  rintro e w17 ⟨_, rfl, ⟨AS, CS, rfl, hs⟩, hb⟩
  have hB17 := hB16.call hb rfl
  replace hC := hC.call hb rfl
  replace hT0 := blkb hT0 hb
  replace hT1 := blkb hT1 hb
  replace H := H.below hb
  replace t5 := blkb t5 hb
  replace h6 := blkb h6 hb
  replace h8 := blkb h8 hb
  replace ht := ht.below hb
  clear hb hB16
  refine hK _ _ hC ?_
  clear hK K
  try simp only [Act.put, List.setIfInBounds_toArray, List.set_cons_zero, List.set_cons_succ]
  repeat (first | (refine wpPlanA_skip _ rfl (by rfl) ?_; simp only [Act.put, List.setIfInBounds_toArray, List.set_cons_zero, List.set_cons_succ]) | (refine wpPlanA_soft _ ?_ rfl (by rfl) ?_ ?_; rotate_left; (intro wq hq hcq; go_simp; first | exact rfl | exact ⟨rfl, rfl⟩); simp only [Act.put, List.setIfInBounds_toArray, List.set_cons_zero, List.set_cons_succ]))
  clear qhT0_0 qhT0_1 qhT0_2 qhT0_3 qhT0_4 qhT1_0 qhT1_1 qhT1_2 qhT1_3 qhT1_4 qhT1_5 qt5_0 qt5_1 qt5_2 qt5_3 qt5_4
  refine wpPlanA_nil (fun w18 hS => ?_)
  clear hC zhT0 zhT1 zt5
  have hB18 := hB17.call hS rfl
  replace hT0 := blkb hT0 hS
  replace hT1 := blkb hT1 hS
  replace H := H.below hS
  replace t5 := blkb t5 hS
  replace h6 := blkb h6 hS
  replace h8 := blkb h8 hS
  replace ht := ht.below hS
  replace hs := hs.below hS
  clear hS hB17
  have qhT0_0 : w18.cell? ⟨w.heap.size, 0, none⟩ = some (.int .i64 v.sx) := cell_at hT0 rfl
  have qhT0_1 : w18.cell? ⟨w.heap.size, 1, none⟩ = some (.int .i64 v.sy) := cell_at hT0 rfl
  have qhT0_2 : w18.cell? ⟨w.heap.size, 2, none⟩ = some (.int .i64 v.dx) := cell_at hT0 rfl
  have qhT0_3 : w18.cell? ⟨w.heap.size, 3, none⟩ = some (.int .i64 v.dy) := cell_at hT0 rfl
  have qhT0_4 : w18.cell? ⟨w.heap.size, 4, none⟩ = some (.int .i64 (N : Int)) := cell_at hT0 rfl
  have qhT1_0 : w18.cell? ⟨w.heap.size + 1, 0, none⟩ = some (.int .i64 u.ring) := cell_at hT1 rfl
  have qhT1_1 : w18.cell? ⟨w.heap.size + 1, 1, none⟩ = some (.int .i64 u.speed) := cell_at hT1 rfl
  have qhT1_2 : w18.cell? ⟨w.heap.size + 1, 2, none⟩ = some (.int .i64 u.loss) := cell_at hT1 rfl
  have qhT1_3 : w18.cell? ⟨w.heap.size + 1, 3, none⟩ = some (.int .i64 u.clear) := cell_at hT1 rfl
  have qhT1_4 : w18.cell? ⟨w.heap.size + 1, 4, none⟩ = some (.int .i64 u.soft) := cell_at hT1 rfl
  have qhT1_5 : w18.cell? ⟨w.heap.size + 1, 5, none⟩ = some (.slice A M cap) := cell_at hT1 rfl
  have qt5_0 : w18.cell? ⟨bt5, 0, none⟩ = some (.int .i64 u.ring) := cell_at t5 rfl
  have qt5_1 : w18.cell? ⟨bt5, 1, none⟩ = some (.int .i64 u.speed) := cell_at t5 rfl
  have qt5_2 : w18.cell? ⟨bt5, 2, none⟩ = some (.int .i64 u.loss) := cell_at t5 rfl
  have qt5_3 : w18.cell? ⟨bt5, 3, none⟩ = some (.int .i64 u.clear) := cell_at t5 rfl
  have qt5_4 : w18.cell? ⟨bt5, 4, none⟩ = some (.int .i64 u.soft) := cell_at t5 rfl
  clear ht
  have hRl2 : ¬ (N : Int) < (R.length : Int) := by omega
  go_wp2
  clear hRl2
  clear qhT0_0 qhT0_1 qhT0_2 qhT0_3 qhT0_4 qhT1_0 qhT1_1 qhT1_2 qhT1_3 qhT1_4 qhT1_5 qt5_0 qt5_1 qt5_2 qt5_3 qt5_4
  go_loopw [12, 93] (fun last i wr => ∃ k : Nat, k ≤ N ∧ i = .int .i64 k ∧ last = .int .i64 (Mo.lastI p k) ∧ Below w18.heap.size w18 wr) (fun _ i _ => N - (intOf i).toNat)
  case atStart => exact ⟨0, Nat.zero_le _, rfl, rfl, Below.refl _ _⟩
  case round =>
    obtain ⟨k, hk, rfl, rfl, hBr⟩ := hrel
    obtain ⟨w19, hww⟩ : ∃ W, W = wr := ⟨_, rfl⟩
    rw [← hww] at hBr ⊢
    clear hww
    have hB19 := hB18.call hBr rfl
    replace hT0 := blkb hT0 hBr
    replace hT1 := blkb hT1 hBr
    replace H := H.below hBr
    replace t5 := blkb t5 hBr
    replace h6 := blkb h6 hBr
    replace h8 := blkb h8 hBr
    replace hs := hs.below hBr
    clear hB18
    by_cases hlt : k < N
    · as_aux_lemma =>
        cases hI : p k
        · as_aux_lemma =>
            obtain ⟨e1, e2, e3, e4, e5⟩ := HF.out k
            have ela := Mo.lastI_succ p k
            have elb := (Mo.lastI_bd p k).2
            have elb1 := (Mo.lastI_bd p k).1
            have hmx : ((k : Int) - 1).toNat = k - 1 := by omega
            have ela2 : Mo.lastI p (k + 1) = Mo.lastI p k := by rw [ela, hI]; rfl
            rw [ela2] at e4 e5
            clear ela
            have ela := ela2
            clear ela2
            obtain ⟨LV, hL⟩ : ∃ x, lev k = x := ⟨_, rfl⟩
            rw [hL] at e1 e2 e3 e4 e5
            have E4 := Lib.hid e4
            have E5 := Lib.hid e5
            clear e4 e5
            have ELA := Lib.hid ela
            clear ela
            have qhT0_0 : w19.cell? ⟨w.heap.size, 0, none⟩ = some (.int .i64 v.sx) := cell_at hT0 rfl
            have qhT0_1 : w19.cell? ⟨w.heap.size, 1, none⟩ = some (.int .i64 v.sy) := cell_at hT0 rfl
            have qhT0_2 : w19.cell? ⟨w.heap.size, 2, none⟩ = some (.int .i64 v.dx) := cell_at hT0 rfl
            have qhT0_3 : w19.cell? ⟨w.heap.size, 3, none⟩ = some (.int .i64 v.dy) := cell_at hT0 rfl
            have qhT0_4 : w19.cell? ⟨w.heap.size, 4, none⟩ = some (.int .i64 (N : Int)) := cell_at hT0 rfl
            have qhT1_0 : w19.cell? ⟨w.heap.size + 1, 0, none⟩ = some (.int .i64 u.ring) := cell_at hT1 rfl
            have qhT1_1 : w19.cell? ⟨w.heap.size + 1, 1, none⟩ = some (.int .i64 u.speed) := cell_at hT1 rfl
            have qhT1_2 : w19.cell? ⟨w.heap.size + 1, 2, none⟩ = some (.int .i64 u.loss) := cell_at hT1 rfl
            have qhT1_3 : w19.cell? ⟨w.heap.size + 1, 3, none⟩ = some (.int .i64 u.clear) := cell_at hT1 rfl
            have qhT1_4 : w19.cell? ⟨w.heap.size + 1, 4, none⟩ = some (.int .i64 u.soft) := cell_at hT1 rfl
            have qhT1_5 : w19.cell? ⟨w.heap.size + 1, 5, none⟩ = some (.slice A M cap) := cell_at hT1 rfl
            have qt5_0 : w19.cell? ⟨bt5, 0, none⟩ = some (.int .i64 u.ring) := cell_at t5 rfl
            have qt5_1 : w19.cell? ⟨bt5, 1, none⟩ = some (.int .i64 u.speed) := cell_at t5 rfl
            have qt5_2 : w19.cell? ⟨bt5, 2, none⟩ = some (.int .i64 u.loss) := cell_at t5 rfl
            have qt5_3 : w19.cell? ⟨bt5, 3, none⟩ = some (.int .i64 u.clear) := cell_at t5 rfl
            have qt5_4 : w19.cell? ⟨bt5, 4, none⟩ = some (.int .i64 u.soft) := cell_at t5 rfl
            have f6 : w19.cell? ⟨g6, k, none⟩ = some (.bool false) := cell_at h6 (by rw [HP1.out k hlt, hI])
            have f8 : w19.cell? ⟨g8, k, none⟩ = some (.int .i64 LV) := cell_at h8 (by rw [HL1.out k hlt, hL])
            go_wp2
            refine wp_merge 101 (fun xs => ∃ xa101 xa102 xa103 xa104 xa105 xa106 xa107 xa108 xa109 xa110 xa111 xa112 xa113 xa114 xa115 xa116 xa117 xa118 xa119 xa120 xa121 xa122 xa123 xa124 xa125 xa126 xa127 xa128 xa129 xa130 xa131 xa132 xa133 xa134 xa135 xa136 xa137 xa138 xa139 xa140 xa141 xa142 xa143 xa144 : Value, xs = [xa101, xa102, xa103, xa104, xa105, xa106, xa107, xa108, xa109, xa110, xa111, xa112, xa113, xa114, xa115, xa116, xa117, xa118, xa119, xa120, xa121, xa122, xa123, xa124, xa125, xa126, xa127, xa128, xa129, xa130, xa131, xa132, xa133, xa134, xa135, xa136, xa137, xa138, xa139, xa140, xa141, xa142, xa143, xa144, .bool false]) ?_ ?_
            · as_aux_lemma =>
                by_cases h0 : LV = 0
                · as_aux_lemma =>
                    subst h0
                    have hq : (k : Int) - Mo.lastI p k ≤ u.clear := by
                      rcases Int.lt_or_le u.clear ((k : Int) - Mo.lastI p k) with h | h
                      · have := E5.out h
                        omega
                      · exact h
                    clear f6 f8
                    have ws : IntKind.i64.wrap (u.soft + 1) = u.soft + 1 := wrapI _ (by omega) (by omega)
                    have wk : IntKind.i64.wrap ((k : Int) - Mo.lastI p k) = (k : Int) - Mo.lastI p k := wrapI _ (by omega) (by omega)
                    have wz : IntKind.i64.wrap 0 = 0 := by decide
                    have wo : IntKind.i64.wrap 1 = 1 := by decide
                    have n1 : decide (u.soft + 1 < 0) = false := decide_eq_false (by omega)
                    have n3 : decide (u.clear < (k : Int) - Mo.lastI p k) = false := decide_eq_false (by omega)
                    have n4 : decide ((k : Int) - Mo.lastI p k ≤ u.clear) = true := decide_eq_true (by omega)
                    have f6 : w19.cell? ⟨g6, k, none⟩ = some (.bool false) := cell_at h6 (by rw [HP1.out k hlt, hI])
                    have f8 : w19.cell? ⟨g8, k, none⟩ = some (.int .i64 0) := cell_at h8 (by rw [HL1.out k hlt, hL])
                    have zg6 : g6 < w19.heap.size := (Array.getElem?_eq_some_iff.1 h6).1
                    have zg8 : g8 < w19.heap.size := (Array.getElem?_eq_some_iff.1 h8).1
                    have zhT0 : w.heap.size < w19.heap.size := (Array.getElem?_eq_some_iff.1 hT0).1
                    have zhT1 : w.heap.size + 1 < w19.heap.size := (Array.getElem?_eq_some_iff.1 hT1).1
                    have zt5 : bt5 < w19.heap.size := (Array.getElem?_eq_some_iff.1 t5).1
                    refine wp_region_growG (by kernel_rfl) (by kernel_rfl) ?_
                    repeat (go_big_quiet_step ((first | fail)))
                    refine wpQuiet_nil (gw_out ?_)
                    intro wq hS
                    exact ⟨rfl, ⟨_, ⟨_, _, _, _, _, _, _, _, _, _, _, _, _, _, _, _, _, _, _, _, _, _, _, _, _, _, _, _, _, _, _, _, _, _, _, _, _, _, _, _, _, _, _, _, rfl⟩, rfl⟩, hS⟩
                · as_aux_lemma =>
                    have hl1 : 1 ≤ LV := by omega
                    have hq : ¬ (k : Int) - Mo.lastI p k ≤ u.clear := fun h => h0 (E4.out h)
                    clear h0
                    clear f6 f8
                    have ws : IntKind.i64.wrap (u.soft + 1) = u.soft + 1 := wrapI _ (by omega) (by omega)
                    have wk : IntKind.i64.wrap ((k : Int) - Mo.lastI p k) = (k : Int) - Mo.lastI p k := wrapI _ (by omega) (by omega)
                    have wz : IntKind.i64.wrap 0 = 0 := by decide
                    have wo : IntKind.i64.wrap 1 = 1 := by decide
                    have m1 : decide (LV < 0) = false := decide_eq_false (by omega)
                    have m2 : decide (u.soft + 1 < LV) = false := decide_eq_false (by omega)
                    have m3 : decide (u.clear < (k : Int) - Mo.lastI p k) = true := decide_eq_true (by omega)
                    have m7 : decide ((k : Int) - Mo.lastI p k ≤ u.clear) = false := decide_eq_false (by omega)
                    have m4 : (LV == 0) = false := by simp; omega
                    have f6 : w19.cell? ⟨g6, k, none⟩ = some (.bool false) := cell_at h6 (by rw [HP1.out k hlt, hI])
                    have f8 : w19.cell? ⟨g8, k, none⟩ = some (.int .i64 LV) := cell_at h8 (by rw [HL1.out k hlt, hL])
                    have zg6 : g6 < w19.heap.size := (Array.getElem?_eq_some_iff.1 h6).1
                    have zg8 : g8 < w19.heap.size := (Array.getElem?_eq_some_iff.1 h8).1
                    have zhT0 : w.heap.size < w19.heap.size := (Array.getElem?_eq_some_iff.1 hT0).1
                    have zhT1 : w.heap.size + 1 < w19.heap.size := (Array.getElem?_eq_some_iff.1 hT1).1
                    have zt5 : bt5 < w19.heap.size := (Array.getElem?_eq_some_iff.1 t5).1
                    refine wp_region_growG (by kernel_rfl) (by kernel_rfl) ?_
                    repeat (go_big_quiet_step ((first | fail)))
                    refine wpQuiet_nil (gw_out ?_)
                    intro wq hS
                    exact ⟨rfl, ⟨_, ⟨_, _, _, _, _, _, _, _, _, _, _, _, _, _, _, _, _, _, _, _, _, _, _, _, _, _, _, _, _, _, _, _, _, _, _, _, _, _, _, _, _, _, _, _, rfl⟩, rfl⟩, hS⟩
            clear qhT0_0 qhT0_1 qhT0_2 qhT0_3 qhT0_4 qhT1_0 qhT1_1 qhT1_2 qhT1_3 qhT1_4 qhT1_5 qt5_0 qt5_1 qt5_2 qt5_3 qt5_4
            rintro _ w20 ⟨xa101, xa102, xa103, xa104, xa105, xa106, xa107, xa108, xa109, xa110, xa111, xa112, xa113, xa114, xa115, xa116, xa117, xa118, xa119, xa120, xa121, xa122, xa123, xa124, xa125, xa126, xa127, xa128, xa129, xa130, xa131, xa132, xa133, xa134, xa135, xa136, xa137, xa138, xa139, xa140, xa141, xa142, xa143, xa144, rfl⟩ hS
            simp only [putRange, List.toList_toArray, List.take_succ_cons, List.take_zero, List.drop_succ_cons, List.drop_zero, List.cons_append, List.nil_append, List.length_cons, List.length_nil, Nat.reduceAdd]
            have hB20 := hB19.call hS rfl
            replace hT0 := blkb hT0 hS
            replace hT1 := blkb hT1 hS
            replace H := H.below hS
            replace t5 := blkb t5 hS
            replace h6 := blkb h6 hS
            replace h8 := blkb h8 hS
            replace hs := hs.below hS
            replace hBr := hBr.call hS rfl
            clear hS hB19
            have qhT0_0 : w20.cell? ⟨w.heap.size, 0, none⟩ = some (.int .i64 v.sx) := cell_at hT0 rfl
            have qhT0_1 : w20.cell? ⟨w.heap.size, 1, none⟩ = some (.int .i64 v.sy) := cell_at hT0 rfl
            have qhT0_2 : w20.cell? ⟨w.heap.size, 2, none⟩ = some (.int .i64 v.dx) := cell_at hT0 rfl
            have qhT0_3 : w20.cell? ⟨w.heap.size, 3, none⟩ = some (.int .i64 v.dy) := cell_at hT0 rfl
            have qhT0_4 : w20.cell? ⟨w.heap.size, 4, none⟩ = some (.int .i64 (N : Int)) := cell_at hT0 rfl
            have qhT1_0 : w20.cell? ⟨w.heap.size + 1, 0, none⟩ = some (.int .i64 u.ring) := cell_at hT1 rfl
            have qhT1_1 : w20.cell? ⟨w.heap.size + 1, 1, none⟩ = some (.int .i64 u.speed) := cell_at hT1 rfl
            have qhT1_2 : w20.cell? ⟨w.heap.size + 1, 2, none⟩ = some (.int .i64 u.loss) := cell_at hT1 rfl
            have qhT1_3 : w20.cell? ⟨w.heap.size + 1, 3, none⟩ = some (.int .i64 u.clear) := cell_at hT1 rfl
            have qhT1_4 : w20.cell? ⟨w.heap.size + 1, 4, none⟩ = some (.int .i64 u.soft) := cell_at hT1 rfl
            have qhT1_5 : w20.cell? ⟨w.heap.size + 1, 5, none⟩ = some (.slice A M cap) := cell_at hT1 rfl
            have qt5_0 : w20.cell? ⟨bt5, 0, none⟩ = some (.int .i64 u.ring) := cell_at t5 rfl
            have qt5_1 : w20.cell? ⟨bt5, 1, none⟩ = some (.int .i64 u.speed) := cell_at t5 rfl
            have qt5_2 : w20.cell? ⟨bt5, 2, none⟩ = some (.int .i64 u.loss) := cell_at t5 rfl
            have qt5_3 : w20.cell? ⟨bt5, 3, none⟩ = some (.int .i64 u.clear) := cell_at t5 rfl
            have qt5_4 : w20.cell? ⟨bt5, 4, none⟩ = some (.int .i64 u.soft) := cell_at t5 rfl
            clear f6 f8
            have f6 : w20.cell? ⟨g6, k, none⟩ = some (.bool false) := cell_at h6 (by rw [HP1.out k hlt, hI])
            have f8 : w20.cell? ⟨g8, k, none⟩ = some (.int .i64 LV) := cell_at h8 (by rw [HL1.out k hlt, hL])
            go_wp2
            refine wp_merge 146 (fun xs => ∃ xb146 xb147 xb148 xb149 xb150 xb151 xb152 xb153 xb154 xb155 xb156 xb157 xb158 xb159 xb160 xb161 xb162 xb163 xb164 xb165 xb166 xb167 xb168 xb169 xb170 xb171 xb172 xb173 xb174 xb175 xb176 xb177 xb178 xb179 xb180 xb181 xb182 xb183 xb184 xb185 xb186 xb187 xb188 xb189 xb190 xb191 xb192 xb193 xb194 xb195 xb196 xb197 xb198 : Value, xs = [xb146, xb147, xb148, xb149, xb150, xb151, xb152, xb153, xb154, xb155, xb156, xb157, xb158, xb159, xb160, xb161, xb162, xb163, xb164, xb165, xb166, xb167, xb168, xb169, xb170, xb171, xb172, xb173, xb174, xb175, xb176, xb177, xb178, xb179, xb180, xb181, xb182, xb183, xb184, xb185, xb186, xb187, xb188, xb189, xb190, xb191, xb192, xb193, xb194, xb195, xb196, xb197, xb198, .bool false]) ?_ ?_
            · as_aux_lemma =>
                by_cases h0 : LV = 0
                · as_aux_lemma =>
                    subst h0
                    have hq : (k : Int) - Mo.lastI p k ≤ u.clear := by
                      rcases Int.lt_or_le u.clear ((k : Int) - Mo.lastI p k) with h | h
                      · have := E5.out h
                        omega
                      · exact h
                    clear f6 f8
                    by_cases hk0 : k = 0
                    · as_aux_lemma =>
                        have hkz : decide ((0 : Int) < (k : Int)) = false := decide_eq_false (by omega)
                        have hkn : decide (0 < k) = false := decide_eq_false (by omega)
                        clear hk0
                        have ws : IntKind.i64.wrap (u.soft + 1) = u.soft + 1 := wrapI _ (by omega) (by omega)
                        have wk : IntKind.i64.wrap ((k : Int) - Mo.lastI p k) = (k : Int) - Mo.lastI p k := wrapI _ (by omega) (by omega)
                        have wz : IntKind.i64.wrap 0 = 0 := by decide
                        have wo : IntKind.i64.wrap 1 = 1 := by decide
                        have n1 : decide (u.soft + 1 < 0) = false := decide_eq_false (by omega)
                        have n3 : decide (u.clear < (k : Int) - Mo.lastI p k) = false := decide_eq_false (by omega)
                        have n4 : decide ((k : Int) - Mo.lastI p k ≤ u.clear) = true := decide_eq_true (by omega)
                        have f6 : w20.cell? ⟨g6, k, none⟩ = some (.bool false) := cell_at h6 (by rw [HP1.out k hlt, hI])
                        have f8 : w20.cell? ⟨g8, k, none⟩ = some (.int .i64 0) := cell_at h8 (by rw [HL1.out k hlt, hL])
                        have zg6 : g6 < w20.heap.size := (Array.getElem?_eq_some_iff.1 h6).1
                        have zg8 : g8 < w20.heap.size := (Array.getElem?_eq_some_iff.1 h8).1
                        have zhT0 : w.heap.size < w20.heap.size := (Array.getElem?_eq_some_iff.1 hT0).1
                        have zhT1 : w.heap.size + 1 < w20.heap.size := (Array.getElem?_eq_some_iff.1 hT1).1
                        have zt5 : bt5 < w20.heap.size := (Array.getElem?_eq_some_iff.1 t5).1
                        refine wp_region_growG (by kernel_rfl) (by kernel_rfl) ?_
                        repeat (go_big_quiet_step ((first | fail)))
                        refine wpQuiet_nil (gw_out ?_)
                        intro wq hS
                        exact ⟨rfl, ⟨_, ⟨_, _, _, _, _, _, _, _, _, _, _, _, _, _, _, _, _, _, _, _, _, _, _, _, _, _, _, _, _, _, _, _, _, _, _, _, _, _, _, _, _, _, _, _, _, _, _, _, _, _, _, _, _, rfl⟩, rfl⟩, hS⟩
                    · as_aux_lemma =>
                        obtain ⟨LP, hLP⟩ : ∃ x, lev (k - 1) = x := ⟨_, rfl⟩
                        have hst := HST.out (k - 1)
                        rw [Nat.sub_add_cancel (by omega), hL, hLP] at hst
                        obtain ⟨hst1, hst2⟩ := hst
                        have hk1 : (1 : Int) ≤ (k : Int) := by omega
                        have hk2 : (k : Int) - 1 < (N : Int) := by omega
                        have hkz : decide ((0 : Int) < (k : Int)) = true := decide_eq_true (by omega)
                        have hkn : decide (0 < k) = true := decide_eq_true (by omega)
                        clear hk0
                        have hlp := (HF.out (k - 1)).1
                        have hlp3 := (HF.out (k - 1)).2.2.1
                        rw [hLP] at hlp hlp3
                        have ws : IntKind.i64.wrap (u.soft + 1) = u.soft + 1 := wrapI _ (by omega) (by omega)
                        have wk : IntKind.i64.wrap ((k : Int) - Mo.lastI p k) = (k : Int) - Mo.lastI p k := wrapI _ (by omega) (by omega)
                        have wz : IntKind.i64.wrap 0 = 0 := by decide
                        have wo : IntKind.i64.wrap 1 = 1 := by decide
                        have wp : IntKind.i64.wrap (LP + 1) = LP + 1 := wrapI _ (by omega) (by omega)
                        have wm : IntKind.i64.wrap ((k : Int) - 1) = (k : Int) - 1 := wrapI _ (by omega) (by omega)
                        have n1 : decide (u.soft + 1 < 0) = false := decide_eq_false (by omega)
                        have n3 : decide (u.clear < (k : Int) - Mo.lastI p k) = false := decide_eq_false (by omega)
                        have n4 : decide ((k : Int) - Mo.lastI p k ≤ u.clear) = true := decide_eq_true (by omega)
                        have m6 : decide (LP + 1 < 0) = false := decide_eq_false (by omega)
                        clear hst1 hst2
                        by_cases hz0 : 0 < LP
                        · as_aux_lemma =>
                            have hz : decide (0 < LP) = true := decide_eq_true (by omega)
                            clear hz0
                            have f6 : w20.cell? ⟨g6, k, none⟩ = some (.bool false) := cell_at h6 (by rw [HP1.out k hlt, hI])
                            have f8 : w20.cell? ⟨g8, k, none⟩ = some (.int .i64 0) := cell_at h8 (by rw [HL1.out k hlt, hL])
                            have f9 : w20.cell? ⟨g8, k - 1, none⟩ = some (.int .i64 LP) := cell_at h8 (by rw [HL1.out (k - 1) (by omega), hLP])
                            have zg6 : g6 < w20.heap.size := (Array.getElem?_eq_some_iff.1 h6).1
                            have zg8 : g8 < w20.heap.size := (Array.getElem?_eq_some_iff.1 h8).1
                            have zhT0 : w.heap.size < w20.heap.size := (Array.getElem?_eq_some_iff.1 hT0).1
                            have zhT1 : w.heap.size + 1 < w20.heap.size := (Array.getElem?_eq_some_iff.1 hT1).1
                            have zt5 : bt5 < w20.heap.size := (Array.getElem?_eq_some_iff.1 t5).1
                            refine wp_region_growG (by kernel_rfl) (by kernel_rfl) ?_
                            repeat (go_big_quiet_step ((first | fail)))
                            refine wpQuiet_nil (gw_out ?_)
                            intro wq hS
                            exact ⟨rfl, ⟨_, ⟨_, _, _, _, _, _, _, _, _, _, _, _, _, _, _, _, _, _, _, _, _, _, _, _, _, _, _, _, _, _, _, _, _, _, _, _, _, _, _, _, _, _, _, _, _, _, _, _, _, _, _, _, _, rfl⟩, rfl⟩, hS⟩
                        · as_aux_lemma =>
                            have hz : decide (0 < LP) = false := decide_eq_false (by omega)
                            clear hz0
                            have f6 : w20.cell? ⟨g6, k, none⟩ = some (.bool false) := cell_at h6 (by rw [HP1.out k hlt, hI])
                            have f8 : w20.cell? ⟨g8, k, none⟩ = some (.int .i64 0) := cell_at h8 (by rw [HL1.out k hlt, hL])
                            have f9 : w20.cell? ⟨g8, k - 1, none⟩ = some (.int .i64 LP) := cell_at h8 (by rw [HL1.out (k - 1) (by omega), hLP])
                            have zg6 : g6 < w20.heap.size := (Array.getElem?_eq_some_iff.1 h6).1
                            have zg8 : g8 < w20.heap.size := (Array.getElem?_eq_some_iff.1 h8).1
                            have zhT0 : w.heap.size < w20.heap.size := (Array.getElem?_eq_some_iff.1 hT0).1
                            have zhT1 : w.heap.size + 1 < w20.heap.size := (Array.getElem?_eq_some_iff.1 hT1).1
                            have zt5 : bt5 < w20.heap.size := (Array.getElem?_eq_some_iff.1 t5).1
                            refine wp_region_growG (by kernel_rfl) (by kernel_rfl) ?_
                            repeat (go_big_quiet_step ((first | fail)))
                            refine wpQuiet_nil (gw_out ?_)
                            intro wq hS
                            exact ⟨rfl, ⟨_, ⟨_, _, _, _, _, _, _, _, _, _, _, _, _, _, _, _, _, _, _, _, _, _, _, _, _, _, _, _, _, _, _, _, _, _, _, _, _, _, _, _, _, _, _, _, _, _, _, _, _, _, _, _, _, rfl⟩, rfl⟩, hS⟩
                · as_aux_lemma =>
                    have hl1 : 1 ≤ LV := by omega
                    have hq : ¬ (k : Int) - Mo.lastI p k ≤ u.clear := fun h => h0 (E4.out h)
                    clear h0
                    clear f6 f8
                    by_cases hk0 : k = 0
                    · as_aux_lemma =>
                        have hkz : decide ((0 : Int) < (k : Int)) = false := decide_eq_false (by omega)
                        have hkn : decide (0 < k) = false := decide_eq_false (by omega)
                        clear hk0
                        have ws : IntKind.i64.wrap (u.soft + 1) = u.soft + 1 := wrapI _ (by omega) (by omega)
                        have wk : IntKind.i64.wrap ((k : Int) - Mo.lastI p k) = (k : Int) - Mo.lastI p k := wrapI _ (by omega) (by omega)
                        have wz : IntKind.i64.wrap 0 = 0 := by decide
                        have wo : IntKind.i64.wrap 1 = 1 := by decide
                        have m1 : decide (LV < 0) = false := decide_eq_false (by omega)
                        have m2 : decide (u.soft + 1 < LV) = false := decide_eq_false (by omega)
                        have m3 : decide (u.clear < (k : Int) - Mo.lastI p k) = true := decide_eq_true (by omega)
                        have m7 : decide ((k : Int) - Mo.lastI p k ≤ u.clear) = false := decide_eq_false (by omega)
                        have m4 : (LV == 0) = false := by simp; omega
                        have f6 : w20.cell? ⟨g6, k, none⟩ = some (.bool false) := cell_at h6 (by rw [HP1.out k hlt, hI])
                        have f8 : w20.cell? ⟨g8, k, none⟩ = some (.int .i64 LV) := cell_at h8 (by rw [HL1.out k hlt, hL])
                        have zg6 : g6 < w20.heap.size := (Array.getElem?_eq_some_iff.1 h6).1
                        have zg8 : g8 < w20.heap.size := (Array.getElem?_eq_some_iff.1 h8).1
                        have zhT0 : w.heap.size < w20.heap.size := (Array.getElem?_eq_some_iff.1 hT0).1
                        have zhT1 : w.heap.size + 1 < w20.heap.size := (Array.getElem?_eq_some_iff.1 hT1).1
                        have zt5 : bt5 < w20.heap.size := (Array.getElem?_eq_some_iff.1 t5).1
                        refine wp_region_growG (by kernel_rfl) (by kernel_rfl) ?_
                        repeat (go_big_quiet_step ((first | fail)))
                        refine wpQuiet_nil (gw_out ?_)
                        intro wq hS
                        exact ⟨rfl, ⟨_, ⟨_, _, _, _, _, _, _, _, _, _, _, _, _, _, _, _, _, _, _, _, _, _, _, _, _, _, _, _, _, _, _, _, _, _, _, _, _, _, _, _, _, _, _, _, _, _, _, _, _, _, _, _, _, rfl⟩, rfl⟩, hS⟩
                    · as_aux_lemma =>
                        obtain ⟨LP, hLP⟩ : ∃ x, lev (k - 1) = x := ⟨_, rfl⟩
                        have hst := HST.out (k - 1)
                        rw [Nat.sub_add_cancel (by omega), hL, hLP] at hst
                        obtain ⟨hst1, hst2⟩ := hst
                        have hk1 : (1 : Int) ≤ (k : Int) := by omega
                        have hk2 : (k : Int) - 1 < (N : Int) := by omega
                        have hkz : decide ((0 : Int) < (k : Int)) = true := decide_eq_true (by omega)
                        have hkn : decide (0 < k) = true := decide_eq_true (by omega)
                        clear hk0
                        have hlp := (HF.out (k - 1)).1
                        have hlp3 := (HF.out (k - 1)).2.2.1
                        rw [hLP] at hlp hlp3
                        have ws : IntKind.i64.wrap (u.soft + 1) = u.soft + 1 := wrapI _ (by omega) (by omega)
                        have wk : IntKind.i64.wrap ((k : Int) - Mo.lastI p k) = (k : Int) - Mo.lastI p k := wrapI _ (by omega) (by omega)
                        have wz : IntKind.i64.wrap 0 = 0 := by decide
                        have wo : IntKind.i64.wrap 1 = 1 := by decide
                        have wp : IntKind.i64.wrap (LP + 1) = LP + 1 := wrapI _ (by omega) (by omega)
                        have wm : IntKind.i64.wrap ((k : Int) - 1) = (k : Int) - 1 := wrapI _ (by omega) (by omega)
                        have m1 : decide (LV < 0) = false := decide_eq_false (by omega)
                        have m2 : decide (u.soft + 1 < LV) = false := decide_eq_false (by omega)
                        have m3 : decide (u.clear < (k : Int) - Mo.lastI p k) = true := decide_eq_true (by omega)
                        have m7 : decide ((k : Int) - Mo.lastI p k ≤ u.clear) = false := decide_eq_false (by omega)
                        have m4 : (LV == 0) = false := by simp; omega
                        have hst3 : decide (LV < LP) = false := decide_eq_false (by omega)
                        have m5 : decide (LP + 1 < LV) = false := decide_eq_false (by omega)
                        clear hst1 hst2
                        have f6 : w20.cell? ⟨g6, k, none⟩ = some (.bool false) := cell_at h6 (by rw [HP1.out k hlt, hI])
                        have f8 : w20.cell? ⟨g8, k, none⟩ = some (.int .i64 LV) := cell_at h8 (by rw [HL1.out k hlt, hL])
                        have f9 : w20.cell? ⟨g8, k - 1, none⟩ = some (.int .i64 LP) := cell_at h8 (by rw [HL1.out (k - 1) (by omega), hLP])
                        have zg6 : g6 < w20.heap.size := (Array.getElem?_eq_some_iff.1 h6).1
                        have zg8 : g8 < w20.heap.size := (Array.getElem?_eq_some_iff.1 h8).1
                        have zhT0 : w.heap.size < w20.heap.size := (Array.getElem?_eq_some_iff.1 hT0).1
                        have zhT1 : w.heap.size + 1 < w20.heap.size := (Array.getElem?_eq_some_iff.1 hT1).1
                        have zt5 : bt5 < w20.heap.size := (Array.getElem?_eq_some_iff.1 t5).1
                        refine wp_region_growG (by kernel_rfl) (by kernel_rfl) ?_
                        repeat (go_big_quiet_step ((first | fail)))
                        refine wpQuiet_nil (gw_out ?_)
                        intro wq hS
                        exact ⟨rfl, ⟨_, ⟨_, _, _, _, _, _, _, _, _, _, _, _, _, _, _, _, _, _, _, _, _, _, _, _, _, _, _, _, _, _, _, _, _, _, _, _, _, _, _, _, _, _, _, _, _, _, _, _, _, _, _, _, _, rfl⟩, rfl⟩, hS⟩
            clear qhT0_0 qhT0_1 qhT0_2 qhT0_3 qhT0_4 qhT1_0 qhT1_1 qhT1_2 qhT1_3 qhT1_4 qhT1_5 qt5_0 qt5_1 qt5_2 qt5_3 qt5_4
            rintro _ w21 ⟨xb146, xb147, xb148, xb149, xb150, xb151, xb152, xb153, xb154, xb155, xb156, xb157, xb158, xb159, xb160, xb161, xb162, xb163, xb164, xb165, xb166, xb167, xb168, xb169, xb170, xb171, xb172, xb173, xb174, xb175, xb176, xb177, xb178, xb179, xb180, xb181, xb182, xb183, xb184, xb185, xb186, xb187, xb188, xb189, xb190, xb191, xb192, xb193, xb194, xb195, xb196, xb197, xb198, rfl⟩ hS
            simp only [putRange, List.toList_toArray, List.take_succ_cons, List.take_zero, List.drop_succ_cons, List.drop_zero, List.cons_append, List.nil_append, List.length_cons, List.length_nil, Nat.reduceAdd]
            have hB21 := hB20.call hS rfl
            replace hT0 := blkb hT0 hS
            replace hT1 := blkb hT1 hS
            replace H := H.below hS
            replace t5 := blkb t5 hS
            replace h6 := blkb h6 hS
            replace h8 := blkb h8 hS
            replace hs := hs.below hS
            replace hBr := hBr.call hS rfl
            clear hS hB20
            have qhT0_0 : w21.cell? ⟨w.heap.size, 0, none⟩ = some (.int .i64 v.sx) := cell_at hT0 rfl
            have qhT0_1 : w21.cell? ⟨w.heap.size, 1, none⟩ = some (.int .i64 v.sy) := cell_at hT0 rfl
            have qhT0_2 : w21.cell? ⟨w.heap.size, 2, none⟩ = some (.int .i64 v.dx) := cell_at hT0 rfl
            have qhT0_3 : w21.cell? ⟨w.heap.size, 3, none⟩ = some (.int .i64 v.dy) := cell_at hT0 rfl
            have qhT0_4 : w21.cell? ⟨w.heap.size, 4, none⟩ = some (.int .i64 (N : Int)) := cell_at hT0 rfl
            have qhT1_0 : w21.cell? ⟨w.heap.size + 1, 0, none⟩ = some (.int .i64 u.ring) := cell_at hT1 rfl
            have qhT1_1 : w21.cell? ⟨w.heap.size + 1, 1, none⟩ = some (.int .i64 u.speed) := cell_at hT1 rfl
            have qhT1_2 : w21.cell? ⟨w.heap.size + 1, 2, none⟩ = some (.int .i64 u.loss) := cell_at hT1 rfl
            have qhT1_3 : w21.cell? ⟨w.heap.size + 1, 3, none⟩ = some (.int .i64 u.clear) := cell_at hT1 rfl
            have qhT1_4 : w21.cell? ⟨w.heap.size + 1, 4, none⟩ = some (.int .i64 u.soft) := cell_at hT1 rfl
            have qhT1_5 : w21.cell? ⟨w.heap.size + 1, 5, none⟩ = some (.slice A M cap) := cell_at hT1 rfl
            have qt5_0 : w21.cell? ⟨bt5, 0, none⟩ = some (.int .i64 u.ring) := cell_at t5 rfl
            have qt5_1 : w21.cell? ⟨bt5, 1, none⟩ = some (.int .i64 u.speed) := cell_at t5 rfl
            have qt5_2 : w21.cell? ⟨bt5, 2, none⟩ = some (.int .i64 u.loss) := cell_at t5 rfl
            have qt5_3 : w21.cell? ⟨bt5, 3, none⟩ = some (.int .i64 u.clear) := cell_at t5 rfl
            have qt5_4 : w21.cell? ⟨bt5, 4, none⟩ = some (.int .i64 u.soft) := cell_at t5 rfl
            clear f6 f8
            have f6 : w21.cell? ⟨g6, k, none⟩ = some (.bool false) := cell_at h6 (by rw [HP1.out k hlt, hI])
            have f8 : w21.cell? ⟨g8, k, none⟩ = some (.int .i64 LV) := cell_at h8 (by rw [HL1.out k hlt, hL])
            go_wp2
            clear f6 f8
            clear qhT0_0 qhT0_1 qhT0_2 qhT0_3 qhT0_4 qhT1_0 qhT1_1 qhT1_2 qhT1_3 qhT1_4 qhT1_5 qt5_0 qt5_1 qt5_2 qt5_3 qt5_4
            go_loopw [14, 202] (fun c i wr => ∃ j : Nat, j ≤ R.length ∧ i = .int .i64 j ∧ c = .int .i64 (Mo.cov (R.take j) k : Nat) ∧ Below w21.heap.size w21 wr) (fun _ i _ => R.length - (intOf i).toNat)
            case atStart => exact ⟨0, Nat.zero_le _, rfl, rfl, Below.refl _ _⟩
            case round =>
              obtain ⟨j, hj, rfl, rfl, hBi⟩ := hrel
              obtain ⟨w22, hww⟩ : ∃ W, W = wr := ⟨_, rfl⟩
              rw [← hww] at hBi ⊢
              clear hww
              have hB22 := hB21.call hBi rfl
              replace hT0 := blkb hT0 hBi
              replace hT1 := blkb hT1 hBi
              replace H := H.below hBi
              replace t5 := blkb t5 hBi
              replace h6 := blkb h6 hBi
              replace h8 := blkb h8 hBi
              replace hs := hs.below hBi
              replace hBr := hBr.call hBi rfl
              clear hB21
              have hcv : Mo.cov (R.take j) k ≤ 4096 := Nat.le_trans (List.countP_le_length ..) (by rw [List.length_take]; omega)
              by_cases hjl : j < R.length
              · as_aux_lemma =>
                  obtain ⟨b, off, sp, rfl, hx, hb, hc⟩ := RdL.at hs Spn.len hjl
                  have s0 : w22.cell? ⟨b, off + j * 2, none⟩ = some (.int .i64 sp.f) := hc 0 (by omega)
                  have s1 : w22.cell? ⟨b, off + j * 2 + 1, none⟩ = some (.int .i64 sp.t) := hc 1 (by omega)
                  have hcs := Mo.cov_take hx (k : Int)
                  have HCS := Lib.hid hcs
                  clear hcs hc hx
                  have hz : (w22.alloc (Obj.cells #[.int .i64 0, .int .i64 0] 96)).heap[w22.heap.size]? = some (Obj.cells #[.int .i64 0, .int .i64 0] 96) := heap_new rfl
                  go_wp2_with (refine wpList_store_blk rfl 96 _ _ rfl w22.heap.size _ rfl rfl hz ?s1 ?s2 ?s3 ?_)
                  case s1 => rfl
                  case s2 => kernel_rfl
                  case s3 => simp [Value.oneCell']
                  intro w23 t16 hg3 hs3
                  have hS := ((Below.refl _ _).alloc (Nat.le_refl _) _).grown hg3 (by simp) (fun j hj => by cases hj; exact Nat.le_refl _)
                  have hB23 := hB22.call hS rfl
                  replace hT0 := blkb hT0 hS
                  replace hT1 := blkb hT1 hS
                  replace H := H.below hS
                  replace t5 := blkb t5 hS
                  replace h6 := blkb h6 hS
                  replace h8 := blkb h8 hS
                  replace hs := hs.below hS
                  replace hBr := hBr.call hS rfl
                  replace hBi := hBi.call hS rfl
                  clear hS hB22
                  have qhT0_0 : w23.cell? ⟨w.heap.size, 0, none⟩ = some (.int .i64 v.sx) := cell_at hT0 rfl
                  have qhT0_1 : w23.cell? ⟨w.heap.size, 1, none⟩ = some (.int .i64 v.sy) := cell_at hT0 rfl
                  have qhT0_2 : w23.cell? ⟨w.heap.size, 2, none⟩ = some (.int .i64 v.dx) := cell_at hT0 rfl
                  have qhT0_3 : w23.cell? ⟨w.heap.size, 3, none⟩ = some (.int .i64 v.dy) := cell_at hT0 rfl
                  have qhT0_4 : w23.cell? ⟨w.heap.size, 4, none⟩ = some (.int .i64 (N : Int)) := cell_at hT0 rfl
                  have qhT1_0 : w23.cell? ⟨w.heap.size + 1, 0, none⟩ = some (.int .i64 u.ring) := cell_at hT1 rfl
                  have qhT1_1 : w23.cell? ⟨w.heap.size + 1, 1, none⟩ = some (.int .i64 u.speed) := cell_at hT1 rfl
                  have qhT1_2 : w23.cell? ⟨w.heap.size + 1, 2, none⟩ = some (.int .i64 u.loss) := cell_at hT1 rfl
                  have qhT1_3 : w23.cell? ⟨w.heap.size + 1, 3, none⟩ = some (.int .i64 u.clear) := cell_at hT1 rfl
                  have qhT1_4 : w23.cell? ⟨w.heap.size + 1, 4, none⟩ = some (.int .i64 u.soft) := cell_at hT1 rfl
                  have qhT1_5 : w23.cell? ⟨w.heap.size + 1, 5, none⟩ = some (.slice A M cap) := cell_at hT1 rfl
                  have qt5_0 : w23.cell? ⟨bt5, 0, none⟩ = some (.int .i64 u.ring) := cell_at t5 rfl
                  have qt5_1 : w23.cell? ⟨bt5, 1, none⟩ = some (.int .i64 u.speed) := cell_at t5 rfl
                  have qt5_2 : w23.cell? ⟨bt5, 2, none⟩ = some (.int .i64 u.loss) := cell_at t5 rfl
                  have qt5_3 : w23.cell? ⟨bt5, 3, none⟩ = some (.int .i64 u.clear) := cell_at t5 rfl
                  have qt5_4 : w23.cell? ⟨bt5, 4, none⟩ = some (.int .i64 u.soft) := cell_at t5 rfl
                  clear hz hg3 hs3
                  obtain ⟨bt16, hbt16⟩ : ∃ b, b = w22.heap.size := ⟨_, rfl⟩
                  rw [← hbt16] at t16 ⊢
                  clear hbt16
                  have s2 : w23.cell? ⟨bt16, 0, none⟩ = some (.int .i64 sp.f) := cell_at t16 rfl
                  have s3 : w23.cell? ⟨bt16, 1, none⟩ = some (.int .i64 sp.t) := cell_at t16 rfl
                  by_cases c1 : sp.f ≤ (k : Int)
                  · by_cases c2 : (k : Int) < sp.t
                    · go_wp2
                      go_roundw
                      case rel => exact ⟨j + 1, by omega, by go_num, by rw [HCS.out, if_pos ⟨c1, c2⟩]; go_num, hBi⟩
                      case measure => simp [intOf]; omega
                    · go_wp2
                      go_roundw
                      case rel => exact ⟨j + 1, by omega, by go_num, by rw [HCS.out, if_neg (fun h => c2 h.2)]; rfl, hBi⟩
                      case measure => simp [intOf]; omega
                  · go_wp2
                    go_roundw
                    case rel => exact ⟨j + 1, by omega, by go_num, by rw [HCS.out, if_neg (fun h => c1 h.1)]; rfl, hBi⟩
                    case measure => simp [intOf]; omega
              · as_aux_lemma =>
                  obtain rfl : j = R.length := by omega
                  clear hjl
                  have hcr : Mo.cov (R.take R.length) k = if lev k = 0 then 1 else 0 := by rw [List.take_length, HRC.out k hlt]
                  rw [hL] at hcr
                  obtain ⟨cc, hcc⟩ : ∃ c : Int, c = ((Mo.cov (R.take R.length) k : Nat) : Int) := ⟨_, rfl⟩
                  obtain ⟨bz, hbz⟩ : ∃ b, b = decide (LV = 0) := ⟨_, rfl⟩
                  have hc0 : cc = if LV = 0 then 1 else 0 := by rw [hcc, hcr]; split <;> rfl
                  have hc1 : decide (1 < cc) = false := decide_eq_false (by rw [hc0]; split <;> omega)
                  have hc2 : (cc == 1) = bz := by rw [hc0, hbz]; split <;> simp_all
                  have hc3 : (LV == 0) = bz := by rw [hbz]; rfl
                  rw [← hcc]
                  clear hcr hcv hcc hc0 hbz
                  have wz : IntKind.i64.wrap 0 = 0 := by decide
                  have wo : IntKind.i64.wrap 1 = 1 := by decide
                  have wv : IntKind.i64.wrap (LV + 1) = LV + 1 := wrapI _ (by omega) (by omega)
                  have qhT0_0 : w22.cell? ⟨w.heap.size, 0, none⟩ = some (.int .i64 v.sx) := cell_at hT0 rfl
                  have qhT0_1 : w22.cell? ⟨w.heap.size, 1, none⟩ = some (.int .i64 v.sy) := cell_at hT0 rfl
                  have qhT0_2 : w22.cell? ⟨w.heap.size, 2, none⟩ = some (.int .i64 v.dx) := cell_at hT0 rfl
                  have qhT0_3 : w22.cell? ⟨w.heap.size, 3, none⟩ = some (.int .i64 v.dy) := cell_at hT0 rfl
                  have qhT0_4 : w22.cell? ⟨w.heap.size, 4, none⟩ = some (.int .i64 (N : Int)) := cell_at hT0 rfl
                  have qhT1_0 : w22.cell? ⟨w.heap.size + 1, 0, none⟩ = some (.int .i64 u.ring) := cell_at hT1 rfl
                  have qhT1_1 : w22.cell? ⟨w.heap.size + 1, 1, none⟩ = some (.int .i64 u.speed) := cell_at hT1 rfl
                  have qhT1_2 : w22.cell? ⟨w.heap.size + 1, 2, none⟩ = some (.int .i64 u.loss) := cell_at hT1 rfl
                  have qhT1_3 : w22.cell? ⟨w.heap.size + 1, 3, none⟩ = some (.int .i64 u.clear) := cell_at hT1 rfl
                  have qhT1_4 : w22.cell? ⟨w.heap.size + 1, 4, none⟩ = some (.int .i64 u.soft) := cell_at hT1 rfl
                  have qhT1_5 : w22.cell? ⟨w.heap.size + 1, 5, none⟩ = some (.slice A M cap) := cell_at hT1 rfl
                  have qt5_0 : w22.cell? ⟨bt5, 0, none⟩ = some (.int .i64 u.ring) := cell_at t5 rfl
                  have qt5_1 : w22.cell? ⟨bt5, 1, none⟩ = some (.int .i64 u.speed) := cell_at t5 rfl
                  have qt5_2 : w22.cell? ⟨bt5, 2, none⟩ = some (.int .i64 u.loss) := cell_at t5 rfl
                  have qt5_3 : w22.cell? ⟨bt5, 3, none⟩ = some (.int .i64 u.clear) := cell_at t5 rfl
                  have qt5_4 : w22.cell? ⟨bt5, 4, none⟩ = some (.int .i64 u.soft) := cell_at t5 rfl
                  have f6 : w22.cell? ⟨g6, k, none⟩ = some (.bool false) := cell_at h6 (by rw [HP1.out k hlt, hI])
                  have f8 : w22.cell? ⟨g8, k, none⟩ = some (.int .i64 LV) := cell_at h8 (by rw [HL1.out k hlt, hL])
                  go_wp2
                  have zg6 : g6 < w22.heap.size := (Array.getElem?_eq_some_iff.1 h6).1
                  have zg8 : g8 < w22.heap.size := (Array.getElem?_eq_some_iff.1 h8).1
                  refine wp_region_plan [(0, true), (1, true), (2, true), (3, true), (4, true), (5, true), (6, true), (7, true), (8, true), (11, true), (9, false), (10, true)] w22.heap.size (by kernel_rfl) (by kernel_rfl) (Nat.le_refl _) (fun _ _ d _ _ h => by cases d <;> exact h) ?_
                  have hC : Below w22.heap.size w22 w22 := Below.refl _ _
                  have zhT0 : w.heap.size < w22.heap.size := (Array.getElem?_eq_some_iff.1 hT0).1
                  have zhT1 : w.heap.size + 1 < w22.heap.size := (Array.getElem?_eq_some_iff.1 hT1).1
                  have zt5 : bt5 < w22.heap.size := (Array.getElem?_eq_some_iff.1 t5).1
                  repeat (first | (refine wpPlanA_skip _ rfl (by rfl) ?_; simp only [Act.put, List.setIfInBounds_toArray, List.set_cons_zero, List.set_cons_succ]) | (refine wpPlanA_soft _ ?_ rfl (by rfl) ?_ ?_; rotate_left; (intro wq hq hcq; go_simp; first | exact rfl | exact ⟨rfl, rfl⟩); simp only [Act.put, List.setIfInBounds_toArray, List.set_cons_zero, List.set_cons_succ]))
                  refine wpPlanA_hard _ rfl (by rfl) (fun w23 hS K hK => ?_)
                  have hB23 := hB22.call hS rfl
                  replace hC := hC.call hS rfl
                  replace hT0 := blkb hT0 hS
                  replace hT1 := blkb hT1 hS
                  replace H := H.below hS
                  replace t5 := blkb t5 hS
                  replace h6 := blkb h6 hS
                  replace h8 := blkb h8 hS
                  replace hs := hs.below hS
                  replace hBr := hBr.call hS rfl
                  replace hBi := hBi.call hS rfl
                  clear hS hB22
                  go_simp
                  have hb : Below w23.heap.size w23 (w23.alloc (Obj.cells #[.int .i64 1, .int .i64 LV, .int .i64 (LV + 1)] 3)) := (Below.refl _ _).alloc (Nat.le_refl _) _
                  have t240 : (w23.alloc (Obj.cells #[.int .i64 1, .int .i64 LV, .int .i64 (LV + 1)] 3)).heap[w23.heap.size]? = some (Obj.cells #[.int .i64 1, .int .i64 LV, .int .i64 (LV + 1)] 3) := heap_new rfl
                  refine hK _ _ (hC.alloc hC.size _) ?_
                  clear hK K
                  replace hC := hC.call hb rfl
                  have hB24 := hB23.call hb rfl
                  replace hT0 := blkb hT0 hb
                  replace hT1 := blkb hT1 hb
                  replace H := H.below hb
                  replace t5 := blkb t5 hb
                  replace h6 := blkb h6 hb
                  replace h8 := blkb h8 hb
                  replace hs := hs.below hb
                  replace hBr := hBr.call hb rfl
                  replace hBi := hBi.call hb rfl
                  clear hb hB23
                  generalize hWn : w23.alloc (Obj.cells #[.int .i64 1, .int .i64 LV, .int .i64 (LV + 1)] 3) = w24 at t240 hC hB24 hT0 hT1 H t5 h6 h8 hs hBr hBi ⊢
                  clear hWn
                  generalize hWn : w23.heap.size = bt240 at t240 ⊢
                  clear hWn
                  try simp only [Act.put, List.setIfInBounds_toArray, List.set_cons_zero, List.set_cons_succ]
                  repeat (first | (refine wpPlanA_skip _ rfl (by rfl) ?_; simp only [Act.put, List.setIfInBounds_toArray, List.set_cons_zero, List.set_cons_succ]) | (refine wpPlanA_soft _ ?_ rfl (by rfl) ?_ ?_; rotate_left; (intro wq hq hcq; go_simp; first | exact rfl | exact ⟨rfl, rfl⟩); simp only [Act.put, List.setIfInBounds_toArray, List.set_cons_zero, List.set_cons_succ]))
                  clear f6 f8
                  clear qhT0_0 qhT0_1 qhT0_2 qhT0_3 qhT0_4 qhT1_0 qhT1_1 qhT1_2 qhT1_3 qhT1_4 qhT1_5 qt5_0 qt5_1 qt5_2 qt5_3 qt5_4
                  refine wpPlanA_nil (fun w25 hS => ?_)
                  clear hC zhT0 zhT1 zt5 zg6 zg8
                  have hB25 := hB24.call hS rfl
                  replace hT0 := blkb hT0 hS
                  replace hT1 := blkb hT1 hS
                  replace H := H.below hS
                  replace t5 := blkb t5 hS
                  replace h6 := blkb h6 hS
                  replace h8 := blkb h8 hS
                  replace hs := hs.below hS
                  replace hBr := hBr.call hS rfl
                  replace hBi := hBi.call hS rfl
                  replace t240 := blkb t240 hS
                  clear hS hB24
                  have qhT0_0 : w25.cell? ⟨w.heap.size, 0, none⟩ = some (.int .i64 v.sx) := cell_at hT0 rfl
                  have qhT0_1 : w25.cell? ⟨w.heap.size, 1, none⟩ = some (.int .i64 v.sy) := cell_at hT0 rfl
                  have qhT0_2 : w25.cell? ⟨w.heap.size, 2, none⟩ = some (.int .i64 v.dx) := cell_at hT0 rfl
                  have qhT0_3 : w25.cell? ⟨w.heap.size, 3, none⟩ = some (.int .i64 v.dy) := cell_at hT0 rfl
                  have qhT0_4 : w25.cell? ⟨w.heap.size, 4, none⟩ = some (.int .i64 (N : Int)) := cell_at hT0 rfl
                  have qhT1_0 : w25.cell? ⟨w.heap.size + 1, 0, none⟩ = some (.int .i64 u.ring) := cell_at hT1 rfl
                  have qhT1_1 : w25.cell? ⟨w.heap.size + 1, 1, none⟩ = some (.int .i64 u.speed) := cell_at hT1 rfl
                  have qhT1_2 : w25.cell? ⟨w.heap.size + 1, 2, none⟩ = some (.int .i64 u.loss) := cell_at hT1 rfl
                  have qhT1_3 : w25.cell? ⟨w.heap.size + 1, 3, none⟩ = some (.int .i64 u.clear) := cell_at hT1 rfl
                  have qhT1_4 : w25.cell? ⟨w.heap.size + 1, 4, none⟩ = some (.int .i64 u.soft) := cell_at hT1 rfl
                  have qhT1_5 : w25.cell? ⟨w.heap.size + 1, 5, none⟩ = some (.slice A M cap) := cell_at hT1 rfl
                  have qt5_0 : w25.cell? ⟨bt5, 0, none⟩ = some (.int .i64 u.ring) := cell_at t5 rfl
                  have qt5_1 : w25.cell? ⟨bt5, 1, none⟩ = some (.int .i64 u.speed) := cell_at t5 rfl
                  have qt5_2 : w25.cell? ⟨bt5, 2, none⟩ = some (.int .i64 u.loss) := cell_at t5 rfl
                  have qt5_3 : w25.cell? ⟨bt5, 3, none⟩ = some (.int .i64 u.clear) := cell_at t5 rfl
                  have qt5_4 : w25.cell? ⟨bt5, 4, none⟩ = some (.int .i64 u.soft) := cell_at t5 rfl
                  go_wp2
                  clear qhT0_0 qhT0_1 qhT0_2 qhT0_3 qhT0_4 qhT1_0 qhT1_1 qhT1_2 qhT1_3 qhT1_4 qhT1_5 qt5_0 qt5_1 qt5_2 qt5_3 qt5_4
                  go_loopw [242] (fun i wr => ∃ j : Nat, j ≤ 3 ∧ i = .int .i64 j ∧ Below w25.heap.size w25 wr) (fun i _ => 3 - (intOf i).toNat)
                  case atStart => exact ⟨0, by omega, rfl, Below.refl _ _⟩
                  case round =>
                    obtain ⟨j, hj, rfl, hBj⟩ := hrel
                    obtain ⟨w26, hww⟩ : ∃ W, W = wr := ⟨_, rfl⟩
                    rw [← hww] at hBj ⊢
                    clear hww
                    have hB26 := hB25.call hBj rfl
                    replace hT0 := blkb hT0 hBj
                    replace hT1 := blkb hT1 hBj
                    replace H := H.below hBj
                    replace t5 := blkb t5 hBj
                    replace h6 := blkb h6 hBj
                    replace h8 := blkb h8 hBj
                    replace hs := hs.below hBj
                    replace hBr := hBr.call hBj rfl
                    replace hBi := hBi.call hBj rfl
                    replace t240 := blkb t240 hBj
                    clear hB25
                    by_cases hjl : j < 3
                    · as_aux_lemma =>
                        obtain ⟨x, fx, hx0, hx1⟩ : ∃ x, w26.cell? ⟨bt240, j, none⟩ = some (.int .i64 x) ∧ 0 ≤ x ∧ x ≤ 1002 := by
                          rcases (show j = 0 ∨ j = 1 ∨ j = 2 by omega) with rfl | rfl | rfl
                          · exact ⟨_, cell_at t240 rfl, by omega, by omega⟩
                          · exact ⟨_, cell_at t240 rfl, by omega, by omega⟩
                          · exact ⟨_, cell_at t240 rfl, by omega, by omega⟩
                        by_cases hxa : x < 1
                        · go_wp2
                          go_roundw
                          case rel => exact ⟨j + 1, by omega, by go_num, hBj⟩
                          case measure => simp [intOf]; omega
                        by_cases hxb : 1001 < x
                        · go_wp2
                          go_roundw
                          case rel => exact ⟨j + 1, by omega, by go_num, hBj⟩
                          case measure => simp [intOf]; omega
                        by_cases hxl : LV < x
                        · as_aux_lemma =>
                            have hfv : Mo.fires v u l [⟨k, x⟩] = 21 := by rw [HFO.out k x hlt (by omega) (by omega), hI, hL]; rw [if_neg (by decide), if_pos (by omega)]
                            have qhT0_0 : w26.cell? ⟨w.heap.size, 0, none⟩ = some (.int .i64 v.sx) := cell_at hT0 rfl
                            have qhT0_1 : w26.cell? ⟨w.heap.size, 1, none⟩ = some (.int .i64 v.sy) := cell_at hT0 rfl
                            have qhT0_2 : w26.cell? ⟨w.heap.size, 2, none⟩ = some (.int .i64 v.dx) := cell_at hT0 rfl
                            have qhT0_3 : w26.cell? ⟨w.heap.size, 3, none⟩ = some (.int .i64 v.dy) := cell_at hT0 rfl
                            have qhT0_4 : w26.cell? ⟨w.heap.size, 4, none⟩ = some (.int .i64 (N : Int)) := cell_at hT0 rfl
                            have qhT1_0 : w26.cell? ⟨w.heap.size + 1, 0, none⟩ = some (.int .i64 u.ring) := cell_at hT1 rfl
                            have qhT1_1 : w26.cell? ⟨w.heap.size + 1, 1, none⟩ = some (.int .i64 u.speed) := cell_at hT1 rfl
                            have qhT1_2 : w26.cell? ⟨w.heap.size + 1, 2, none⟩ = some (.int .i64 u.loss) := cell_at hT1 rfl
                            have qhT1_3 : w26.cell? ⟨w.heap.size + 1, 3, none⟩ = some (.int .i64 u.clear) := cell_at hT1 rfl
                            have qhT1_4 : w26.cell? ⟨w.heap.size + 1, 4, none⟩ = some (.int .i64 u.soft) := cell_at hT1 rfl
                            have qhT1_5 : w26.cell? ⟨w.heap.size + 1, 5, none⟩ = some (.slice A M cap) := cell_at hT1 rfl
                            have qt5_0 : w26.cell? ⟨bt5, 0, none⟩ = some (.int .i64 u.ring) := cell_at t5 rfl
                            have qt5_1 : w26.cell? ⟨bt5, 1, none⟩ = some (.int .i64 u.speed) := cell_at t5 rfl
                            have qt5_2 : w26.cell? ⟨bt5, 2, none⟩ = some (.int .i64 u.loss) := cell_at t5 rfl
                            have qt5_3 : w26.cell? ⟨bt5, 3, none⟩ = some (.int .i64 u.clear) := cell_at t5 rfl
                            have qt5_4 : w26.cell? ⟨bt5, 4, none⟩ = some (.int .i64 u.soft) := cell_at t5 rfl
                            have f6 : w26.cell? ⟨g6, k, none⟩ = some (.bool false) := cell_at h6 (by rw [HP1.out k hlt, hI])
                            have f8 : w26.cell? ⟨g8, k, none⟩ = some (.int .i64 LV) := cell_at h8 (by rw [HL1.out k hlt, hL])
                            go_wp2
                            have zg6 : g6 < w26.heap.size := (Array.getElem?_eq_some_iff.1 h6).1
                            have zg8 : g8 < w26.heap.size := (Array.getElem?_eq_some_iff.1 h8).1
                            refine wp_region_planG (Φ := Shot k x) (I := fun a => a.tmps[269]?.getD undef = .agg #[.int .i64 k, .int .i64 x]) [(0, 1), (1, 1), (2, 1), (3, 1), (5, 1), (6, 1), (7, 1), (10, 1), (4, 0), (8, 2), (9, 3), (11, 1)] 8 w26.heap.size _ rfl (by kernel_rfl) (by kernel_rfl) (Nat.le_refl _) (fun _ _ d _ _ h => by cases d <;> exact h) (fun _ _ d _ _ h => by cases d <;> exact h) (fun v w w' hv hb => hv.below hb) (fun a wq hq hI => ⟨rfl, shot_op _ 269 rfl k x _ a wq hI⟩) ?_
                            have hC : Below w26.heap.size w26 w26 := Below.refl _ _
                            have zhT0 : w.heap.size < w26.heap.size := (Array.getElem?_eq_some_iff.1 hT0).1
                            have zhT1 : w.heap.size + 1 < w26.heap.size := (Array.getElem?_eq_some_iff.1 hT1).1
                            have zt5 : bt5 < w26.heap.size := (Array.getElem?_eq_some_iff.1 t5).1
                            repeat (first | (refine wpPlanGA_skip _ rfl (by rfl) ?_; simp only [Act.put, List.setIfInBounds_toArray, List.set_cons_zero, List.set_cons_succ]) | (refine wpPlanGA_soft _ ?_ rfl (by rfl) ?_ ?_; rotate_left; (intro wq hq hcq; go_simp; first | exact rfl | exact ⟨rfl, rfl⟩); simp only [Act.put, List.setIfInBounds_toArray, List.set_cons_zero, List.set_cons_succ]))
                            refine wpPlanGA_hard _ rfl rfl (by rfl) (fun w27 hS K hK => ?_)
                            have hB27 := hB26.call hS rfl
                            replace hC := hC.call hS rfl
                            replace hT0 := blkb hT0 hS
                            replace hT1 := blkb hT1 hS
                            replace H := H.below hS
                            replace t5 := blkb t5 hS
                            replace h6 := blkb h6 hS
                            replace h8 := blkb h8 hS
                            replace hs := hs.below hS
                            replace hBr := hBr.call hS rfl
                            replace hBi := hBi.call hS rfl
                            replace t240 := blkb t240 hS
                            replace hBj := hBj.call hS rfl
                            clear hB26
                            clear hS
                            go_simp
                            refine (H17.out _ H).mono ?_
                            rintro e w28 ⟨_, rfl, ⟨AT, CT, rfl, ht⟩, hb⟩
                            have hB28 := hB27.call hb rfl
                            replace hC := hC.call hb rfl
                            replace hT0 := blkb hT0 hb
                            replace hT1 := blkb hT1 hb
                            replace H := H.below hb
                            replace t5 := blkb t5 hb
                            replace h6 := blkb h6 hb
                            replace h8 := blkb h8 hb
                            replace hs := hs.below hb
                            replace hBr := hBr.call hb rfl
                            replace hBi := hBi.call hb rfl
                            replace t240 := blkb t240 hb
                            replace hBj := hBj.call hb rfl
                            clear hB27
                            refine hK _ _ hC hb ?_
                            clear hK K hb
                            try simp only [Act.put, List.setIfInBounds_toArray, List.set_cons_zero, List.set_cons_succ]
                            refine wpPlanGA_float _ rfl rfl (fun v w29 hS hv => ?_)
                            obtain ⟨b269, rfl, t269⟩ := hv
                            have hB29 := hB28.call hS rfl
                            replace hC := hC.call hS rfl
                            replace hT0 := blkb hT0 hS
                            replace hT1 := blkb hT1 hS
                            replace H := H.below hS
                            replace t5 := blkb t5 hS
                            replace h6 := blkb h6 hS
                            replace h8 := blkb h8 hS
                            replace hs := hs.below hS
                            replace hBr := hBr.call hS rfl
                            replace hBi := hBi.call hS rfl
                            replace t240 := blkb t240 hS
                            replace hBj := hBj.call hS rfl
                            replace ht := ht.below hS
                            clear hB28
                            clear hS
                            try simp only [Act.put, List.setIfInBounds_toArray, List.set_cons_zero, List.set_cons_succ]
                            refine wpPlanGA_late _ rfl (by rfl) (fun w30 hS K hK => ?_)
                            have hB30 := hB29.call hS rfl
                            replace hC := hC.call hS rfl
                            replace hT0 := blkb hT0 hS
                            replace hT1 := blkb hT1 hS
                            replace H := H.below hS
                            replace t5 := blkb t5 hS
                            replace h6 := blkb h6 hS
                            replace h8 := blkb h8 hS
                            replace hs := hs.below hS
                            replace hBr := hBr.call hS rfl
                            replace hBi := hBi.call hS rfl
                            replace t240 := blkb t240 hS
                            replace hBj := hBj.call hS rfl
                            replace ht := ht.below hS
                            replace t269 := blkb t269 hS
                            clear hB29
                            clear hS
                            go_simp
                            refine (H34.out _ AT CT _ 1 [⟨k, x⟩] (by simp) ht (RdS.of_block t269 rfl)).mono ?_
                            rintro e w31 ⟨rfl, hb⟩
                            have hB31 := hB30.call hb rfl
                            replace hC := hC.call hb rfl
                            replace hT0 := blkb hT0 hb
                            replace hT1 := blkb hT1 hb
                            replace H := H.below hb
                            replace t5 := blkb t5 hb
                            replace h6 := blkb h6 hb
                            replace h8 := blkb h8 hb
                            replace hs := hs.below hb
                            replace hBr := hBr.call hb rfl
                            replace hBi := hBi.call hb rfl
                            replace t240 := blkb t240 hb
                            replace hBj := hBj.call hb rfl
                            replace ht := ht.below hb
                            replace t269 := blkb t269 hb
                            clear hB30
                            refine hK _ _ hC ?_
                            clear hK K hb
                            try simp only [Act.put, List.setIfInBounds_toArray, List.set_cons_zero, List.set_cons_succ]
                            repeat (first | (refine wpPlanGA_skip _ rfl (by rfl) ?_; simp only [Act.put, List.setIfInBounds_toArray, List.set_cons_zero, List.set_cons_succ]) | (refine wpPlanGA_soft _ ?_ rfl (by rfl) ?_ ?_; rotate_left; (intro wq hq hcq; go_simp; first | exact rfl | exact ⟨rfl, rfl⟩); simp only [Act.put, List.setIfInBounds_toArray, List.set_cons_zero, List.set_cons_succ]))
                            clear f6 f8
                            clear qhT0_0 qhT0_1 qhT0_2 qhT0_3 qhT0_4 qhT1_0 qhT1_1 qhT1_2 qhT1_3 qhT1_4 qhT1_5 qt5_0 qt5_1 qt5_2 qt5_3 qt5_4
                            refine wpPlanGA_nil (fun w32 hS => ?_)
                            clear hC zg6 zg8 zhT0 zhT1 zt5
                            have hB32 := hB31.call hS rfl
                            replace hT0 := blkb hT0 hS
                            replace hT1 := blkb hT1 hS
                            replace H := H.below hS
                            replace t5 := blkb t5 hS
                            replace h6 := blkb h6 hS
                            replace h8 := blkb h8 hS
                            replace hs := hs.below hS
                            replace hBr := hBr.call hS rfl
                            replace hBi := hBi.call hS rfl
                            replace t240 := blkb t240 hS
                            replace hBj := hBj.call hS rfl
                            replace ht := ht.below hS
                            replace t269 := blkb t269 hS
                            clear hS hB31
                            have qhT0_0 : w32.cell? ⟨w.heap.size, 0, none⟩ = some (.int .i64 v.sx) := cell_at hT0 rfl
                            have qhT0_1 : w32.cell? ⟨w.heap.size, 1, none⟩ = some (.int .i64 v.sy) := cell_at hT0 rfl
                            have qhT0_2 : w32.cell? ⟨w.heap.size, 2, none⟩ = some (.int .i64 v.dx) := cell_at hT0 rfl
                            have qhT0_3 : w32.cell? ⟨w.heap.size, 3, none⟩ = some (.int .i64 v.dy) := cell_at hT0 rfl
                            have qhT0_4 : w32.cell? ⟨w.heap.size, 4, none⟩ = some (.int .i64 (N : Int)) := cell_at hT0 rfl
                            have qhT1_0 : w32.cell? ⟨w.heap.size + 1, 0, none⟩ = some (.int .i64 u.ring) := cell_at hT1 rfl
                            have qhT1_1 : w32.cell? ⟨w.heap.size + 1, 1, none⟩ = some (.int .i64 u.speed) := cell_at hT1 rfl
                            have qhT1_2 : w32.cell? ⟨w.heap.size + 1, 2, none⟩ = some (.int .i64 u.loss) := cell_at hT1 rfl
                            have qhT1_3 : w32.cell? ⟨w.heap.size + 1, 3, none⟩ = some (.int .i64 u.clear) := cell_at hT1 rfl
                            have qhT1_4 : w32.cell? ⟨w.heap.size + 1, 4, none⟩ = some (.int .i64 u.soft) := cell_at hT1 rfl
                            have qhT1_5 : w32.cell? ⟨w.heap.size + 1, 5, none⟩ = some (.slice A M cap) := cell_at hT1 rfl
                            have qt5_0 : w32.cell? ⟨bt5, 0, none⟩ = some (.int .i64 u.ring) := cell_at t5 rfl
                            have qt5_1 : w32.cell? ⟨bt5, 1, none⟩ = some (.int .i64 u.speed) := cell_at t5 rfl
                            have qt5_2 : w32.cell? ⟨bt5, 2, none⟩ = some (.int .i64 u.loss) := cell_at t5 rfl
                            have qt5_3 : w32.cell? ⟨bt5, 3, none⟩ = some (.int .i64 u.clear) := cell_at t5 rfl
                            have qt5_4 : w32.cell? ⟨bt5, 4, none⟩ = some (.int .i64 u.soft) := cell_at t5 rfl
                            clear ht
                            clear t269
                            go_wp2
                            go_roundw
                            case rel => exact ⟨j + 1, by omega, by go_num, hBj⟩
                            case measure => simp [intOf]; omega
                        · as_aux_lemma =>
                            have hfv : Mo.fires v u l [⟨k, x⟩] = 0 := by rw [HFO.out k x hlt (by omega) (by omega), hI, hL]; rw [if_neg (by decide), if_neg (by omega)]
                            have qhT0_0 : w26.cell? ⟨w.heap.size, 0, none⟩ = some (.int .i64 v.sx) := cell_at hT0 rfl
                            have qhT0_1 : w26.cell? ⟨w.heap.size, 1, none⟩ = some (.int .i64 v.sy) := cell_at hT0 rfl
                            have qhT0_2 : w26.cell? ⟨w.heap.size, 2, none⟩ = some (.int .i64 v.dx) := cell_at hT0 rfl
                            have qhT0_3 : w26.cell? ⟨w.heap.size, 3, none⟩ = some (.int .i64 v.dy) := cell_at hT0 rfl
                            have qhT0_4 : w26.cell? ⟨w.heap.size, 4, none⟩ = some (.int .i64 (N : Int)) := cell_at hT0 rfl
                            have qhT1_0 : w26.cell? ⟨w.heap.size + 1, 0, none⟩ = some (.int .i64 u.ring) := cell_at hT1 rfl
                            have qhT1_1 : w26.cell? ⟨w.heap.size + 1, 1, none⟩ = some (.int .i64 u.speed) := cell_at hT1 rfl
                            have qhT1_2 : w26.cell? ⟨w.heap.size + 1, 2, none⟩ = some (.int .i64 u.loss) := cell_at hT1 rfl
                            have qhT1_3 : w26.cell? ⟨w.heap.size + 1, 3, none⟩ = some (.int .i64 u.clear) := cell_at hT1 rfl
                            have qhT1_4 : w26.cell? ⟨w.heap.size + 1, 4, none⟩ = some (.int .i64 u.soft) := cell_at hT1 rfl
                            have qhT1_5 : w26.cell? ⟨w.heap.size + 1, 5, none⟩ = some (.slice A M cap) := cell_at hT1 rfl
                            have qt5_0 : w26.cell? ⟨bt5, 0, none⟩ = some (.int .i64 u.ring) := cell_at t5 rfl
                            have qt5_1 : w26.cell? ⟨bt5, 1, none⟩ = some (.int .i64 u.speed) := cell_at t5 rfl
                            have qt5_2 : w26.cell? ⟨bt5, 2, none⟩ = some (.int .i64 u.loss) := cell_at t5 rfl
                            have qt5_3 : w26.cell? ⟨bt5, 3, none⟩ = some (.int .i64 u.clear) := cell_at t5 rfl
                            have qt5_4 : w26.cell? ⟨bt5, 4, none⟩ = some (.int .i64 u.soft) := cell_at t5 rfl
                            have f6 : w26.cell? ⟨g6, k, none⟩ = some (.bool false) := cell_at h6 (by rw [HP1.out k hlt, hI])
                            have f8 : w26.cell? ⟨g8, k, none⟩ = some (.int .i64 LV) := cell_at h8 (by rw [HL1.out k hlt, hL])
                            go_wp2
                            have zg6 : g6 < w26.heap.size := (Array.getElem?_eq_some_iff.1 h6).1
                            have zg8 : g8 < w26.heap.size := (Array.getElem?_eq_some_iff.1 h8).1
                            refine wp_region_planG (Φ := Shot k x) (I := fun a => a.tmps[269]?.getD undef = .agg #[.int .i64 k, .int .i64 x]) [(0, 1), (1, 1), (2, 1), (3, 1), (5, 1), (6, 1), (7, 1), (10, 1), (4, 0), (8, 2), (9, 3), (11, 1)] 8 w26.heap.size _ rfl (by kernel_rfl) (by kernel_rfl) (Nat.le_refl _) (fun _ _ d _ _ h => by cases d <;> exact h) (fun _ _ d _ _ h => by cases d <;> exact h) (fun v w w' hv hb => hv.below hb) (fun a wq hq hI => ⟨rfl, shot_op _ 269 rfl k x _ a wq hI⟩) ?_
                            have hC : Below w26.heap.size w26 w26 := Below.refl _ _
                            have zhT0 : w.heap.size < w26.heap.size := (Array.getElem?_eq_some_iff.1 hT0).1
                            have zhT1 : w.heap.size + 1 < w26.heap.size := (Array.getElem?_eq_some_iff.1 hT1).1
                            have zt5 : bt5 < w26.heap.size := (Array.getElem?_eq_some_iff.1 t5).1
                            repeat (first | (refine wpPlanGA_skip _ rfl (by rfl) ?_; simp only [Act.put, List.setIfInBounds_toArray, List.set_cons_zero, List.set_cons_succ]) | (refine wpPlanGA_soft _ ?_ rfl (by rfl) ?_ ?_; rotate_left; (intro wq hq hcq; go_simp; first | exact rfl | exact ⟨rfl, rfl⟩); simp only [Act.put, List.setIfInBounds_toArray, List.set_cons_zero, List.set_cons_succ]))
                            refine wpPlanGA_hard _ rfl rfl (by rfl) (fun w27 hS K hK => ?_)
                            have hB27 := hB26.call hS rfl
                            replace hC := hC.call hS rfl
                            replace hT0 := blkb hT0 hS
                            replace hT1 := blkb hT1 hS
                            replace H := H.below hS
                            replace t5 := blkb t5 hS
                            replace h6 := blkb h6 hS
                            replace h8 := blkb h8 hS
                            replace hs := hs.below hS
                            replace hBr := hBr.call hS rfl
                            replace hBi := hBi.call hS rfl
                            replace t240 := blkb t240 hS
                            replace hBj := hBj.call hS rfl
                            clear hB26
                            clear hS
                            go_simp
                            refine (H17.out _ H).mono ?_
                            rintro e w28 ⟨_, rfl, ⟨AT, CT, rfl, ht⟩, hb⟩
                            have hB28 := hB27.call hb rfl
                            replace hC := hC.call hb rfl
                            replace hT0 := blkb hT0 hb
                            replace hT1 := blkb hT1 hb
                            replace H := H.below hb
                            replace t5 := blkb t5 hb
                            replace h6 := blkb h6 hb
                            replace h8 := blkb h8 hb
                            replace hs := hs.below hb
                            replace hBr := hBr.call hb rfl
                            replace hBi := hBi.call hb rfl
                            replace t240 := blkb t240 hb
                            replace hBj := hBj.call hb rfl
                            clear hB27
                            refine hK _ _ hC hb ?_
                            clear hK K hb
                            try simp only [Act.put, List.setIfInBounds_toArray, List.set_cons_zero, List.set_cons_succ]
                            refine wpPlanGA_float _ rfl rfl (fun v w29 hS hv => ?_)
                            obtain ⟨b269, rfl, t269⟩ := hv
                            have hB29 := hB28.call hS rfl
                            replace hC := hC.call hS rfl
                            replace hT0 := blkb hT0 hS
                            replace hT1 := blkb hT1 hS
                            replace H := H.below hS
                            replace t5 := blkb t5 hS
                            replace h6 := blkb h6 hS
                            replace h8 := blkb h8 hS
                            replace hs := hs.below hS
                            replace hBr := hBr.call hS rfl
                            replace hBi := hBi.call hS rfl
                            replace t240 := blkb t240 hS
                            replace hBj := hBj.call hS rfl
                            replace ht := ht.below hS
                            clear hB28
                            clear hS
                            try simp only [Act.put, List.setIfInBounds_toArray, List.set_cons_zero, List.set_cons_succ]
                            refine wpPlanGA_late _ rfl (by rfl) (fun w30 hS K hK => ?_)
                            have hB30 := hB29.call hS rfl
                            replace hC := hC.call hS rfl
                            replace hT0 := blkb hT0 hS
                            replace hT1 := blkb hT1 hS
                            replace H := H.below hS
                            replace t5 := blkb t5 hS
                            replace h6 := blkb h6 hS
                            replace h8 := blkb h8 hS
                            replace hs := hs.below hS
                            replace hBr := hBr.call hS rfl
                            replace hBi := hBi.call hS rfl
                            replace t240 := blkb t240 hS
                            replace hBj := hBj.call hS rfl
                            replace ht := ht.below hS
                            replace t269 := blkb t269 hS
                            clear hB29
                            clear hS
                            go_simp
                            refine (H34.out _ AT CT _ 1 [⟨k, x⟩] (by simp) ht (RdS.of_block t269 rfl)).mono ?_
                            rintro e w31 ⟨rfl, hb⟩
                            have hB31 := hB30.call hb rfl
                            replace hC := hC.call hb rfl
                            replace hT0 := blkb hT0 hb
                            replace hT1 := blkb hT1 hb
                            replace H := H.below hb
                            replace t5 := blkb t5 hb
                            replace h6 := blkb h6 hb
                            replace h8 := blkb h8 hb
                            replace hs := hs.below hb
                            replace hBr := hBr.call hb rfl
                            replace hBi := hBi.call hb rfl
                            replace t240 := blkb t240 hb
                            replace hBj := hBj.call hb rfl
                            replace ht := ht.below hb
                            replace t269 := blkb t269 hb
                            clear hB30
                            refine hK _ _ hC ?_
                            clear hK K hb
                            try simp only [Act.put, List.setIfInBounds_toArray, List.set_cons_zero, List.set_cons_succ]
                            repeat (first | (refine wpPlanGA_skip _ rfl (by rfl) ?_; simp only [Act.put, List.setIfInBounds_toArray, List.set_cons_zero, List.set_cons_succ]) | (refine wpPlanGA_soft _ ?_ rfl (by rfl) ?_ ?_; rotate_left; (intro wq hq hcq; go_simp; first | exact rfl | exact ⟨rfl, rfl⟩); simp only [Act.put, List.setIfInBounds_toArray, List.set_cons_zero, List.set_cons_succ]))
                            clear f6 f8
                            clear qhT0_0 qhT0_1 qhT0_2 qhT0_3 qhT0_4 qhT1_0 qhT1_1 qhT1_2 qhT1_3 qhT1_4 qhT1_5 qt5_0 qt5_1 qt5_2 qt5_3 qt5_4
                            refine wpPlanGA_nil (fun w32 hS => ?_)
                            clear hC zg6 zg8 zhT0 zhT1 zt5
                            have hB32 := hB31.call hS rfl
                            replace hT0 := blkb hT0 hS
                            replace hT1 := blkb hT1 hS
                            replace H := H.below hS
                            replace t5 := blkb t5 hS
                            replace h6 := blkb h6 hS
                            replace h8 := blkb h8 hS
                            replace hs := hs.below hS
                            replace hBr := hBr.call hS rfl
                            replace hBi := hBi.call hS rfl
                            replace t240 := blkb t240 hS
                            replace hBj := hBj.call hS rfl
                            replace ht := ht.below hS
                            replace t269 := blkb t269 hS
                            clear hS hB31
                            have qhT0_0 : w32.cell? ⟨w.heap.size, 0, none⟩ = some (.int .i64 v.sx) := cell_at hT0 rfl
                            have qhT0_1 : w32.cell? ⟨w.heap.size, 1, none⟩ = some (.int .i64 v.sy) := cell_at hT0 rfl
                            have qhT0_2 : w32.cell? ⟨w.heap.size, 2, none⟩ = some (.int .i64 v.dx) := cell_at hT0 rfl
                            have qhT0_3 : w32.cell? ⟨w.heap.size, 3, none⟩ = some (.int .i64 v.dy) := cell_at hT0 rfl
                            have qhT0_4 : w32.cell? ⟨w.heap.size, 4, none⟩ = some (.int .i64 (N : Int)) := cell_at hT0 rfl
                            have qhT1_0 : w32.cell? ⟨w.heap.size + 1, 0, none⟩ = some (.int .i64 u.ring) := cell_at hT1 rfl
                            have qhT1_1 : w32.cell? ⟨w.heap.size + 1, 1, none⟩ = some (.int .i64 u.speed) := cell_at hT1 rfl
                            have qhT1_2 : w32.cell? ⟨w.heap.size + 1, 2, none⟩ = some (.int .i64 u.loss) := cell_at hT1 rfl
                            have qhT1_3 : w32.cell? ⟨w.heap.size + 1, 3, none⟩ = some (.int .i64 u.clear) := cell_at hT1 rfl
                            have qhT1_4 : w32.cell? ⟨w.heap.size + 1, 4, none⟩ = some (.int .i64 u.soft) := cell_at hT1 rfl
                            have qhT1_5 : w32.cell? ⟨w.heap.size + 1, 5, none⟩ = some (.slice A M cap) := cell_at hT1 rfl
                            have qt5_0 : w32.cell? ⟨bt5, 0, none⟩ = some (.int .i64 u.ring) := cell_at t5 rfl
                            have qt5_1 : w32.cell? ⟨bt5, 1, none⟩ = some (.int .i64 u.speed) := cell_at t5 rfl
                            have qt5_2 : w32.cell? ⟨bt5, 2, none⟩ = some (.int .i64 u.loss) := cell_at t5 rfl
                            have qt5_3 : w32.cell? ⟨bt5, 3, none⟩ = some (.int .i64 u.clear) := cell_at t5 rfl
                            have qt5_4 : w32.cell? ⟨bt5, 4, none⟩ = some (.int .i64 u.soft) := cell_at t5 rfl
                            clear ht
                            clear t269
                            go_wp2
                            go_roundw
                            case rel => exact ⟨j + 1, by omega, by go_num, hBj⟩
                            case measure => simp [intOf]; omega
                    · as_aux_lemma =>
                        obtain rfl : j = 3 := by omega
                        go_wp2
                        go_roundw
                        case rel => exact ⟨k + 1, by omega, by go_num, by rw [ELA.out], hBr⟩
                        case measure => simp [intOf]; omega
        · as_aux_lemma =>
            obtain ⟨e1, e2, e3, e4, e5⟩ := HF.out k
            have ela := Mo.lastI_succ p k
            have elb := (Mo.lastI_bd p k).2
            have elb1 := (Mo.lastI_bd p k).1
            have hmx : ((k : Int) - 1).toNat = k - 1 := by omega
            have h0 : lev k = 0 := e4 (by rw [ela, hI, if_pos rfl]; omega)
            rw [hI, if_pos rfl] at ela
            clear e4 e5
            obtain ⟨LV, hL⟩ : ∃ x, lev k = x := ⟨_, rfl⟩
            rw [hL] at e1 e2 e3 h0
            have H0 := Lib.hid h0
            clear h0
            have ELA := Lib.hid ela
            clear ela
            have qhT0_0 : w19.cell? ⟨w.heap.size, 0, none⟩ = some (.int .i64 v.sx) := cell_at hT0 rfl
            have qhT0_1 : w19.cell? ⟨w.heap.size, 1, none⟩ = some (.int .i64 v.sy) := cell_at hT0 rfl
            have qhT0_2 : w19.cell? ⟨w.heap.size, 2, none⟩ = some (.int .i64 v.dx) := cell_at hT0 rfl
            have qhT0_3 : w19.cell? ⟨w.heap.size, 3, none⟩ = some (.int .i64 v.dy) := cell_at hT0 rfl
            have qhT0_4 : w19.cell? ⟨w.heap.size, 4, none⟩ = some (.int .i64 (N : Int)) := cell_at hT0 rfl
            have qhT1_0 : w19.cell? ⟨w.heap.size + 1, 0, none⟩ = some (.int .i64 u.ring) := cell_at hT1 rfl
            have qhT1_1 : w19.cell? ⟨w.heap.size + 1, 1, none⟩ = some (.int .i64 u.speed) := cell_at hT1 rfl
            have qhT1_2 : w19.cell? ⟨w.heap.size + 1, 2, none⟩ = some (.int .i64 u.loss) := cell_at hT1 rfl
            have qhT1_3 : w19.cell? ⟨w.heap.size + 1, 3, none⟩ = some (.int .i64 u.clear) := cell_at hT1 rfl
            have qhT1_4 : w19.cell? ⟨w.heap.size + 1, 4, none⟩ = some (.int .i64 u.soft) := cell_at hT1 rfl
            have qhT1_5 : w19.cell? ⟨w.heap.size + 1, 5, none⟩ = some (.slice A M cap) := cell_at hT1 rfl
            have qt5_0 : w19.cell? ⟨bt5, 0, none⟩ = some (.int .i64 u.ring) := cell_at t5 rfl
            have qt5_1 : w19.cell? ⟨bt5, 1, none⟩ = some (.int .i64 u.speed) := cell_at t5 rfl
            have qt5_2 : w19.cell? ⟨bt5, 2, none⟩ = some (.int .i64 u.loss) := cell_at t5 rfl
            have qt5_3 : w19.cell? ⟨bt5, 3, none⟩ = some (.int .i64 u.clear) := cell_at t5 rfl
            have qt5_4 : w19.cell? ⟨bt5, 4, none⟩ = some (.int .i64 u.soft) := cell_at t5 rfl
            have f6 : w19.cell? ⟨g6, k, none⟩ = some (.bool true) := cell_at h6 (by rw [HP1.out k hlt, hI])
            have f8 : w19.cell? ⟨g8, k, none⟩ = some (.int .i64 LV) := cell_at h8 (by rw [HL1.out k hlt, hL])
            go_wp2
            refine wp_merge 101 (fun xs => ∃ xa101 xa102 xa103 xa104 xa105 xa106 xa107 xa108 xa109 xa110 xa111 xa112 xa113 xa114 xa115 xa116 xa117 xa118 xa119 xa120 xa121 xa122 xa123 xa124 xa125 xa126 xa127 xa128 xa129 xa130 xa131 xa132 xa133 xa134 xa135 xa136 xa137 xa138 xa139 xa140 xa141 xa142 xa143 xa144 : Value, xs = [xa101, xa102, xa103, xa104, xa105, xa106, xa107, xa108, xa109, xa110, xa111, xa112, xa113, xa114, xa115, xa116, xa117, xa118, xa119, xa120, xa121, xa122, xa123, xa124, xa125, xa126, xa127, xa128, xa129, xa130, xa131, xa132, xa133, xa134, xa135, xa136, xa137, xa138, xa139, xa140, xa141, xa142, xa143, xa144, .bool false]) ?_ ?_
            · as_aux_lemma =>
                have h0 := H0.out
                subst h0
                clear f6 f8
                have ws : IntKind.i64.wrap (u.soft + 1) = u.soft + 1 := wrapI _ (by omega) (by omega)
                have wz : IntKind.i64.wrap 0 = 0 := by decide
                have wo : IntKind.i64.wrap 1 = 1 := by decide
                have n1 : decide (u.soft + 1 < 0) = false := decide_eq_false (by omega)
                have n2 : decide (u.clear < 0) = false := decide_eq_false (by omega)
                have n2b : decide ((0 : Int) ≤ u.clear) = true := decide_eq_true (by omega)
                have f6 : w19.cell? ⟨g6, k, none⟩ = some (.bool true) := cell_at h6 (by rw [HP1.out k hlt, hI])
                have f8 : w19.cell? ⟨g8, k, none⟩ = some (.int .i64 0) := cell_at h8 (by rw [HL1.out k hlt, hL])
                have zg6 : g6 < w19.heap.size := (Array.getElem?_eq_some_iff.1 h6).1
                have zg8 : g8 < w19.heap.size := (Array.getElem?_eq_some_iff.1 h8).1
                have zhT0 : w.heap.size < w19.heap.size := (Array.getElem?_eq_some_iff.1 hT0).1
                have zhT1 : w.heap.size + 1 < w19.heap.size := (Array.getElem?_eq_some_iff.1 hT1).1
                have zt5 : bt5 < w19.heap.size := (Array.getElem?_eq_some_iff.1 t5).1
                refine wp_region_growG (by kernel_rfl) (by kernel_rfl) ?_
                repeat (go_big_quiet_step ((first | fail)))
                refine wpQuiet_nil (gw_out ?_)
                intro wq hS
                exact ⟨rfl, ⟨_, ⟨_, _, _, _, _, _, _, _, _, _, _, _, _, _, _, _, _, _, _, _, _, _, _, _, _, _, _, _, _, _, _, _, _, _, _, _, _, _, _, _, _, _, _, _, rfl⟩, rfl⟩, hS⟩
            clear qhT0_0 qhT0_1 qhT0_2 qhT0_3 qhT0_4 qhT1_0 qhT1_1 qhT1_2 qhT1_3 qhT1_4 qhT1_5 qt5_0 qt5_1 qt5_2 qt5_3 qt5_4
            rintro _ w20 ⟨xa101, xa102, xa103, xa104, xa105, xa106, xa107, xa108, xa109, xa110, xa111, xa112, xa113, xa114, xa115, xa116, xa117, xa118, xa119, xa120, xa121, xa122, xa123, xa124, xa125, xa126, xa127, xa128, xa129, xa130, xa131, xa132, xa133, xa134, xa135, xa136, xa137, xa138, xa139, xa140, xa141, xa142, xa143, xa144, rfl⟩ hS
            simp only [putRange, List.toList_toArray, List.take_succ_cons, List.take_zero, List.drop_succ_cons, List.drop_zero, List.cons_append, List.nil_append, List.length_cons, List.length_nil, Nat.reduceAdd]
            have hB20 := hB19.call hS rfl
            replace hT0 := blkb hT0 hS
            replace hT1 := blkb hT1 hS
            replace H := H.below hS
            replace t5 := blkb t5 hS
            replace h6 := blkb h6 hS
            replace h8 := blkb h8 hS
            replace hs := hs.below hS
            replace hBr := hBr.call hS rfl
            clear hS hB19
            have qhT0_0 : w20.cell? ⟨w.heap.size, 0, none⟩ = some (.int .i64 v.sx) := cell_at hT0 rfl
            have qhT0_1 : w20.cell? ⟨w.heap.size, 1, none⟩ = some (.int .i64 v.sy) := cell_at hT0 rfl
            have qhT0_2 : w20.cell? ⟨w.heap.size, 2, none⟩ = some (.int .i64 v.dx) := cell_at hT0 rfl
            have qhT0_3 : w20.cell? ⟨w.heap.size, 3, none⟩ = some (.int .i64 v.dy) := cell_at hT0 rfl
            have qhT0_4 : w20.cell? ⟨w.heap.size, 4, none⟩ = some (.int .i64 (N : Int)) := cell_at hT0 rfl
            have qhT1_0 : w20.cell? ⟨w.heap.size + 1, 0, none⟩ = some (.int .i64 u.ring) := cell_at hT1 rfl
            have qhT1_1 : w20.cell? ⟨w.heap.size + 1, 1, none⟩ = some (.int .i64 u.speed) := cell_at hT1 rfl
            have qhT1_2 : w20.cell? ⟨w.heap.size + 1, 2, none⟩ = some (.int .i64 u.loss) := cell_at hT1 rfl
            have qhT1_3 : w20.cell? ⟨w.heap.size + 1, 3, none⟩ = some (.int .i64 u.clear) := cell_at hT1 rfl
            have qhT1_4 : w20.cell? ⟨w.heap.size + 1, 4, none⟩ = some (.int .i64 u.soft) := cell_at hT1 rfl
            have qhT1_5 : w20.cell? ⟨w.heap.size + 1, 5, none⟩ = some (.slice A M cap) := cell_at hT1 rfl
            have qt5_0 : w20.cell? ⟨bt5, 0, none⟩ = some (.int .i64 u.ring) := cell_at t5 rfl
            have qt5_1 : w20.cell? ⟨bt5, 1, none⟩ = some (.int .i64 u.speed) := cell_at t5 rfl
            have qt5_2 : w20.cell? ⟨bt5, 2, none⟩ = some (.int .i64 u.loss) := cell_at t5 rfl
            have qt5_3 : w20.cell? ⟨bt5, 3, none⟩ = some (.int .i64 u.clear) := cell_at t5 rfl
            have qt5_4 : w20.cell? ⟨bt5, 4, none⟩ = some (.int .i64 u.soft) := cell_at t5 rfl
            clear f6 f8
            have f6 : w20.cell? ⟨g6, k, none⟩ = some (.bool true) := cell_at h6 (by rw [HP1.out k hlt, hI])
            have f8 : w20.cell? ⟨g8, k, none⟩ = some (.int .i64 LV) := cell_at h8 (by rw [HL1.out k hlt, hL])
            go_wp2
            refine wp_merge 146 (fun xs => ∃ xb146 xb147 xb148 xb149 xb150 xb151 xb152 xb153 xb154 xb155 xb156 xb157 xb158 xb159 xb160 xb161 xb162 xb163 xb164 xb165 xb166 xb167 xb168 xb169 xb170 xb171 xb172 xb173 xb174 xb175 xb176 xb177 xb178 xb179 xb180 xb181 xb182 xb183 xb184 xb185 xb186 xb187 xb188 xb189 xb190 xb191 xb192 xb193 xb194 xb195 xb196 xb197 xb198 : Value, xs = [xb146, xb147, xb148, xb149, xb150, xb151, xb152, xb153, xb154, xb155, xb156, xb157, xb158, xb159, xb160, xb161, xb162, xb163, xb164, xb165, xb166, xb167, xb168, xb169, xb170, xb171, xb172, xb173, xb174, xb175, xb176, xb177, xb178, xb179, xb180, xb181, xb182, xb183, xb184, xb185, xb186, xb187, xb188, xb189, xb190, xb191, xb192, xb193, xb194, xb195, xb196, xb197, xb198, .bool false]) ?_ ?_
            · as_aux_lemma =>
                have h0 := H0.out
                subst h0
                clear f6 f8
                by_cases hk0 : k = 0
                · as_aux_lemma =>
                    have hkz : decide ((0 : Int) < (k : Int)) = false := decide_eq_false (by omega)
                    have hkn : decide (0 < k) = false := decide_eq_false (by omega)
                    clear hk0
                    have ws : IntKind.i64.wrap (u.soft + 1) = u.soft + 1 := wrapI _ (by omega) (by omega)
                    have wz : IntKind.i64.wrap 0 = 0 := by decide
                    have wo : IntKind.i64.wrap 1 = 1 := by decide
                    have n1 : decide (u.soft + 1 < 0) = false := decide_eq_false (by omega)
                    have n2 : decide (u.clear < 0) = false := decide_eq_false (by omega)
                    have n2b : decide ((0 : Int) ≤ u.clear) = true := decide_eq_true (by omega)
                    have f6 : w20.cell? ⟨g6, k, none⟩ = some (.bool true) := cell_at h6 (by rw [HP1.out k hlt, hI])
                    have f8 : w20.cell? ⟨g8, k, none⟩ = some (.int .i64 0) := cell_at h8 (by rw [HL1.out k hlt, hL])
                    have zg6 : g6 < w20.heap.size := (Array.getElem?_eq_some_iff.1 h6).1
                    have zg8 : g8 < w20.heap.size := (Array.getElem?_eq_some_iff.1 h8).1
                    have zhT0 : w.heap.size < w20.heap.size := (Array.getElem?_eq_some_iff.1 hT0).1
                    have zhT1 : w.heap.size + 1 < w20.heap.size := (Array.getElem?_eq_some_iff.1 hT1).1
                    have zt5 : bt5 < w20.heap.size := (Array.getElem?_eq_some_iff.1 t5).1
                    refine wp_region_growG (by kernel_rfl) (by kernel_rfl) ?_
                    repeat (go_big_quiet_step ((first | fail)))
                    refine wpQuiet_nil (gw_out ?_)
                    intro wq hS
                    exact ⟨rfl, ⟨_, ⟨_, _, _, _, _, _, _, _, _, _, _, _, _, _, _, _, _, _, _, _, _, _, _, _, _, _, _, _, _, _, _, _, _, _, _, _, _, _, _, _, _, _, _, _, _, _, _, _, _, _, _, _, _, rfl⟩, rfl⟩, hS⟩
                · as_aux_lemma =>
                    obtain ⟨LP, hLP⟩ : ∃ x, lev (k - 1) = x := ⟨_, rfl⟩
                    have hst := HST.out (k - 1)
                    rw [Nat.sub_add_cancel (by omega), hL, hLP] at hst
                    obtain ⟨hst1, hst2⟩ := hst
                    have hk1 : (1 : Int) ≤ (k : Int) := by omega
                    have hk2 : (k : Int) - 1 < (N : Int) := by omega
                    have hkz : decide ((0 : Int) < (k : Int)) = true := decide_eq_true (by omega)
                    have hkn : decide (0 < k) = true := decide_eq_true (by omega)
                    clear hk0
                    have hlp := (HF.out (k - 1)).1
                    have hlp3 := (HF.out (k - 1)).2.2.1
                    rw [hLP] at hlp hlp3
                    have ws : IntKind.i64.wrap (u.soft + 1) = u.soft + 1 := wrapI _ (by omega) (by omega)
                    have wz : IntKind.i64.wrap 0 = 0 := by decide
                    have wo : IntKind.i64.wrap 1 = 1 := by decide
                    have wp : IntKind.i64.wrap (LP + 1) = LP + 1 := wrapI _ (by omega) (by omega)
                    have wm : IntKind.i64.wrap ((k : Int) - 1) = (k : Int) - 1 := wrapI _ (by omega) (by omega)
                    have n1 : decide (u.soft + 1 < 0) = false := decide_eq_false (by omega)
                    have n2 : decide (u.clear < 0) = false := decide_eq_false (by omega)
                    have n2b : decide ((0 : Int) ≤ u.clear) = true := decide_eq_true (by omega)
                    have m6 : decide (LP + 1 < 0) = false := decide_eq_false (by omega)
                    clear hst1 hst2
                    by_cases hz0 : 0 < LP
                    · as_aux_lemma =>
                        have hz : decide (0 < LP) = true := decide_eq_true (by omega)
                        clear hz0
                        have f6 : w20.cell? ⟨g6, k, none⟩ = some (.bool true) := cell_at h6 (by rw [HP1.out k hlt, hI])
                        have f8 : w20.cell? ⟨g8, k, none⟩ = some (.int .i64 0) := cell_at h8 (by rw [HL1.out k hlt, hL])
                        have f9 : w20.cell? ⟨g8, k - 1, none⟩ = some (.int .i64 LP) := cell_at h8 (by rw [HL1.out (k - 1) (by omega), hLP])
                        have zg6 : g6 < w20.heap.size := (Array.getElem?_eq_some_iff.1 h6).1
                        have zg8 : g8 < w20.heap.size := (Array.getElem?_eq_some_iff.1 h8).1
                        have zhT0 : w.heap.size < w20.heap.size := (Array.getElem?_eq_some_iff.1 hT0).1
                        have zhT1 : w.heap.size + 1 < w20.heap.size := (Array.getElem?_eq_some_iff.1 hT1).1
                        have zt5 : bt5 < w20.heap.size := (Array.getElem?_eq_some_iff.1 t5).1
                        refine wp_region_growG (by kernel_rfl) (by kernel_rfl) ?_
                        repeat (go_big_quiet_step ((first | fail)))
                        refine wpQuiet_nil (gw_out ?_)
                        intro wq hS
                        exact ⟨rfl, ⟨_, ⟨_, _, _, _, _, _, _, _, _, _, _, _, _, _, _, _, _, _, _, _, _, _, _, _, _, _, _, _, _, _, _, _, _, _, _, _, _, _, _, _, _, _, _, _, _, _, _, _, _, _, _, _, _, rfl⟩, rfl⟩, hS⟩
                    · as_aux_lemma =>
                        have hz : decide (0 < LP) = false := decide_eq_false (by omega)
                        clear hz0
                        have f6 : w20.cell? ⟨g6, k, none⟩ = some (.bool true) := cell_at h6 (by rw [HP1.out k hlt, hI])
                        have f8 : w20.cell? ⟨g8, k, none⟩ = some (.int .i64 0) := cell_at h8 (by rw [HL1.out k hlt, hL])
                        have f9 : w20.cell? ⟨g8, k - 1, none⟩ = some (.int .i64 LP) := cell_at h8 (by rw [HL1.out (k - 1) (by omega), hLP])
                        have zg6 : g6 < w20.heap.size := (Array.getElem?_eq_some_iff.1 h6).1
                        have zg8 : g8 < w20.heap.size := (Array.getElem?_eq_some_iff.1 h8).1
                        have zhT0 : w.heap.size < w20.heap.size := (Array.getElem?_eq_some_iff.1 hT0).1
                        have zhT1 : w.heap.size + 1 < w20.heap.size := (Array.getElem?_eq_some_iff.1 hT1).1
                        have zt5 : bt5 < w20.heap.size := (Array.getElem?_eq_some_iff.1 t5).1
                        refine wp_region_growG (by kernel_rfl) (by kernel_rfl) ?_
                        repeat (go_big_quiet_step ((first | fail)))
                        refine wpQuiet_nil (gw_out ?_)
                        intro wq hS
                        exact ⟨rfl, ⟨_, ⟨_, _, _, _, _, _, _, _, _, _, _, _, _, _, _, _, _, _, _, _, _, _, _, _, _, _, _, _, _, _, _, _, _, _, _, _, _, _, _, _, _, _, _, _, _, _, _, _, _, _, _, _, _, rfl⟩, rfl⟩, hS⟩
            clear qhT0_0 qhT0_1 qhT0_2 qhT0_3 qhT0_4 qhT1_0 qhT1_1 qhT1_2 qhT1_3 qhT1_4 qhT1_5 qt5_0 qt5_1 qt5_2 qt5_3 qt5_4
            rintro _ w21 ⟨xb146, xb147, xb148, xb149, xb150, xb151, xb152, xb153, xb154, xb155, xb156, xb157, xb158, xb159, xb160, xb161, xb162, xb163, xb164, xb165, xb166, xb167, xb168, xb169, xb170, xb171, xb172, xb173, xb174, xb175, xb176, xb177, xb178, xb179, xb180, xb181, xb182, xb183, xb184, xb185, xb186, xb187, xb188, xb189, xb190, xb191, xb192, xb193, xb194, xb195, xb196, xb197, xb198, rfl⟩ hS
            simp only [putRange, List.toList_toArray, List.take_succ_cons, List.take_zero, List.drop_succ_cons, List.drop_zero, List.cons_append, List.nil_append, List.length_cons, List.length_nil, Nat.reduceAdd]
            have hB21 := hB20.call hS rfl
            replace hT0 := blkb hT0 hS
            replace hT1 := blkb hT1 hS
            replace H := H.below hS
            replace t5 := blkb t5 hS
            replace h6 := blkb h6 hS
            replace h8 := blkb h8 hS
            replace hs := hs.below hS
            replace hBr := hBr.call hS rfl
            clear hS hB20
            have qhT0_0 : w21.cell? ⟨w.heap.size, 0, none⟩ = some (.int .i64 v.sx) := cell_at hT0 rfl
            have qhT0_1 : w21.cell? ⟨w.heap.size, 1, none⟩ = some (.int .i64 v.sy) := cell_at hT0 rfl
            have qhT0_2 : w21.cell? ⟨w.heap.size, 2, none⟩ = some (.int .i64 v.dx) := cell_at hT0 rfl
            have qhT0_3 : w21.cell? ⟨w.heap.size, 3, none⟩ = some (.int .i64 v.dy) := cell_at hT0 rfl
            have qhT0_4 : w21.cell? ⟨w.heap.size, 4, none⟩ = some (.int .i64 (N : Int)) := cell_at hT0 rfl
            have qhT1_0 : w21.cell? ⟨w.heap.size + 1, 0, none⟩ = some (.int .i64 u.ring) := cell_at hT1 rfl
            have qhT1_1 : w21.cell? ⟨w.heap.size + 1, 1, none⟩ = some (.int .i64 u.speed) := cell_at hT1 rfl
            have qhT1_2 : w21.cell? ⟨w.heap.size + 1, 2, none⟩ = some (.int .i64 u.loss) := cell_at hT1 rfl
            have qhT1_3 : w21.cell? ⟨w.heap.size + 1, 3, none⟩ = some (.int .i64 u.clear) := cell_at hT1 rfl
            have qhT1_4 : w21.cell? ⟨w.heap.size + 1, 4, none⟩ = some (.int .i64 u.soft) := cell_at hT1 rfl
            have qhT1_5 : w21.cell? ⟨w.heap.size + 1, 5, none⟩ = some (.slice A M cap) := cell_at hT1 rfl
            have qt5_0 : w21.cell? ⟨bt5, 0, none⟩ = some (.int .i64 u.ring) := cell_at t5 rfl
            have qt5_1 : w21.cell? ⟨bt5, 1, none⟩ = some (.int .i64 u.speed) := cell_at t5 rfl
            have qt5_2 : w21.cell? ⟨bt5, 2, none⟩ = some (.int .i64 u.loss) := cell_at t5 rfl
            have qt5_3 : w21.cell? ⟨bt5, 3, none⟩ = some (.int .i64 u.clear) := cell_at t5 rfl
            have qt5_4 : w21.cell? ⟨bt5, 4, none⟩ = some (.int .i64 u.soft) := cell_at t5 rfl
            clear f6 f8
            have f6 : w21.cell? ⟨g6, k, none⟩ = some (.bool true) := cell_at h6 (by rw [HP1.out k hlt, hI])
            have f8 : w21.cell? ⟨g8, k, none⟩ = some (.int .i64 LV) := cell_at h8 (by rw [HL1.out k hlt, hL])
            go_wp2
            clear f6 f8
            clear qhT0_0 qhT0_1 qhT0_2 qhT0_3 qhT0_4 qhT1_0 qhT1_1 qhT1_2 qhT1_3 qhT1_4 qhT1_5 qt5_0 qt5_1 qt5_2 qt5_3 qt5_4
            go_loopw [14, 202] (fun c i wr => ∃ j : Nat, j ≤ R.length ∧ i = .int .i64 j ∧ c = .int .i64 (Mo.cov (R.take j) k : Nat) ∧ Below w21.heap.size w21 wr) (fun _ i _ => R.length - (intOf i).toNat)
            case atStart => exact ⟨0, Nat.zero_le _, rfl, rfl, Below.refl _ _⟩
            case round =>
              obtain ⟨j, hj, rfl, rfl, hBi⟩ := hrel
              obtain ⟨w22, hww⟩ : ∃ W, W = wr := ⟨_, rfl⟩
              rw [← hww] at hBi ⊢
              clear hww
              have hB22 := hB21.call hBi rfl
              replace hT0 := blkb hT0 hBi
              replace hT1 := blkb hT1 hBi
              replace H := H.below hBi
              replace t5 := blkb t5 hBi
              replace h6 := blkb h6 hBi
              replace h8 := blkb h8 hBi
              replace hs := hs.below hBi
              replace hBr := hBr.call hBi rfl
              clear hB21
              have hcv : Mo.cov (R.take j) k ≤ 4096 := Nat.le_trans (List.countP_le_length ..) (by rw [List.length_take]; omega)
              by_cases hjl : j < R.length
              · as_aux_lemma =>
                  obtain ⟨b, off, sp, rfl, hx, hb, hc⟩ := RdL.at hs Spn.len hjl
                  have s0 : w22.cell? ⟨b, off + j * 2, none⟩ = some (.int .i64 sp.f) := hc 0 (by omega)
                  have s1 : w22.cell? ⟨b, off + j * 2 + 1, none⟩ = some (.int .i64 sp.t) := hc 1 (by omega)
                  have hcs := Mo.cov_take hx (k : Int)
                  have HCS := Lib.hid hcs
                  clear hcs hc hx
                  have hz : (w22.alloc (Obj.cells #[.int .i64 0, .int .i64 0] 96)).heap[w22.heap.size]? = some (Obj.cells #[.int .i64 0, .int .i64 0] 96) := heap_new rfl
                  go_wp2_with (refine wpList_store_blk rfl 96 _ _ rfl w22.heap.size _ rfl rfl hz ?s1 ?s2 ?s3 ?_)
                  case s1 => rfl
                  case s2 => kernel_rfl
                  case s3 => simp [Value.oneCell']
                  intro w23 t16 hg3 hs3
                  have hS := ((Below.refl _ _).alloc (Nat.le_refl _) _).grown hg3 (by simp) (fun j hj => by cases hj; exact Nat.le_refl _)
                  have hB23 := hB22.call hS rfl
                  replace hT0 := blkb hT0 hS
                  replace hT1 := blkb hT1 hS
                  replace H := H.below hS
                  replace t5 := blkb t5 hS
                  replace h6 := blkb h6 hS
                  replace h8 := blkb h8 hS
                  replace hs := hs.below hS
                  replace hBr := hBr.call hS rfl
                  replace hBi := hBi.call hS rfl
                  clear hS hB22
                  have qhT0_0 : w23.cell? ⟨w.heap.size, 0, none⟩ = some (.int .i64 v.sx) := cell_at hT0 rfl
                  have qhT0_1 : w23.cell? ⟨w.heap.size, 1, none⟩ = some (.int .i64 v.sy) := cell_at hT0 rfl
                  have qhT0_2 : w23.cell? ⟨w.heap.size, 2, none⟩ = some (.int .i64 v.dx) := cell_at hT0 rfl
                  have qhT0_3 : w23.cell? ⟨w.heap.size, 3, none⟩ = some (.int .i64 v.dy) := cell_at hT0 rfl
                  have qhT0_4 : w23.cell? ⟨w.heap.size, 4, none⟩ = some (.int .i64 (N : Int)) := cell_at hT0 rfl
                  have qhT1_0 : w23.cell? ⟨w.heap.size + 1, 0, none⟩ = some (.int .i64 u.ring) := cell_at hT1 rfl
                  have qhT1_1 : w23.cell? ⟨w.heap.size + 1, 1, none⟩ = some (.int .i64 u.speed) := cell_at hT1 rfl
                  have qhT1_2 : w23.cell? ⟨w.heap.size + 1, 2, none⟩ = some (.int .i64 u.loss) := cell_at hT1 rfl
                  have qhT1_3 : w23.cell? ⟨w.heap.size + 1, 3, none⟩ = some (.int .i64 u.clear) := cell_at hT1 rfl
                  have qhT1_4 : w23.cell? ⟨w.heap.size + 1, 4, none⟩ = some (.int .i64 u.soft) := cell_at hT1 rfl
                  have qhT1_5 : w23.cell? ⟨w.heap.size + 1, 5, none⟩ = some (.slice A M cap) := cell_at hT1 rfl
                  have qt5_0 : w23.cell? ⟨bt5, 0, none⟩ = some (.int .i64 u.ring) := cell_at t5 rfl
                  have qt5_1 : w23.cell? ⟨bt5, 1, none⟩ = some (.int .i64 u.speed) := cell_at t5 rfl
                  have qt5_2 : w23.cell? ⟨bt5, 2, none⟩ = some (.int .i64 u.loss) := cell_at t5 rfl
                  have qt5_3 : w23.cell? ⟨bt5, 3, none⟩ = some (.int .i64 u.clear) := cell_at t5 rfl
                  have qt5_4 : w23.cell? ⟨bt5, 4, none⟩ = some (.int .i64 u.soft) := cell_at t5 rfl
                  clear hz hg3 hs3
                  obtain ⟨bt16, hbt16⟩ : ∃ b, b = w22.heap.size := ⟨_, rfl⟩
                  rw [← hbt16] at t16 ⊢
                  clear hbt16
                  have s2 : w23.cell? ⟨bt16, 0, none⟩ = some (.int .i64 sp.f) := cell_at t16 rfl
                  have s3 : w23.cell? ⟨bt16, 1, none⟩ = some (.int .i64 sp.t) := cell_at t16 rfl
                  by_cases c1 : sp.f ≤ (k : Int)
                  · by_cases c2 : (k : Int) < sp.t
                    · go_wp2
                      go_roundw
                      case rel => exact ⟨j + 1, by omega, by go_num, by rw [HCS.out, if_pos ⟨c1, c2⟩]; go_num, hBi⟩
                      case measure => simp [intOf]; omega
                    · go_wp2
                      go_roundw
                      case rel => exact ⟨j + 1, by omega, by go_num, by rw [HCS.out, if_neg (fun h => c2 h.2)]; rfl, hBi⟩
                      case measure => simp [intOf]; omega
                  · go_wp2
                    go_roundw
                    case rel => exact ⟨j + 1, by omega, by go_num, by rw [HCS.out, if_neg (fun h => c1 h.1)]; rfl, hBi⟩
                    case measure => simp [intOf]; omega
              · as_aux_lemma =>
                  obtain rfl : j = R.length := by omega
                  clear hjl
                  have hcr : Mo.cov (R.take R.length) k = if lev k = 0 then 1 else 0 := by rw [List.take_length, HRC.out k hlt]
                  rw [hL] at hcr
                  obtain ⟨cc, hcc⟩ : ∃ c : Int, c = ((Mo.cov (R.take R.length) k : Nat) : Int) := ⟨_, rfl⟩
                  obtain ⟨bz, hbz⟩ : ∃ b, b = decide (LV = 0) := ⟨_, rfl⟩
                  have hc0 : cc = if LV = 0 then 1 else 0 := by rw [hcc, hcr]; split <;> rfl
                  have hc1 : decide (1 < cc) = false := decide_eq_false (by rw [hc0]; split <;> omega)
                  have hc2 : (cc == 1) = bz := by rw [hc0, hbz]; split <;> simp_all
                  have hc3 : (LV == 0) = bz := by rw [hbz]; rfl
                  rw [← hcc]
                  clear hcr hcv hcc hc0 hbz
                  have wz : IntKind.i64.wrap 0 = 0 := by decide
                  have wo : IntKind.i64.wrap 1 = 1 := by decide
                  have wv : IntKind.i64.wrap (LV + 1) = LV + 1 := wrapI _ (by omega) (by omega)
                  have qhT0_0 : w22.cell? ⟨w.heap.size, 0, none⟩ = some (.int .i64 v.sx) := cell_at hT0 rfl
                  have qhT0_1 : w22.cell? ⟨w.heap.size, 1, none⟩ = some (.int .i64 v.sy) := cell_at hT0 rfl
                  have qhT0_2 : w22.cell? ⟨w.heap.size, 2, none⟩ = some (.int .i64 v.dx) := cell_at hT0 rfl
                  have qhT0_3 : w22.cell? ⟨w.heap.size, 3, none⟩ = some (.int .i64 v.dy) := cell_at hT0 rfl
                  have qhT0_4 : w22.cell? ⟨w.heap.size, 4, none⟩ = some (.int .i64 (N : Int)) := cell_at hT0 rfl
                  have qhT1_0 : w22.cell? ⟨w.heap.size + 1, 0, none⟩ = some (.int .i64 u.ring) := cell_at hT1 rfl
                  have qhT1_1 : w22.cell? ⟨w.heap.size + 1, 1, none⟩ = some (.int .i64 u.speed) := cell_at hT1 rfl
                  have qhT1_2 : w22.cell? ⟨w.heap.size + 1, 2, none⟩ = some (.int .i64 u.loss) := cell_at hT1 rfl
                  have qhT1_3 : w22.cell? ⟨w.heap.size + 1, 3, none⟩ = some (.int .i64 u.clear) := cell_at hT1 rfl
                  have qhT1_4 : w22.cell? ⟨w.heap.size + 1, 4, none⟩ = some (.int .i64 u.soft) := cell_at hT1 rfl
                  have qhT1_5 : w22.cell? ⟨w.heap.size + 1, 5, none⟩ = some (.slice A M cap) := cell_at hT1 rfl
                  have qt5_0 : w22.cell? ⟨bt5, 0, none⟩ = some (.int .i64 u.ring) := cell_at t5 rfl
                  have qt5_1 : w22.cell? ⟨bt5, 1, none⟩ = some (.int .i64 u.speed) := cell_at t5 rfl
                  have qt5_2 : w22.cell? ⟨bt5, 2, none⟩ = some (.int .i64 u.loss) := cell_at t5 rfl
                  have qt5_3 : w22.cell? ⟨bt5, 3, none⟩ = some (.int .i64 u.clear) := cell_at t5 rfl
                  have qt5_4 : w22.cell? ⟨bt5, 4, none⟩ = some (.int .i64 u.soft) := cell_at t5 rfl
                  have f6 : w22.cell? ⟨g6, k, none⟩ = some (.bool true) := cell_at h6 (by rw [HP1.out k hlt, hI])
                  have f8 : w22.cell? ⟨g8, k, none⟩ = some (.int .i64 LV) := cell_at h8 (by rw [HL1.out k hlt, hL])
                  go_wp2
                  have zg6 : g6 < w22.heap.size := (Array.getElem?_eq_some_iff.1 h6).1
                  have zg8 : g8 < w22.heap.size := (Array.getElem?_eq_some_iff.1 h8).1
                  refine wp_region_plan [(0, true), (1, true), (2, true), (3, true), (4, true), (5, true), (6, true), (7, true), (8, true), (11, true), (9, false), (10, true)] w22.heap.size (by kernel_rfl) (by kernel_rfl) (Nat.le_refl _) (fun _ _ d _ _ h => by cases d <;> exact h) ?_
                  have hC : Below w22.heap.size w22 w22 := Below.refl _ _
                  have zhT0 : w.heap.size < w22.heap.size := (Array.getElem?_eq_some_iff.1 hT0).1
                  have zhT1 : w.heap.size + 1 < w22.heap.size := (Array.getElem?_eq_some_iff.1 hT1).1
                  have zt5 : bt5 < w22.heap.size := (Array.getElem?_eq_some_iff.1 t5).1
                  repeat (first | (refine wpPlanA_skip _ rfl (by rfl) ?_; simp only [Act.put, List.setIfInBounds_toArray, List.set_cons_zero, List.set_cons_succ]) | (refine wpPlanA_soft _ ?_ rfl (by rfl) ?_ ?_; rotate_left; (intro wq hq hcq; go_simp; first | exact rfl | exact ⟨rfl, rfl⟩); simp only [Act.put, List.setIfInBounds_toArray, List.set_cons_zero, List.set_cons_succ]))
                  refine wpPlanA_hard _ rfl (by rfl) (fun w23 hS K hK => ?_)
                  have hB23 := hB22.call hS rfl
                  replace hC := hC.call hS rfl
                  replace hT0 := blkb hT0 hS
                  replace hT1 := blkb hT1 hS
                  replace H := H.below hS
                  replace t5 := blkb t5 hS
                  replace h6 := blkb h6 hS
                  replace h8 := blkb h8 hS
                  replace hs := hs.below hS
                  replace hBr := hBr.call hS rfl
                  replace hBi := hBi.call hS rfl
                  clear hS hB22
                  go_simp
                  have hb : Below w23.heap.size w23 (w23.alloc (Obj.cells #[.int .i64 1, .int .i64 LV, .int .i64 (LV + 1)] 3)) := (Below.refl _ _).alloc (Nat.le_refl _) _
                  have t240 : (w23.alloc (Obj.cells #[.int .i64 1, .int .i64 LV, .int .i64 (LV + 1)] 3)).heap[w23.heap.size]? = some (Obj.cells #[.int .i64 1, .int .i64 LV, .int .i64 (LV + 1)] 3) := heap_new rfl
                  refine hK _ _ (hC.alloc hC.size _) ?_
                  clear hK K
                  replace hC := hC.call hb rfl
                  have hB24 := hB23.call hb rfl
                  replace hT0 := blkb hT0 hb
                  replace hT1 := blkb hT1 hb
                  replace H := H.below hb
                  replace t5 := blkb t5 hb
                  replace h6 := blkb h6 hb
                  replace h8 := blkb h8 hb
                  replace hs := hs.below hb
                  replace hBr := hBr.call hb rfl
                  replace hBi := hBi.call hb rfl
                  clear hb hB23
                  generalize hWn : w23.alloc (Obj.cells #[.int .i64 1, .int .i64 LV, .int .i64 (LV + 1)] 3) = w24 at t240 hC hB24 hT0 hT1 H t5 h6 h8 hs hBr hBi ⊢
                  clear hWn
                  generalize hWn : w23.heap.size = bt240 at t240 ⊢
                  clear hWn
                  try simp only [Act.put, List.setIfInBounds_toArray, List.set_cons_zero, List.set_cons_succ]
                  repeat (first | (refine wpPlanA_skip _ rfl (by rfl) ?_; simp only [Act.put, List.setIfInBounds_toArray, List.set_cons_zero, List.set_cons_succ]) | (refine wpPlanA_soft _ ?_ rfl (by rfl) ?_ ?_; rotate_left; (intro wq hq hcq; go_simp; first | exact rfl | exact ⟨rfl, rfl⟩); simp only [Act.put, List.setIfInBounds_toArray, List.set_cons_zero, List.set_cons_succ]))
                  clear f6 f8
                  clear qhT0_0 qhT0_1 qhT0_2 qhT0_3 qhT0_4 qhT1_0 qhT1_1 qhT1_2 qhT1_3 qhT1_4 qhT1_5 qt5_0 qt5_1 qt5_2 qt5_3 qt5_4
                  refine wpPlanA_nil (fun w25 hS => ?_)
                  clear hC zhT0 zhT1 zt5 zg6 zg8
                  have hB25 := hB24.call hS rfl
                  replace hT0 := blkb hT0 hS
                  replace hT1 := blkb hT1 hS
                  replace H := H.below hS
                  replace t5 := blkb t5 hS
                  replace h6 := blkb h6 hS
                  replace h8 := blkb h8 hS
                  replace hs := hs.below hS
                  replace hBr := hBr.call hS rfl
                  replace hBi := hBi.call hS rfl
                  replace t240 := blkb t240 hS
                  clear hS hB24
                  have qhT0_0 : w25.cell? ⟨w.heap.size, 0, none⟩ = some (.int .i64 v.sx) := cell_at hT0 rfl
                  have qhT0_1 : w25.cell? ⟨w.heap.size, 1, none⟩ = some (.int .i64 v.sy) := cell_at hT0 rfl
                  have qhT0_2 : w25.cell? ⟨w.heap.size, 2, none⟩ = some (.int .i64 v.dx) := cell_at hT0 rfl
                  have qhT0_3 : w25.cell? ⟨w.heap.size, 3, none⟩ = some (.int .i64 v.dy) := cell_at hT0 rfl
                  have qhT0_4 : w25.cell? ⟨w.heap.size, 4, none⟩ = some (.int .i64 (N : Int)) := cell_at hT0 rfl
                  have qhT1_0 : w25.cell? ⟨w.heap.size + 1, 0, none⟩ = some (.int .i64 u.ring) := cell_at hT1 rfl
                  have qhT1_1 : w25.cell? ⟨w.heap.size + 1, 1, none⟩ = some (.int .i64 u.speed) := cell_at hT1 rfl
                  have qhT1_2 : w25.cell? ⟨w.heap.size + 1, 2, none⟩ = some (.int .i64 u.loss) := cell_at hT1 rfl
                  have qhT1_3 : w25.cell? ⟨w.heap.size + 1, 3, none⟩ = some (.int .i64 u.clear) := cell_at hT1 rfl
                  have qhT1_4 : w25.cell? ⟨w.heap.size + 1, 4, none⟩ = some (.int .i64 u.soft) := cell_at hT1 rfl
                  have qhT1_5 : w25.cell? ⟨w.heap.size + 1, 5, none⟩ = some (.slice A M cap) := cell_at hT1 rfl
                  have qt5_0 : w25.cell? ⟨bt5, 0, none⟩ = some (.int .i64 u.ring) := cell_at t5 rfl
                  have qt5_1 : w25.cell? ⟨bt5, 1, none⟩ = some (.int .i64 u.speed) := cell_at t5 rfl
                  have qt5_2 : w25.cell? ⟨bt5, 2, none⟩ = some (.int .i64 u.loss) := cell_at t5 rfl
                  have qt5_3 : w25.cell? ⟨bt5, 3, none⟩ = some (.int .i64 u.clear) := cell_at t5 rfl
                  have qt5_4 : w25.cell? ⟨bt5, 4, none⟩ = some (.int .i64 u.soft) := cell_at t5 rfl
                  go_wp2
                  clear qhT0_0 qhT0_1 qhT0_2 qhT0_3 qhT0_4 qhT1_0 qhT1_1 qhT1_2 qhT1_3 qhT1_4 qhT1_5 qt5_0 qt5_1 qt5_2 qt5_3 qt5_4
                  go_loopw [242] (fun i wr => ∃ j : Nat, j ≤ 3 ∧ i = .int .i64 j ∧ Below w25.heap.size w25 wr) (fun i _ => 3 - (intOf i).toNat)
                  case atStart => exact ⟨0, by omega, rfl, Below.refl _ _⟩
                  case round =>
                    obtain ⟨j, hj, rfl, hBj⟩ := hrel
                    obtain ⟨w26, hww⟩ : ∃ W, W = wr := ⟨_, rfl⟩
                    rw [← hww] at hBj ⊢
                    clear hww
                    have hB26 := hB25.call hBj rfl
                    replace hT0 := blkb hT0 hBj
                    replace hT1 := blkb hT1 hBj
                    replace H := H.below hBj
                    replace t5 := blkb t5 hBj
                    replace h6 := blkb h6 hBj
                    replace h8 := blkb h8 hBj
                    replace hs := hs.below hBj
                    replace hBr := hBr.call hBj rfl
                    replace hBi := hBi.call hBj rfl
                    replace t240 := blkb t240 hBj
                    clear hB25
                    by_cases hjl : j < 3
                    · as_aux_lemma =>
                        obtain ⟨x, fx, hx0, hx1⟩ : ∃ x, w26.cell? ⟨bt240, j, none⟩ = some (.int .i64 x) ∧ 0 ≤ x ∧ x ≤ 1002 := by
                          rcases (show j = 0 ∨ j = 1 ∨ j = 2 by omega) with rfl | rfl | rfl
                          · exact ⟨_, cell_at t240 rfl, by omega, by omega⟩
                          · exact ⟨_, cell_at t240 rfl, by omega, by omega⟩
                          · exact ⟨_, cell_at t240 rfl, by omega, by omega⟩
                        by_cases hxa : x < 1
                        · go_wp2
                          go_roundw
                          case rel => exact ⟨j + 1, by omega, by go_num, hBj⟩
                          case measure => simp [intOf]; omega
                        by_cases hxb : 1001 < x
                        · go_wp2
                          go_roundw
                          case rel => exact ⟨j + 1, by omega, by go_num, hBj⟩
                          case measure => simp [intOf]; omega
                        have hfv : Mo.fires v u l [⟨k, x⟩] = 31 := by rw [HFO.out k x hlt (by omega) (by omega), hI, hL]; rw [if_pos rfl, if_pos (by have := H0.out; omega)]
                        have qhT0_0 : w26.cell? ⟨w.heap.size, 0, none⟩ = some (.int .i64 v.sx) := cell_at hT0 rfl
                        have qhT0_1 : w26.cell? ⟨w.heap.size, 1, none⟩ = some (.int .i64 v.sy) := cell_at hT0 rfl
                        have qhT0_2 : w26.cell? ⟨w.heap.size, 2, none⟩ = some (.int .i64 v.dx) := cell_at hT0 rfl
                        have qhT0_3 : w26.cell? ⟨w.heap.size, 3, none⟩ = some (.int .i64 v.dy) := cell_at hT0 rfl
                        have qhT0_4 : w26.cell? ⟨w.heap.size, 4, none⟩ = some (.int .i64 (N : Int)) := cell_at hT0 rfl
                        have qhT1_0 : w26.cell? ⟨w.heap.size + 1, 0, none⟩ = some (.int .i64 u.ring) := cell_at hT1 rfl
                        have qhT1_1 : w26.cell? ⟨w.heap.size + 1, 1, none⟩ = some (.int .i64 u.speed) := cell_at hT1 rfl
                        have qhT1_2 : w26.cell? ⟨w.heap.size + 1, 2, none⟩ = some (.int .i64 u.loss) := cell_at hT1 rfl
                        have qhT1_3 : w26.cell? ⟨w.heap.size + 1, 3, none⟩ = some (.int .i64 u.clear) := cell_at hT1 rfl
                        have qhT1_4 : w26.cell? ⟨w.heap.size + 1, 4, none⟩ = some (.int .i64 u.soft) := cell_at hT1 rfl
                        have qhT1_5 : w26.cell? ⟨w.heap.size + 1, 5, none⟩ = some (.slice A M cap) := cell_at hT1 rfl
                        have qt5_0 : w26.cell? ⟨bt5, 0, none⟩ = some (.int .i64 u.ring) := cell_at t5 rfl
                        have qt5_1 : w26.cell? ⟨bt5, 1, none⟩ = some (.int .i64 u.speed) := cell_at t5 rfl
                        have qt5_2 : w26.cell? ⟨bt5, 2, none⟩ = some (.int .i64 u.loss) := cell_at t5 rfl
                        have qt5_3 : w26.cell? ⟨bt5, 3, none⟩ = some (.int .i64 u.clear) := cell_at t5 rfl
                        have qt5_4 : w26.cell? ⟨bt5, 4, none⟩ = some (.int .i64 u.soft) := cell_at t5 rfl
                        have f6 : w26.cell? ⟨g6, k, none⟩ = some (.bool true) := cell_at h6 (by rw [HP1.out k hlt, hI])
                        have f8 : w26.cell? ⟨g8, k, none⟩ = some (.int .i64 LV) := cell_at h8 (by rw [HL1.out k hlt, hL])
                        go_wp2
                        have zg6 : g6 < w26.heap.size := (Array.getElem?_eq_some_iff.1 h6).1
                        have zg8 : g8 < w26.heap.size := (Array.getElem?_eq_some_iff.1 h8).1
                        refine wp_region_planG (Φ := Shot k x) (I := fun a => a.tmps[269]?.getD undef = .agg #[.int .i64 k, .int .i64 x]) [(0, 1), (1, 1), (2, 1), (3, 1), (5, 1), (6, 1), (7, 1), (10, 1), (4, 0), (8, 2), (9, 3), (11, 1)] 8 w26.heap.size _ rfl (by kernel_rfl) (by kernel_rfl) (Nat.le_refl _) (fun _ _ d _ _ h => by cases d <;> exact h) (fun _ _ d _ _ h => by cases d <;> exact h) (fun v w w' hv hb => hv.below hb) (fun a wq hq hI => ⟨rfl, shot_op _ 269 rfl k x _ a wq hI⟩) ?_
                        have hC : Below w26.heap.size w26 w26 := Below.refl _ _
                        have zhT0 : w.heap.size < w26.heap.size := (Array.getElem?_eq_some_iff.1 hT0).1
                        have zhT1 : w.heap.size + 1 < w26.heap.size := (Array.getElem?_eq_some_iff.1 hT1).1
                        have zt5 : bt5 < w26.heap.size := (Array.getElem?_eq_some_iff.1 t5).1
                        repeat (first | (refine wpPlanGA_skip _ rfl (by rfl) ?_; simp only [Act.put, List.setIfInBounds_toArray, List.set_cons_zero, List.set_cons_succ]) | (refine wpPlanGA_soft _ ?_ rfl (by rfl) ?_ ?_; rotate_left; (intro wq hq hcq; go_simp; first | exact rfl | exact ⟨rfl, rfl⟩); simp only [Act.put, List.setIfInBounds_toArray, List.set_cons_zero, List.set_cons_succ]))
                        refine wpPlanGA_hard _ rfl rfl (by rfl) (fun w27 hS K hK => ?_)
                        have hB27 := hB26.call hS rfl
                        replace hC := hC.call hS rfl
                        replace hT0 := blkb hT0 hS
                        replace hT1 := blkb hT1 hS
                        replace H := H.below hS
                        replace t5 := blkb t5 hS
                        replace h6 := blkb h6 hS
                        replace h8 := blkb h8 hS
                        replace hs := hs.below hS
                        replace hBr := hBr.call hS rfl
                        replace hBi := hBi.call hS rfl
                        replace t240 := blkb t240 hS
                        replace hBj := hBj.call hS rfl
                        clear hB26
                        clear hS
                        go_simp
                        refine (H17.out _ H).mono ?_
                        rintro e w28 ⟨_, rfl, ⟨AT, CT, rfl, ht⟩, hb⟩
                        have hB28 := hB27.call hb rfl
                        replace hC := hC.call hb rfl
                        replace hT0 := blkb hT0 hb
                        replace hT1 := blkb hT1 hb
                        replace H := H.below hb
                        replace t5 := blkb t5 hb
                        replace h6 := blkb h6 hb
                        replace h8 := blkb h8 hb
                        replace hs := hs.below hb
                        replace hBr := hBr.call hb rfl
                        replace hBi := hBi.call hb rfl
                        replace t240 := blkb t240 hb
                        replace hBj := hBj.call hb rfl
                        clear hB27
                        refine hK _ _ hC hb ?_
                        clear hK K hb
                        try simp only [Act.put, List.setIfInBounds_toArray, List.set_cons_zero, List.set_cons_succ]
                        refine wpPlanGA_float _ rfl rfl (fun v w29 hS hv => ?_)
                        obtain ⟨b269, rfl, t269⟩ := hv
                        have hB29 := hB28.call hS rfl
                        replace hC := hC.call hS rfl
                        replace hT0 := blkb hT0 hS
                        replace hT1 := blkb hT1 hS
                        replace H := H.below hS
                        replace t5 := blkb t5 hS
                        replace h6 := blkb h6 hS
                        replace h8 := blkb h8 hS
                        replace hs := hs.below hS
                        replace hBr := hBr.call hS rfl
                        replace hBi := hBi.call hS rfl
                        replace t240 := blkb t240 hS
                        replace hBj := hBj.call hS rfl
                        replace ht := ht.below hS
                        clear hB28
                        clear hS
                        try simp only [Act.put, List.setIfInBounds_toArray, List.set_cons_zero, List.set_cons_succ]
                        refine wpPlanGA_late _ rfl (by rfl) (fun w30 hS K hK => ?_)
                        have hB30 := hB29.call hS rfl
                        replace hC := hC.call hS rfl
                        replace hT0 := blkb hT0 hS
                        replace hT1 := blkb hT1 hS
                        replace H := H.below hS
                        replace t5 := blkb t5 hS
                        replace h6 := blkb h6 hS
                        replace h8 := blkb h8 hS
                        replace hs := hs.below hS
                        replace hBr := hBr.call hS rfl
                        replace hBi := hBi.call hS rfl
                        replace t240 := blkb t240 hS
                        replace hBj := hBj.call hS rfl
                        replace ht := ht.below hS
                        replace t269 := blkb t269 hS
                        clear hB29
                        clear hS
                        go_simp
                        refine (H34.out _ AT CT _ 1 [⟨k, x⟩] (by simp) ht (RdS.of_block t269 rfl)).mono ?_
                        rintro e w31 ⟨rfl, hb⟩
                        have hB31 := hB30.call hb rfl
                        replace hC := hC.call hb rfl
                        replace hT0 := blkb hT0 hb
                        replace hT1 := blkb hT1 hb
                        replace H := H.below hb
                        replace t5 := blkb t5 hb
                        replace h6 := blkb h6 hb
                        replace h8 := blkb h8 hb
                        replace hs := hs.below hb
                        replace hBr := hBr.call hb rfl
                        replace hBi := hBi.call hb rfl
                        replace t240 := blkb t240 hb
                        replace hBj := hBj.call hb rfl
                        replace ht := ht.below hb
                        replace t269 := blkb t269 hb
                        clear hB30
                        refine hK _ _ hC ?_
                        clear hK K hb
                        try simp only [Act.put, List.setIfInBounds_toArray, List.set_cons_zero, List.set_cons_succ]
                        repeat (first | (refine wpPlanGA_skip _ rfl (by rfl) ?_; simp only [Act.put, List.setIfInBounds_toArray, List.set_cons_zero, List.set_cons_succ]) | (refine wpPlanGA_soft _ ?_ rfl (by rfl) ?_ ?_; rotate_left; (intro wq hq hcq; go_simp; first | exact rfl | exact ⟨rfl, rfl⟩); simp only [Act.put, List.setIfInBounds_toArray, List.set_cons_zero, List.set_cons_succ]))
                        clear f6 f8
                        clear qhT0_0 qhT0_1 qhT0_2 qhT0_3 qhT0_4 qhT1_0 qhT1_1 qhT1_2 qhT1_3 qhT1_4 qhT1_5 qt5_0 qt5_1 qt5_2 qt5_3 qt5_4
                        refine wpPlanGA_nil (fun w32 hS => ?_)
                        clear hC zg6 zg8 zhT0 zhT1 zt5
                        have hB32 := hB31.call hS rfl
                        replace hT0 := blkb hT0 hS
                        replace hT1 := blkb hT1 hS
                        replace H := H.below hS
                        replace t5 := blkb t5 hS
                        replace h6 := blkb h6 hS
                        replace h8 := blkb h8 hS
                        replace hs := hs.below hS
                        replace hBr := hBr.call hS rfl
                        replace hBi := hBi.call hS rfl
                        replace t240 := blkb t240 hS
                        replace hBj := hBj.call hS rfl
                        replace ht := ht.below hS
                        replace t269 := blkb t269 hS
                        clear hS hB31
                        have qhT0_0 : w32.cell? ⟨w.heap.size, 0, none⟩ = some (.int .i64 v.sx) := cell_at hT0 rfl
                        have qhT0_1 : w32.cell? ⟨w.heap.size, 1, none⟩ = some (.int .i64 v.sy) := cell_at hT0 rfl
                        have qhT0_2 : w32.cell? ⟨w.heap.size, 2, none⟩ = some (.int .i64 v.dx) := cell_at hT0 rfl
                        have qhT0_3 : w32.cell? ⟨w.heap.size, 3, none⟩ = some (.int .i64 v.dy) := cell_at hT0 rfl
                        have qhT0_4 : w32.cell? ⟨w.heap.size, 4, none⟩ = some (.int .i64 (N : Int)) := cell_at hT0 rfl
                        have qhT1_0 : w32.cell? ⟨w.heap.size + 1, 0, none⟩ = some (.int .i64 u.ring) := cell_at hT1 rfl
                        have qhT1_1 : w32.cell? ⟨w.heap.size + 1, 1, none⟩ = some (.int .i64 u.speed) := cell_at hT1 rfl
                        have qhT1_2 : w32.cell? ⟨w.heap.size + 1, 2, none⟩ = some (.int .i64 u.loss) := cell_at hT1 rfl
                        have qhT1_3 : w32.cell? ⟨w.heap.size + 1, 3, none⟩ = some (.int .i64 u.clear) := cell_at hT1 rfl
                        have qhT1_4 : w32.cell? ⟨w.heap.size + 1, 4, none⟩ = some (.int .i64 u.soft) := cell_at hT1 rfl
                        have qhT1_5 : w32.cell? ⟨w.heap.size + 1, 5, none⟩ = some (.slice A M cap) := cell_at hT1 rfl
                        have qt5_0 : w32.cell? ⟨bt5, 0, none⟩ = some (.int .i64 u.ring) := cell_at t5 rfl
                        have qt5_1 : w32.cell? ⟨bt5, 1, none⟩ = some (.int .i64 u.speed) := cell_at t5 rfl
                        have qt5_2 : w32.cell? ⟨bt5, 2, none⟩ = some (.int .i64 u.loss) := cell_at t5 rfl
                        have qt5_3 : w32.cell? ⟨bt5, 3, none⟩ = some (.int .i64 u.clear) := cell_at t5 rfl
                        have qt5_4 : w32.cell? ⟨bt5, 4, none⟩ = some (.int .i64 u.soft) := cell_at t5 rfl
                        clear ht
                        clear t269
                        go_wp2
                        go_roundw
                        case rel => exact ⟨j + 1, by omega, by go_num, hBj⟩
                        case measure => simp [intOf]; omega
                    · as_aux_lemma =>
                        obtain rfl : j = 3 := by omega
                        go_wp2
                        go_roundw
                        case rel => exact ⟨k + 1, by omega, by go_num, by rw [ELA.out], hBr⟩
                        case measure => simp [intOf]; omega
    · as_aux_lemma =>
        obtain rfl : k = N := by omega
        go_wp2_with fail
        refine (c15 _).mono ?_
        rintro e wz ⟨rfl, hz⟩
        go_wp2
        go_ret
        exact ⟨rfl, hB19.call hz rfl⟩

theorem l7 (v : Ves) (u : Wat) (A : Option Addr) (cap : Nat) (l : List Sgt) (w : World) (H : RdL w 3 Sgt.enc A l) :
    Calls Tryz.prog 7 #[.agg #[.int .i64 v.sx, .int .i64 v.sy, .int .i64 v.dx, .int .i64 v.dy, .int .i64 v.n], .agg #[.int .i64 u.ring, .int .i64 u.speed, .int .i64 u.loss, .int .i64 u.clear, .int .i64 u.soft, .slice A l.length cap]] w fun en w' => en = .returned (.bool true) ∧ Below w.heap.size w w' := by
  by_cases h : Mo.all v u l = 0
  · have hn := (Mo.all_ok h).1.n
    have hN : v.n = ((v.n.toNat : Nat) : Int) := by omega
    have := l7_ok v u A cap l v.n.toNat w H h hN
    rw [← hN] at this
    exact this
  · exact l7_bad v u A cap l w H h

end Go.Proofs.YtndhjkammoeikaaGreatDoor
