/- A part of the proofs about chapter 9: contracts of functions and plain laws (W36, W37, W38, Model14, W39, CopyK, W40, Model15). -/
import Derived.Laws.AppendOwnNone
import Derived.Maps.OwnSet
import Derived.Maps.OwnOps
import Derived.Laws.CopyOwn
import Derived.Test.YtndhjkammoeikaaGreatDoorA06
import Derived.Test.YtndhjkammoeikaaGreatDoorA03
import Derived.Test.YtndhjkammoeikaaGreatDoorA02
set_option linter.all false
namespace Go.Proofs.YtndhjkammoeikaaGreatDoor
open Go.RowKit
set_option maxHeartbeats 1000000
set_option maxRecDepth 20000

theorem c42_bad (v : Ves) (u : Wat) (A : Option Addr) (cap : Nat) (l : List Sgt) (S : Option Addr) (scap : Nat) (sh : List Spn) (G : Option Addr) (gcap : Nat) (we : List Spn) (w : World) (hl : l.length ≤ 1000000) (hls : sh.length ≤ 1000000) (hlg : we.length ≤ 1000000) (H : RdL w 3 Sgt.enc A l) (HS : RdL w 2 Spn.enc S sh) (HG : RdL w 2 Spn.enc G we) (hbad : Mo.diaE v u l sh we ≠ 0) :
    Calls Tryz.prog 42 #[.agg #[.int .i64 v.sx, .int .i64 v.sy, .int .i64 v.dx, .int .i64 v.dy, .int .i64 v.n], .agg #[.int .i64 u.ring, .int .i64 u.speed, .int .i64 u.loss, .int .i64 u.clear, .int .i64 u.soft], .slice A l.length cap, .slice S sh.length scap, .slice G we.length gcap] w fun en w' => ∃ x, en = .returned (.tuple #[x, .int .i64 (Mo.diaE v u l sh we)]) ∧ Sl w' 3 x ([] : List Ent).length (([] : List Ent).flatMap Ent.enc) ∧ Below w.heap.size w w' := by
  have hb' : (Mo.first [Mo.all v u l, Mo.spans sh, Mo.spans we] != 0) = true := by have h := hbad; unfold Mo.diaE at h; simpa using h
  have HC := fun W (hW : Below w.heap.size w W) => Lib.hid (c20 v u A cap l W hl (H.below hW))
  have HP := fun W (hW : Below w.heap.size w W) => Lib.hid (c48 S scap sh W hls (HS.below hW))
  have HQ := fun W (hW : Below w.heap.size w W) => Lib.hid (c48 G gcap we W hlg (HG.below hW))
  obtain ⟨n, hn⟩ : ∃ n, n = l.length := ⟨_, rfl⟩
  obtain ⟨m, hm⟩ : ∃ m, m = sh.length := ⟨_, rfl⟩
  obtain ⟨r, hr⟩ : ∃ r, r = we.length := ⟨_, rfl⟩
  rw [← hn] at HC ⊢
  rw [← hm] at HP ⊢
  rw [← hr] at HQ ⊢
  clear H HS HG hbad hn hm hr hl hls hlg
  go_enter Tryz.func42, Tryz.ntmps42
  go_wp2_with fail
  refine (HC _ ?_).out.mono ?_
  · exact (((Below.refl _ _).alloc (by first | omega | (simp <;> omega)) _).alloc (by first | omega | (simp <;> omega)) _)
  rintro e w1 ⟨rfl, hb1⟩
  have hB2 := (((Below.refl _ _).alloc (by first | omega | (simp <;> omega)) _).alloc (by first | omega | (simp <;> omega)) _).call hb1 rfl
  clear hb1
  go_wp2_with fail
  refine (HP _ hB2).out.mono ?_
  rintro e w2 ⟨rfl, hb2⟩
  have hB3 := hB2.call hb2 rfl
  go_wp2_with fail
  refine (HQ _ hB3).out.mono ?_
  rintro e w3 ⟨rfl, hb3⟩
  have hB4 := hB3.call hb3 rfl
  clear hb2 hb3
  go_wp2_with (first | (go_at_call 92; refine (c92 _ 3 _ [Mo.all v u l, Mo.spans sh, Mo.spans we] _ rfl (by omega) ?_).mono ?_; (first | exact RdS.of_new (by simp) rfl | exact RdS.drew (RdS.of_new (by simp) rfl)); rintro e w' ⟨rfl, rfl⟩))
  go_ret2
  exact ⟨_, rfl, ⟨none, 0, rfl, rfl, fun h => absurd h (by simp)⟩, hB4.alloc hB4.size _⟩

theorem c42_ok (v : Ves) (u : Wat) (A : Option Addr) (cap : Nat) (l : List Sgt) (S : Option Addr) (scap : Nat) (sh : List Spn) (G : Option Addr) (gcap : Nat) (we : List Spn) (w : World) (H : RdL w 3 Sgt.enc A l) (HS : RdL w 2 Spn.enc S sh) (HG : RdL w 2 Spn.enc G we) (hok : Mo.diaE v u l sh we = 0) :
    Calls Tryz.prog 42 #[.agg #[.int .i64 v.sx, .int .i64 v.sy, .int .i64 v.dx, .int .i64 v.dy, .int .i64 v.n], .agg #[.int .i64 u.ring, .int .i64 u.speed, .int .i64 u.loss, .int .i64 u.clear, .int .i64 u.soft], .slice A l.length cap, .slice S sh.length scap, .slice G we.length gcap] w fun en w' => ∃ x, en = .returned (.tuple #[x, .int .i64 (Mo.cap64 (Mo.diaL v u l sh we)).2]) ∧ Sl w' 3 x (Mo.cap64 (Mo.diaL v u l sh we)).1.length ((Mo.cap64 (Mo.diaL v u l sh we)).1.flatMap Ent.enc) ∧ Below w.heap.size w w' := by
  have h0 := Mo.first_zero hok
  have hall : Mo.all v u l = 0 := h0 _ (by simp)
  have hsp : Mo.spans sh = 0 := h0 _ (by simp)
  have hsw : Mo.spans we = 0 := h0 _ (by simp)
  have hb' : (Mo.first [Mo.all v u l, Mo.spans sh, Mo.spans we] != 0) = false := by have h := hok; unfold Mo.diaE at h; simpa using h
  obtain ⟨hv, hu, hlen, hso⟩ := Mo.all_ok hall
  obtain ⟨hsl, hsb⟩ := Mo.spans_ok hsp
  obtain ⟨hgl, hgb⟩ := Mo.spans_ok hsw
  have hvn := hv.n
  obtain ⟨i0, hi, hz0, hz1, hz2⟩ := info_parts info188
  obtain ⟨N, hN⟩ : ∃ N : Nat, v.n = N := ⟨v.n.toNat, by omega⟩
  have hNN : v.n.toNat = N := by omega
  have hN1 : 1 ≤ N ∧ N ≤ 4096 := by omega
  have HC := fun W (hW : Below w.heap.size w W) => Lib.hid (c20 v u A cap l W (by omega) (H.below hW))
  have HP := fun W (hW : Below w.heap.size w W) => Lib.hid (c48 S scap sh W (by omega) (HS.below hW))
  have HQ := fun W (hW : Below w.heap.size w W) => Lib.hid (c48 G gcap we W (by omega) (HG.below hW))
  have HL := fun W (hW : Below w.heap.size w W) => Lib.hid (c22 v u A cap l W (H.below hW) hall)
  have HI := fun (k : Nat) W (hW : Below w.heap.size w W) => Lib.hid (c110 S scap sh k W (by omega) (HS.below hW))
  have HJ := fun (k : Nat) W (hW : Below w.heap.size w W) => Lib.hid (c110 G gcap we k W (by omega) (HG.below hW))
  obtain ⟨C, hC⟩ : ∃ C, C = Mo.diaC v u l sh we := ⟨_, rfl⟩
  have HCC : Hid (∀ t, C t = if Mo.inSp we t then Mo.weather else if Mo.inSp sh t then (if Mo.level v u l t == 0 then Mo.animal else Mo.shoot) else Mo.share) := by show ∀ t, _; rw [hC]; intro t; rfl
  have hML : Mo.diaL v u l sh we = Mo.merged (Mo.ticksOf C N) := by unfold Mo.diaL; rw [hC, hNN]
  have HM := fun (x : Option Addr) (xc : Nat) W (hW : RdS W 3 x N ((Mo.ticksOf C N).flatMap Ent.enc)) => Lib.hid (c57 x xc (Mo.ticksOf C N) W (by rw [Mo.ticksOf_len]; omega) (by unfold RdL; rw [Mo.ticksOf_len]; exact hW))
  simp only [Mo.ticksOf_len] at HM
  have hL2 : ∀ t : Nat, t < N → Hid (((Mo.levels v u l).map (Value.int .i64))[t]? = some (.int .i64 (Mo.level v u l t))) := fun t ht => by
    show _ = _
    unfold Mo.levels; rw [hNN]; simp [ht]
  rw [hML]
  obtain ⟨M, hM⟩ : ∃ M, M = Mo.merged (Mo.ticksOf C N) := ⟨_, rfl⟩
  rw [← hM] at HM ⊢
  obtain ⟨R, hR⟩ : ∃ R, R = Mo.cap64 M := ⟨_, rfl⟩
  rw [← hR]
  have HRR := Lib.hid hR
  clear hR
  have hMl : M.length ≤ 4096 := by rw [hM, ← Mo.mtake_all, Mo.ticksOf_len]; exact Nat.le_trans (Mo.mtake_len _ _) hN1.2
  rw [hNN] at HL
  simp only [hN] at HC HL ⊢
  clear h0 hsp hsw hok hso hv hu H HS HG hN hvn hNN hall hML hC hM
  obtain ⟨n, hn⟩ : ∃ n, n = l.length := ⟨_, rfl⟩
  obtain ⟨m, hm⟩ : ∃ m, m = sh.length := ⟨_, rfl⟩
  obtain ⟨r, hr⟩ : ∃ r, r = we.length := ⟨_, rfl⟩
  rw [← hn] at HC HL ⊢
  rw [← hm] at HP HI ⊢
  rw [← hr] at HQ HJ ⊢
  clear hn hm hr hlen hsl hsb hgl hgb
  obtain ⟨W, hW⟩ : ∃ W, W = (w.alloc (Obj.cells #[.int .i64 v.sx, .int .i64 v.sy, .int .i64 v.dx, .int .i64 v.dy, .int .i64 N] 25)).alloc (Obj.cells #[.int .i64 u.ring, .int .i64 u.speed, .int .i64 u.loss, .int .i64 u.clear, .int .i64 u.soft] 27) := ⟨_, rfl⟩
  have hT0 : W.heap[w.heap.size]? = some (.cells #[.int .i64 v.sx, .int .i64 v.sy, .int .i64 v.dx, .int .i64 v.dy, .int .i64 N] 25 (0, 0)) := by rw [hW]; exact heap_old (by simp <;> omega) (heap_new (by simp))
  have h0_0 : W.cell? ⟨w.heap.size, 0, none⟩ = some (.int .i64 v.sx) := cell_at hT0 rfl
  have h0_1 : W.cell? ⟨w.heap.size, 1, none⟩ = some (.int .i64 v.sy) := cell_at hT0 rfl
  have h0_2 : W.cell? ⟨w.heap.size, 2, none⟩ = some (.int .i64 v.dx) := cell_at hT0 rfl
  have h0_3 : W.cell? ⟨w.heap.size, 3, none⟩ = some (.int .i64 v.dy) := cell_at hT0 rfl
  have h0_4 : W.cell? ⟨w.heap.size, 4, none⟩ = some (.int .i64 N) := cell_at hT0 rfl
  have hT1 : W.heap[w.heap.size + 1]? = some (.cells #[.int .i64 u.ring, .int .i64 u.speed, .int .i64 u.loss, .int .i64 u.clear, .int .i64 u.soft] 27 (0, 0)) := by rw [hW]; exact heap_new (by simp)
  have h1_0 : W.cell? ⟨w.heap.size + 1, 0, none⟩ = some (.int .i64 u.ring) := cell_at hT1 rfl
  have h1_1 : W.cell? ⟨w.heap.size + 1, 1, none⟩ = some (.int .i64 u.speed) := cell_at hT1 rfl
  have h1_2 : W.cell? ⟨w.heap.size + 1, 2, none⟩ = some (.int .i64 u.loss) := cell_at hT1 rfl
  have h1_3 : W.cell? ⟨w.heap.size + 1, 3, none⟩ = some (.int .i64 u.clear) := cell_at hT1 rfl
  have h1_4 : W.cell? ⟨w.heap.size + 1, 4, none⟩ = some (.int .i64 u.soft) := cell_at hT1 rfl
  have hs : w.heap.size + 2 = W.heap.size := by rw [hW]; simp
  have hB : Below w.heap.size w W := by rw [hW]; exact (((Below.refl _ _).alloc (by first | omega | (simp <;> omega)) _).alloc (by first | omega | (simp <;> omega)) _)
  have hs0 : w.heap.size < W.heap.size := by omega
  have hs1 : w.heap.size + 1 < W.heap.size := by omega
  clear hT0 hT1 hs
  go_enter Tryz.func42, Tryz.ntmps42
  go_wp2_with fail
  rw [← hW]
  clear hW
  refine (HC _ hB).out.mono ?_
  rintro e w1 ⟨rfl, hb1⟩
  have hB1 := fin0 hB hb1
  go_wp2_with fail
  refine (HP _ hB1).out.mono ?_
  rintro e w2 ⟨rfl, hb2⟩
  have hb12 := fin0 hb1 hb2
  have hB2 := fin0 hB hb12
  go_wp2_with fail
  refine (HQ _ hB2).out.mono ?_
  rintro e w3 ⟨rfl, hb3⟩
  have hb13 := fin0 hb12 hb3
  have hB3 := fin0 hB hb13
  obtain ⟨hcr, -⟩ := bcell hb13
  have e0 : w3.cell? ⟨w.heap.size, 0, none⟩ = some (.int .i64 v.sx) := (hcr _ _ hs0).trans h0_0
  have e1 : w3.cell? ⟨w.heap.size, 1, none⟩ = some (.int .i64 v.sy) := (hcr _ _ hs0).trans h0_1
  have e2 : w3.cell? ⟨w.heap.size, 2, none⟩ = some (.int .i64 v.dx) := (hcr _ _ hs0).trans h0_2
  have e3 : w3.cell? ⟨w.heap.size, 3, none⟩ = some (.int .i64 v.dy) := (hcr _ _ hs0).trans h0_3
  have e4 : w3.cell? ⟨w.heap.size, 4, none⟩ = some (.int .i64 N) := (hcr _ _ hs0).trans h0_4
  have f0 : w3.cell? ⟨w.heap.size + 1, 0, none⟩ = some (.int .i64 u.ring) := (hcr _ _ hs1).trans h1_0
  have f1 : w3.cell? ⟨w.heap.size + 1, 1, none⟩ = some (.int .i64 u.speed) := (hcr _ _ hs1).trans h1_1
  have f2 : w3.cell? ⟨w.heap.size + 1, 2, none⟩ = some (.int .i64 u.loss) := (hcr _ _ hs1).trans h1_2
  have f3 : w3.cell? ⟨w.heap.size + 1, 3, none⟩ = some (.int .i64 u.clear) := (hcr _ _ hs1).trans h1_3
  have f4 : w3.cell? ⟨w.heap.size + 1, 4, none⟩ = some (.int .i64 u.soft) := (hcr _ _ hs1).trans h1_4
  have y0 : w.heap.size < w3.heap.size := Nat.lt_of_lt_of_le hs0 hb13.size
  have y1 : w.heap.size + 1 < w3.heap.size := Nat.lt_of_lt_of_le hs1 hb13.size
  clear hcr hb1 hb2 hb3 hb12 hb13 hB1 hB2 h0_0 h0_1 h0_2 h0_3 h0_4 h1_0 h1_1 h1_2 h1_3 h1_4
  go_wp2_with (first | (go_at_call 92; refine (c92 _ 3 _ [Mo.all v u l, Mo.spans sh, Mo.spans we] _ rfl (by omega) ?_).mono ?_; (first | exact RdS.of_new (by simp) rfl | exact RdS.drew (RdS.of_new (by simp) rfl)); rintro e w' ⟨rfl, rfl⟩))
  refine (HL _ (hB3.alloc hB3.size _)).out.mono ?_
  rintro e w4 ⟨x, rfl, hx, hb4⟩
  obtain ⟨LA, lcap, rfl, hR⟩ := hx
  have hB5 := (hB3.alloc hB3.size _).call hb4 rfl
  have hw4 := hB5.size
  have HR := Lib.hid hR
  clear hR hb4 y0 y1 e0 e1 e2 e3 e4 f0 f1 f2 f3 f4
  clear HP HC HL HQ
  go_wp2
  go_loopw [14, 15] (fun x i wr => ∃ k : Nat, k ≤ N ∧ i = .int .i64 k ∧ wr.ownsRow w4.heap.size 188 3 x k ((Mo.ticksOf C k).flatMap Ent.enc) ∧ Below w.heap.size w wr ∧ Below w4.heap.size w4 wr) (fun _ i _ => N - (intOf i).toNat)
  case atStart => exact ⟨0, Nat.zero_le _, rfl, World.ownsRow_nil _ _ _ _, hB5, Below.refl _ _⟩
  case round =>
    obtain ⟨k, hk, rfl, hown, hBr, hBr4⟩ := hrel
    by_cases hlt : k < N
    · obtain ⟨lb, loff, hLA, hlb, hlc⟩ := (HR.out.below hBr4).at hlt
      have q0 : wr.cell? ⟨lb, loff + k, none⟩ = some (.int .i64 (Mo.level v u l k)) := by have := hlc 0 (by omega); simp only [Nat.mul_one, Nat.add_zero] at this; rw [this]; exact (hL2 k hlt).out
      have hCk := HCC.out k
      subst hLA
      clear hlc
      go_wp2_with fail
      refine (HJ k _ hBr).out.mono ?_
      rintro e wa ⟨rfl, hba⟩
      have hownA := own_below hown hba
      have hBA := hBr.call hba rfl
      have hBA4 := hBr4.call hba rfl
      cases hx : Mo.inSp we k
      · go_wp2_with fail
        refine (HI k _ hBA).out.mono ?_
        rintro e wb ⟨rfl, hbb⟩
        have hownB := own_below hownA hbb
        have hBB := hBA.call hbb rfl
        have hBB4 := hBA4.call hbb rfl
        have hba' := fin0 hba hbb
        have q1 := ((bcell hba').1 lb (loff + k) hlb).trans q0
        clear hownA hBA hBA4 hbb hba hba' hown
        cases hy : Mo.inSp sh k
        · have HCk : Hid (C k = { data := #[115, 104, 97, 114, 101] }) := by show _ = _; rw [hCk]; rw [hx, hy]; rfl
          have HS1 : Hid ((Mo.ticksOf C k).flatMap Ent.enc ++ [.int .i64 k, .int .i64 ((k : Int) + 1), .string { data := #[115, 104, 97, 114, 101] }] = (Mo.ticksOf C (k + 1)).flatMap Ent.enc) := by show _ = _; rw [Mo.ticksOf_succ, HCk.out]
          clear hCk
          have hown2 := hownB
          have hBz := hBB
          have hBz4 := hBB4
          have hsz := hBz4.size
          go_wp2_with (at_builtin; refine wpList_append_own _ rfl _ _ 79 rfl w4.heap.size 188 i0 (.agg #[.int .i64 0, .int .i64 0, .string ByteArray.empty]) 3 32 Tryz.underlying79 hi hz0 hz1 hz2 rfl (by decide) _ _ _ rfl (hown2.alloc _) ⟨wb.heap.size, 0, none⟩ 1 1 [.int .i64 k, .int .i64 ((k : Int) + 1), .string { data := #[115, 104, 97, 114, 101] }] rfl rfl (news_one _ _ rfl) (by intro x hx; simp at hx; first | (subst hx; rfl) | (rcases hx with rfl | rfl <;> rfl) | (rcases hx with rfl | rfl | rfl <;> rfl)) (by unfold maxLen; omega) (by omega) (by simp; omega) ?_)
          intro x' w3 hown3 hg3 _
          have hB3 : Below w.heap.size w w3 := (hBz.alloc hBz.size _).grown hg3 (by simp; omega) (fun g hg => by have := (hown2.lt g hg).1; omega)
          have hB34 : Below w4.heap.size w4 w3 := (hBz4.alloc hBz4.size _).grown hg3 (by simp; omega) (fun g hg => (hown2.lt g hg).1)
          rw [HS1.out] at hown3
          have HO := Lib.hid hown3
          clear hown3 hg3 hown2
          go_wp2
          go_roundw
          case rel => exact ⟨k + 1, by omega, by go_num, HO.out, hB3, hB34⟩
          case measure => simp [intOf]; omega
        · cases hz : (Mo.level v u l k == 0)
          · have HCk : Hid (C k = { data := #[115, 104, 111, 111, 116] }) := by show _ = _; rw [hCk]; rw [hx, hy, hz]; rfl
            have HS1 : Hid ((Mo.ticksOf C k).flatMap Ent.enc ++ [.int .i64 k, .int .i64 ((k : Int) + 1), .string { data := #[115, 104, 111, 111, 116] }] = (Mo.ticksOf C (k + 1)).flatMap Ent.enc) := by show _ = _; rw [Mo.ticksOf_succ, HCk.out]
            clear hCk
            have hown2 := hownB
            have hBz := hBB
            have hBz4 := hBB4
            have hsz := hBz4.size
            go_wp2_with (at_builtin; refine wpList_append_own _ rfl _ _ 79 rfl w4.heap.size 188 i0 (.agg #[.int .i64 0, .int .i64 0, .string ByteArray.empty]) 3 32 Tryz.underlying79 hi hz0 hz1 hz2 rfl (by decide) _ _ _ rfl (hown2.alloc _) ⟨wb.heap.size, 0, none⟩ 1 1 [.int .i64 k, .int .i64 ((k : Int) + 1), .string { data := #[115, 104, 111, 111, 116] }] rfl rfl (news_one _ _ rfl) (by intro x hx; simp at hx; first | (subst hx; rfl) | (rcases hx with rfl | rfl <;> rfl) | (rcases hx with rfl | rfl | rfl <;> rfl)) (by unfold maxLen; omega) (by omega) (by simp; omega) ?_)
            intro x' w3 hown3 hg3 _
            have hB3 : Below w.heap.size w w3 := (hBz.alloc hBz.size _).grown hg3 (by simp; omega) (fun g hg => by have := (hown2.lt g hg).1; omega)
            have hB34 : Below w4.heap.size w4 w3 := (hBz4.alloc hBz4.size _).grown hg3 (by simp; omega) (fun g hg => (hown2.lt g hg).1)
            rw [HS1.out] at hown3
            have HO := Lib.hid hown3
            clear hown3 hg3 hown2
            go_wp2
            go_roundw
            case rel => exact ⟨k + 1, by omega, by go_num, HO.out, hB3, hB34⟩
            case measure => simp [intOf]; omega
          · have HCk : Hid (C k = { data := #[97, 110, 105, 109, 97, 108] }) := by show _ = _; rw [hCk]; rw [hx, hy, hz]; rfl
            have HS1 : Hid ((Mo.ticksOf C k).flatMap Ent.enc ++ [.int .i64 k, .int .i64 ((k : Int) + 1), .string { data := #[97, 110, 105, 109, 97, 108] }] = (Mo.ticksOf C (k + 1)).flatMap Ent.enc) := by show _ = _; rw [Mo.ticksOf_succ, HCk.out]
            clear hCk
            have hown2 := hownB
            have hBz := hBB
            have hBz4 := hBB4
            have hsz := hBz4.size
            go_wp2_with (at_builtin; refine wpList_append_own _ rfl _ _ 79 rfl w4.heap.size 188 i0 (.agg #[.int .i64 0, .int .i64 0, .string ByteArray.empty]) 3 32 Tryz.underlying79 hi hz0 hz1 hz2 rfl (by decide) _ _ _ rfl (hown2.alloc _) ⟨wb.heap.size, 0, none⟩ 1 1 [.int .i64 k, .int .i64 ((k : Int) + 1), .string { data := #[97, 110, 105, 109, 97, 108] }] rfl rfl (news_one _ _ rfl) (by intro x hx; simp at hx; first | (subst hx; rfl) | (rcases hx with rfl | rfl <;> rfl) | (rcases hx with rfl | rfl | rfl <;> rfl)) (by unfold maxLen; omega) (by omega) (by simp; omega) ?_)
            intro x' w3 hown3 hg3 _
            have hB3 : Below w.heap.size w w3 := (hBz.alloc hBz.size _).grown hg3 (by simp; omega) (fun g hg => by have := (hown2.lt g hg).1; omega)
            have hB34 : Below w4.heap.size w4 w3 := (hBz4.alloc hBz4.size _).grown hg3 (by simp; omega) (fun g hg => (hown2.lt g hg).1)
            rw [HS1.out] at hown3
            have HO := Lib.hid hown3
            clear hown3 hg3 hown2
            go_wp2
            go_roundw
            case rel => exact ⟨k + 1, by omega, by go_num, HO.out, hB3, hB34⟩
            case measure => simp [intOf]; omega
      · clear hba hown
        have HCk : Hid (C k = { data := #[119, 101, 97, 116, 104, 101, 114] }) := by show _ = _; rw [hCk]; rw [hx]; rfl
        have HS1 : Hid ((Mo.ticksOf C k).flatMap Ent.enc ++ [.int .i64 k, .int .i64 ((k : Int) + 1), .string { data := #[119, 101, 97, 116, 104, 101, 114] }] = (Mo.ticksOf C (k + 1)).flatMap Ent.enc) := by show _ = _; rw [Mo.ticksOf_succ, HCk.out]
        clear hCk
        have hown2 := hownA
        have hBz := hBA
        have hBz4 := hBA4
        have hsz := hBz4.size
        go_wp2_with (at_builtin; refine wpList_append_own _ rfl _ _ 79 rfl w4.heap.size 188 i0 (.agg #[.int .i64 0, .int .i64 0, .string ByteArray.empty]) 3 32 Tryz.underlying79 hi hz0 hz1 hz2 rfl (by decide) _ _ _ rfl (hown2.alloc _) ⟨wa.heap.size, 0, none⟩ 1 1 [.int .i64 k, .int .i64 ((k : Int) + 1), .string { data := #[119, 101, 97, 116, 104, 101, 114] }] rfl rfl (news_one _ _ rfl) (by intro x hx; simp at hx; first | (subst hx; rfl) | (rcases hx with rfl | rfl <;> rfl) | (rcases hx with rfl | rfl | rfl <;> rfl)) (by unfold maxLen; omega) (by omega) (by simp; omega) ?_)
        intro x' w3 hown3 hg3 _
        have hB3 : Below w.heap.size w w3 := (hBz.alloc hBz.size _).grown hg3 (by simp; omega) (fun g hg => by have := (hown2.lt g hg).1; omega)
        have hB34 : Below w4.heap.size w4 w3 := (hBz4.alloc hBz4.size _).grown hg3 (by simp; omega) (fun g hg => (hown2.lt g hg).1)
        rw [HS1.out] at hown3
        have HO := Lib.hid hown3
        clear hown3 hg3 hown2
        go_wp2
        go_roundw
        case rel => exact ⟨k + 1, by omega, by go_num, HO.out, hB3, hB34⟩
        case measure => simp [intOf]; omega
    · obtain rfl : k = N := by omega
      obtain ⟨xA, xc, rfl⟩ : ∃ xA xc, u14 = .slice xA k xc := by
        rcases hown.2 with ⟨h, h'⟩ | ⟨g', cap', cur, h, _⟩
        · exact ⟨none, 0, by rw [h, h']⟩
        · exact ⟨_, cap', h⟩
      obtain ⟨xA', xc', hxe, hRx⟩ := Sl.of_own hown
      obtain ⟨rfl, -, rfl⟩ : xA = xA' ∧ k = k ∧ xc = xc' := by simpa using hxe
      clear hown hxe
      go_wp2_with fail
      refine (HM _ _ _ hRx).out.mono ?_
      rintro e wm ⟨x, rfl, ⟨mA, mc, rfl, hRm⟩, hbm⟩
      have hBm := hBr.call hbm rfl
      have HR := Lib.hid hRm
      clear hRm hRx HM HI HJ
      obtain ⟨Q, hQ⟩ : ∃ Q, Q = M.length := ⟨_, rfl⟩
      rw [← hQ] at hMl
      have HQ := Lib.hid hQ
      rw [← hQ]
      clear hQ
      by_cases hge : 64 < Q
      · have hcap : Hid (R = ([], 5)) := by show _ = _; rw [HRR.out]; unfold Mo.cap64; rw [if_pos (by rw [← HQ.out]; exact hge)]
        go_wp2
        go_ret2
        rw [hcap.out]
        exact ⟨_, rfl, ⟨none, 0, rfl, rfl, fun h => absurd h (by simp)⟩, hBm⟩
      · have hcap : Hid (R = (M, 0)) := by show _ = _; rw [HRR.out]; unfold Mo.cap64; rw [if_neg (by rw [← HQ.out]; exact hge)]
        have HSl : Hid (Sl wm 3 (.slice mA Q mc) M.length (M.flatMap Ent.enc)) := ⟨mA, mc, by rw [HQ.out], HR.out⟩
        go_wp2
        go_ret2
        rw [hcap.out]
        exact ⟨_, rfl, HSl.out, hBm⟩
theorem c42 (v : Ves) (u : Wat) (A : Option Addr) (cap : Nat) (l : List Sgt) (S : Option Addr) (scap : Nat) (sh : List Spn) (G : Option Addr) (gcap : Nat) (we : List Spn) (w : World) (hl : l.length ≤ 1000000) (hls : sh.length ≤ 1000000) (hlg : we.length ≤ 1000000) (H : RdL w 3 Sgt.enc A l) (HS : RdL w 2 Spn.enc S sh) (HG : RdL w 2 Spn.enc G we) :
    Calls Tryz.prog 42 #[.agg #[.int .i64 v.sx, .int .i64 v.sy, .int .i64 v.dx, .int .i64 v.dy, .int .i64 v.n], .agg #[.int .i64 u.ring, .int .i64 u.speed, .int .i64 u.loss, .int .i64 u.clear, .int .i64 u.soft], .slice A l.length cap, .slice S sh.length scap, .slice G we.length gcap] w fun en w' => ∃ x, en = .returned (.tuple #[x, .int .i64 (Mo.diary v u l sh we).2]) ∧ Sl w' 3 x (Mo.diary v u l sh we).1.length ((Mo.diary v u l sh we).1.flatMap Ent.enc) ∧ Below w.heap.size w w' := by
  unfold Mo.diary
  by_cases h : Mo.diaE v u l sh we = 0
  · rw [if_neg (by simp [h])]; exact c42_ok v u A cap l S scap sh G gcap we w H HS HG h
  · rw [if_pos h]; exact c42_bad v u A cap l S scap sh G gcap we w hl hls hlg H HS HG h

end Go.Proofs.YtndhjkammoeikaaGreatDoor
namespace Go.Proofs.YtndhjkammoeikaaGreatDoor
open Go.RowKit
set_option maxHeartbeats 1000000
set_option maxRecDepth 20000

theorem Spn.one (l : List Spn) : ∀ u ∈ l.flatMap Spn.enc, u.oneCell' = true := by
  intro u hu
  obtain ⟨a, _, ha⟩ := List.mem_flatMap.1 hu
  simp [Spn.enc] at ha
  rcases ha with rfl | rfl <;> rfl
theorem Ent.one (l : List Ent) : ∀ u ∈ l.flatMap Ent.enc, u.oneCell' = true := by
  intro u hu
  obtain ⟨a, _, ha⟩ := List.mem_flatMap.1 hu
  simp [Ent.enc] at ha
  rcases ha with rfl | rfl | rfl <;> rfl
theorem RdS.news {w : World} {size n : Nat} {ad : Addr} {xs : List Value} (h : RdS w size (some ad) n xs) (hs : 0 < size) : ∀ j u, xs[j]? = some u → w.cell? (ad.add j) = some u := by
  intro j u hu
  obtain ⟨h1, h2⟩ := h
  have hj : j < xs.length := (List.getElem?_eq_some_iff.1 hu).1
  have hn : 0 < n := by
    rcases Nat.eq_zero_or_pos n with h | h
    · subst h; omega
    · exact h
  obtain ⟨b, off, he, _, hc⟩ := h2 hn
  cases he
  have hadd : (⟨b, off, none⟩ : Addr).add j = ⟨b, off + j, none⟩ := by unfold Addr.add; split <;> simp_all
  rw [hadd, hc j hj, hu]
theorem RdS.none0 {w : World} {size n : Nat} {xs : List Value} (h : RdS w size none n xs) : n = 0 := by
  rcases Nat.eq_zero_or_pos n with h0 | h0
  · exact h0
  · obtain ⟨b, off, he, _⟩ := h.2 h0
    cases he
theorem c39 (A : Option Addr) (cap : Nat) (l : List Spn) (w : World) (hl : l.length ≤ 1000000) (H : RdL w 2 Spn.enc A l) (hnil : A = none → cap = 0) :
    Calls Tryz.prog 39 #[.slice A l.length cap] w fun en w' => ∃ x, en = .returned x ∧ Sl w' 2 x l.length (l.flatMap Spn.enc) ∧ Below w.heap.size w w' := by
  obtain ⟨i0, hi, hz0, hz1, hz2⟩ := info_parts info96
  have hown := World.ownsRow_made (base := w.heap.size) (e := 96) (size := 2) w #[] 0 (Nat.le_refl _) (by unfold maxLen; omega) rfl
  have hB : Below w.heap.size w (w.alloc (Obj.cells #[] 96)) := (Below.refl _ _).alloc (Nat.le_refl _) _
  cases A with
  | none =>
    have h0 := RdS.none0 H
    have hc0 := hnil rfl
    have hlen : (l.flatMap Spn.enc) = [] := List.eq_nil_of_length_eq_zero (by have := H.1; omega)
    rw [hlen, h0, hc0]
    clear H h0 hc0 hlen hnil hl
    go_enter Tryz.func39, Tryz.ntmps39
    go_wp2_with (at_builtin; refine wpList_append_own_none rfl _ _ 42 rfl w.heap.size 96 i0 2 Tryz.underlying42 hi _ _ _ rfl hown rfl ?_)
    go_ret
    exact ⟨_, rfl, Sl.of_own hown, hB⟩
  | some ad =>
    have hnews := RdS.news (RdL.below H hB) (by omega)
    have h1 := Spn.one l
    have hlx : (l.flatMap Spn.enc).length = l.length * 2 := H.1
    obtain ⟨xs, hxs⟩ : ∃ xs, xs = l.flatMap Spn.enc := ⟨_, rfl⟩
    obtain ⟨n, hn⟩ : ∃ n, n = l.length := ⟨_, rfl⟩
    rw [← hxs] at hnews h1 hlx ⊢
    rw [← hn] at hl hlx ⊢
    clear H hxs hn hnil
    go_enter Tryz.func39, Tryz.ntmps39
    go_wp2_with (at_builtin; refine wpList_append_own _ rfl _ _ 42 rfl w.heap.size 96 i0 (.agg #[.int .i64 0, .int .i64 0]) 2 16 Tryz.underlying42 hi hz0 hz1 hz2 rfl (by decide) _ _ _ rfl hown ad n cap xs rfl hlx hnews h1 (by unfold maxLen; omega) (by omega) (by simp) ?_)
    intro x' w3 hown3 hg3 _
    have hB3 : Below w.heap.size w w3 := hB.grown hg3 (by simp) (fun g hg => (hown.lt g hg).1)
    have HO : Hid (w3.ownsRow w.heap.size 96 2 x' n xs) := by show World.ownsRow _ _ _ _ _ _ _; simpa using hown3
    clear hown3 hg3 hown hnews
    go_wp2
    go_ret
    exact ⟨_, rfl, Sl.of_own HO.out, hB3⟩

theorem c51 (A : Option Addr) (cap : Nat) (l : List Ent) (w : World) (hl : l.length ≤ 1000000) (H : RdL w 3 Ent.enc A l) :
    Calls Tryz.prog 51 #[.slice A l.length cap] w fun en w' => RB (l.length ≤ 65 ∧ ∀ e ∈ l, e.c.size ≤ 40) en ∧ w = w' := by
  obtain ⟨n, hn⟩ : ∃ n, n = l.length := ⟨_, rfl⟩
  rw [← hn] at hl ⊢
  have Hn := Lib.hid hn
  clear hn
  go_enter Tryz.func51, Tryz.ntmps51
  go_wp2
  go_loop [3] (fun i => ∃ j : Nat, j ≤ n ∧ i = .int .i64 j ∧ ∀ e ∈ l.take j, e.c.size ≤ 40) (fun i => n - (intOf i).toNat)
  case atStart => exact ⟨0, Nat.zero_le _, rfl, by simp⟩
  case round =>
    obtain ⟨j, hj, rfl, he⟩ := hrel
    have HE := Lib.hid he
    clear he
    by_cases hlt : j < n
    · obtain ⟨b, off, s, rfl, hx, hb, hc⟩ := H.at Ent.len (by rw [← Hn.out]; exact hlt)
      have q0 : w.cell? ⟨b, off + j * 3 + 2, none⟩ = some (.string s.c) := hc 2 (by omega)
      have HT : Hid (l.take (j + 1) = l.take j ++ [s]) := by
        show _ = _
        obtain ⟨hk, rfl⟩ := List.getElem?_eq_some_iff.1 hx
        exact List.take_succ_eq_append_getElem hk
      clear hc hx
      by_cases h1 : s.c.size ≤ 40
      · have h2 : ¬ (40 : Int) < (s.c.size : Int) := by omega
        have HN : Hid (∀ e ∈ l.take (j + 1), e.c.size ≤ 40) := by
          show ∀ e ∈ _, _
          rw [HT.out]
          intro e he
          rcases List.mem_append.1 he with h | h
          · exact HE.out e h
          · simp at h; subst h; exact h1
        go_wp2
        go_round
        case rel => exact ⟨j+1, by omega, by go_num, HN.out⟩
        case measure => simp [intOf]; omega
      · have h2 : (40 : Int) < (s.c.size : Int) := by omega
        go_wp2
        go_ret
        exact ⟨⟨false, rfl, fun h => by simp at h⟩, rfl⟩
    · obtain rfl : j = n := by omega
      have HA : Hid (∀ e ∈ l, e.c.size ≤ 40) := by
        show ∀ e ∈ _, _
        have := HE.out
        rw [Hn.out, List.take_length] at this
        exact this
      rcases (show j ≤ 10 ∨ j = 65 ∨ (¬ j ≤ 10 ∧ j ≠ 65) by omega) with h | h | ⟨h, h2⟩
      · have h1 : (j : Int) ≤ 10 := by omega
        go_wp2
        go_ret
        exact ⟨⟨true, rfl, fun _ => ⟨by omega, HA.out⟩⟩, rfl⟩
      · have h1 : ¬ (j : Int) ≤ 10 := by omega
        have h3 : ((j : Int) == 65) = true := by simp; omega
        have h4 : Hid (j ≤ 65) := by show _ ≤ _; omega
        clear h
        go_wp2
        go_ret
        exact ⟨⟨true, rfl, fun _ => ⟨h4.out, HA.out⟩⟩, rfl⟩
      · have h1 : ¬ (j : Int) ≤ 10 := by omega
        have h3 : ((j : Int) == 65) = false := by simp; omega
        clear h h2
        go_wp2
        go_ret
        exact ⟨⟨false, rfl, fun h => by simp at h⟩, rfl⟩

theorem c64 (A : Option Addr) (cap : Nat) (l : List Res) (w : World) (hl : l.length ≤ 1000000) (H : RdL w 3 Res.enc A l) :
    Calls Tryz.prog 64 #[.slice A l.length cap] w fun en w' => RB (l.length ≤ 65 ∧ ∀ e ∈ l, e.n.size ≤ 40) en ∧ w = w' := by
  obtain ⟨n, hn⟩ : ∃ n, n = l.length := ⟨_, rfl⟩
  rw [← hn] at hl ⊢
  have Hn := Lib.hid hn
  clear hn
  go_enter Tryz.func64, Tryz.ntmps64
  go_wp2
  go_loop [3] (fun i => ∃ j : Nat, j ≤ n ∧ i = .int .i64 j ∧ ∀ e ∈ l.take j, e.n.size ≤ 40) (fun i => n - (intOf i).toNat)
  case atStart => exact ⟨0, Nat.zero_le _, rfl, by simp⟩
  case round =>
    obtain ⟨j, hj, rfl, he⟩ := hrel
    have HE := Lib.hid he
    clear he
    by_cases hlt : j < n
    · obtain ⟨b, off, s, rfl, hx, hb, hc⟩ := H.at Res.len (by rw [← Hn.out]; exact hlt)
      have q0 : w.cell? ⟨b, off + j * 3, none⟩ = some (.string s.n) := hc 0 (by omega)
      have HT : Hid (l.take (j + 1) = l.take j ++ [s]) := by
        show _ = _
        obtain ⟨hk, rfl⟩ := List.getElem?_eq_some_iff.1 hx
        exact List.take_succ_eq_append_getElem hk
      clear hc hx
      by_cases h1 : s.n.size ≤ 40
      · have h2 : ¬ (40 : Int) < (s.n.size : Int) := by omega
        have HN : Hid (∀ e ∈ l.take (j + 1), e.n.size ≤ 40) := by
          show ∀ e ∈ _, _
          rw [HT.out]
          intro e he
          rcases List.mem_append.1 he with h | h
          · exact HE.out e h
          · simp at h; subst h; exact h1
        go_wp2
        go_round
        case rel => exact ⟨j+1, by omega, by go_num, HN.out⟩
        case measure => simp [intOf]; omega
      · have h2 : (40 : Int) < (s.n.size : Int) := by omega
        go_wp2
        go_ret
        exact ⟨⟨false, rfl, fun h => by simp at h⟩, rfl⟩
    · obtain rfl : j = n := by omega
      have HA : Hid (∀ e ∈ l, e.n.size ≤ 40) := by
        show ∀ e ∈ _, _
        have := HE.out
        rw [Hn.out, List.take_length] at this
        exact this
      rcases (show j ≤ 8 ∨ j = 65 ∨ (¬ j ≤ 8 ∧ j ≠ 65) by omega) with h | h | ⟨h, h2⟩
      · have h1 : (j : Int) ≤ 8 := by omega
        go_wp2
        go_ret
        exact ⟨⟨true, rfl, fun _ => ⟨by omega, HA.out⟩⟩, rfl⟩
      · have h1 : ¬ (j : Int) ≤ 8 := by omega
        have h3 : ((j : Int) == 65) = true := by simp; omega
        have h4 : Hid (j ≤ 65) := by show _ ≤ _; omega
        clear h
        go_wp2
        go_ret
        exact ⟨⟨true, rfl, fun _ => ⟨h4.out, HA.out⟩⟩, rfl⟩
      · have h1 : ¬ (j : Int) ≤ 8 := by omega
        have h3 : ((j : Int) == 65) = false := by simp; omega
        clear h h2
        go_wp2
        go_ret
        exact ⟨⟨false, rfl, fun h => by simp at h⟩, rfl⟩

theorem c63 (A : Option Addr) (cap : Nat) (l : List Ent) (w : World) (hl : l.length ≤ 1000000) (H : RdL w 3 Ent.enc A l) :
    Calls Tryz.prog 63 #[.slice A l.length cap] w fun en w' => RB True en ∧ Below w.heap.size w w' := by
  obtain ⟨n, hn⟩ : ∃ n, n = l.length := ⟨_, rfl⟩
  rw [← hn] at hl ⊢
  have Hn := Lib.hid hn
  clear hn
  go_enter Tryz.func63, Tryz.ntmps63
  go_wp2
  go_loopw [3, 4] (fun z i wr => ∃ (j : Nat) (q : Int), j ≤ n ∧ i = .int .i64 j ∧ z = .int .i64 q ∧ Below w.heap.size w wr) (fun _ i _ => n - (intOf i).toNat)
  case atStart => exact ⟨0, 0, Nat.zero_le _, rfl, rfl, Below.refl _ _⟩
  case round =>
    obtain ⟨j, q, hj, rfl, rfl, hB⟩ := hrel
    by_cases hlt : j < n
    · obtain ⟨b, off, s, rfl, hx, hb, hc⟩ := (H.below hB).at Ent.len (by rw [← Hn.out]; exact hlt)
      have q0 : wr.cell? ⟨b, off + j * 3, none⟩ = some (.int .i64 s.f) := hc 0 (by omega)
      have q1 : wr.cell? ⟨b, off + j * 3 + 1, none⟩ = some (.int .i64 s.t) := hc 1 (by omega)
      clear hc hx
      go_wp2_with fail
      refine (c111 s.f s.t _).mono ?_
      rintro e w1 ⟨rfl, hb1⟩
      have p0 := ((bcell hb1).1 _ _ hb).trans q0
      have p1 := ((bcell hb1).1 _ _ hb).trans q1
      have hB1 := hB.call hb1 rfl
      have hbw : b < w1.heap.size := Nat.lt_of_lt_of_le hb hb1.size
      clear hb1 q0 q1
      cases hbad : Mo.badSpan s.f s.t
      · go_wp2
        refine wp_region_growG (by kernel_rfl) (by kernel_rfl) ?_
        repeat (go_big_quiet_step ((first | fail)))
        refine wpQuiet_nil (gw_out ?_)
        intro w2 hb2
        have hB2 := hB1.call hb2 rfl
        go_wp2
        go_roundw
        case rel => exact ⟨j+1, _, by omega, by go_num, rfl, hB2⟩
        case measure => simp [intOf]; omega
      · go_wp2
        go_ret
        exact ⟨⟨true, rfl, fun _ => trivial⟩, hB1⟩
    · obtain rfl : j = n := by omega
      by_cases h : q ≤ 3000
      · go_wp2
        go_ret
        exact ⟨⟨true, rfl, fun _ => trivial⟩, hB⟩
      · go_wp2
        go_ret
        exact ⟨⟨false, rfl, fun _ => trivial⟩, hB⟩

end Go.Proofs.YtndhjkammoeikaaGreatDoor
/- The map of causes. -/
namespace Go.Proofs.YtndhjkammoeikaaGreatDoor
open Go.RowKit Go.Maps
set_option maxHeartbeats 1000000
set_option maxRecDepth 20000
namespace Mo
def cs (k : Nat) : ByteArray := causes[k]?.getD ByteArray.empty
def numZ (c : ByteArray) : Int := if 0 ≤ num c then num c else 0
end Mo
def numsD : Nat → DataW Unit
  | 0 => .map []
  | k+1 => (numsD k).put (.string (Mo.cs k).data.toList) (.lit (.int .i64 k))
theorem law9 : Keyed Tryz.prog 9 := string_keyed Tryz.underlying9
theorem zero3 (w : World) : (zeroValue 3).run Tryz.prog w = .ok (.int .i64 0) w := by kernel_rfl
/-- block b is the map of the causes' numbers -/
def Nums (w : World) (b : Nat) : Prop := w.ownsMap Tryz.prog 9 (plainElem (H := Unit) Tryz.prog 3) b 6 (numsD 6)
theorem Nums.lt {w : World} {b : Nat} (h : Nums w b) : b < w.heap.size := World.ownsMap.lt h
theorem Nums.below {w w' : World} {b : Nat} (h : Nums w b) (hb : Below w.heap.size w w') : Nums w' b := World.ownsMap.kept h (grownBy_of_below hb none) (by simp)
theorem bytes_ext {a b : ByteArray} (h : a.data.toList = b.data.toList) : a = b := by
  cases a; cases b; simp at h; rw [h]
theorem num_ne (c : ByteArray) (h : ∀ x ∈ Mo.causes, x ≠ c) : Mo.num c = -1 := by
  have hne : ∀ x ∈ Mo.causes, (x.toList == c.toList) = false := fun x hx => by
    rw [beq_eq_false_iff_ne]
    intro e
    rw [ByteArray.toList_eq, ByteArray.toList_eq] at e
    exact h x hx (bytes_ext e)
  unfold Mo.num
  have key : ∀ (l : List ByteArray) (k : Nat), (∀ x ∈ l, (x.toList == c.toList) = false) → Mo.idxN c l k = -1 := by
    intro l
    induction l with
    | nil => intros; rfl
    | cons a l ih =>
      intro k hl
      unfold Mo.idxN
      rw [hl a (by simp)]
      simp only [Bool.false_eq_true, if_false]
      exact ih _ (fun x hx => hl x (by simp [hx]))
  exact key _ _ hne
theorem num_cases (c : ByteArray) : c = Mo.shoot ∨ c = Mo.turn ∨ c = Mo.weather ∨ c = Mo.animal ∨ c = Mo.gear ∨ c = Mo.share ∨ (∀ x ∈ Mo.causes, x ≠ c) := by
  by_cases h0 : c = Mo.shoot; · exact .inl h0
  by_cases h1 : c = Mo.turn; · exact .inr (.inl h1)
  by_cases h2 : c = Mo.weather; · exact .inr (.inr (.inl h2))
  by_cases h3 : c = Mo.animal; · exact .inr (.inr (.inr (.inl h3)))
  by_cases h4 : c = Mo.gear; · exact .inr (.inr (.inr (.inr (.inl h4))))
  by_cases h5 : c = Mo.share; · exact .inr (.inr (.inr (.inr (.inr (.inl h5)))))
  refine .inr (.inr (.inr (.inr (.inr (.inr ?_)))))
  intro x hx
  simp only [Mo.causes, List.mem_cons, List.mem_nil_iff, or_false] at hx
  rcases hx with rfl | rfl | rfl | rfl | rfl | rfl
  · exact fun e => h0 e.symm
  · exact fun e => h1 e.symm
  · exact fun e => h2 e.symm
  · exact fun e => h3 e.symm
  · exact fun e => h4 e.symm
  · exact fun e => h5 e.symm
theorem numsD_keys : numsD 6 = .map [(.string Mo.animal.data.toList, .lit (.int .i64 3)), (.string Mo.gear.data.toList, .lit (.int .i64 4)), (.string Mo.share.data.toList, .lit (.int .i64 5)), (.string Mo.shoot.data.toList, .lit (.int .i64 0)), (.string Mo.turn.data.toList, .lit (.int .i64 1)), (.string Mo.weather.data.toList, .lit (.int .i64 2))] := by
  rfl
theorem num_shoot : Mo.num Mo.shoot = 0 := by simp only [Mo.num, Mo.causes, Mo.idxN, ByteArray.toList_eq]; rfl
theorem num_turn : Mo.num Mo.turn = 1 := by simp only [Mo.num, Mo.causes, Mo.idxN, ByteArray.toList_eq]; rfl
theorem num_weather : Mo.num Mo.weather = 2 := by simp only [Mo.num, Mo.causes, Mo.idxN, ByteArray.toList_eq]; rfl
theorem num_animal : Mo.num Mo.animal = 3 := by simp only [Mo.num, Mo.causes, Mo.idxN, ByteArray.toList_eq]; rfl
theorem num_gear : Mo.num Mo.gear = 4 := by simp only [Mo.num, Mo.causes, Mo.idxN, ByteArray.toList_eq]; rfl
theorem num_share : Mo.num Mo.share = 5 := by simp only [Mo.num, Mo.causes, Mo.idxN, ByteArray.toList_eq]; rfl
theorem numsD_find (c : ByteArray) : Maps.has (numsD 6) (.string c.data.toList) = decide (0 ≤ Mo.num c) ∧ (numsD 6).atKey (.string c.data.toList) (.lit (.int .i64 0)) = .lit (.int .i64 (Mo.numZ c)) := by
  rcases num_cases c with rfl | rfl | rfl | rfl | rfl | rfl | h
  · rw [num_shoot, Mo.numZ, num_shoot]; exact ⟨by rw [numsD_keys]; decide, by rw [numsD_keys]; rfl⟩
  · rw [num_turn, Mo.numZ, num_turn]; exact ⟨by rw [numsD_keys]; decide, by rw [numsD_keys]; rfl⟩
  · rw [num_weather, Mo.numZ, num_weather]; exact ⟨by rw [numsD_keys]; decide, by rw [numsD_keys]; rfl⟩
  · rw [num_animal, Mo.numZ, num_animal]; exact ⟨by rw [numsD_keys]; decide, by rw [numsD_keys]; rfl⟩
  · rw [num_gear, Mo.numZ, num_gear]; exact ⟨by rw [numsD_keys]; decide, by rw [numsD_keys]; rfl⟩
  · rw [num_share, Mo.numZ, num_share]; exact ⟨by rw [numsD_keys]; decide, by rw [numsD_keys]; rfl⟩
  · have hn := num_ne c h
    have hz : Mo.numZ c = 0 := by unfold Mo.numZ; rw [hn]; rfl
    have hf : ∀ x ∈ Mo.causes, (x.data.toList == c.data.toList) = false := fun x hx => by
      rw [beq_eq_false_iff_ne]
      exact fun e => h x hx (bytes_ext e)
    have f0 := hf Mo.shoot (by simp [Mo.causes])
    have f1 := hf Mo.turn (by simp [Mo.causes])
    have f2 := hf Mo.weather (by simp [Mo.causes])
    have f3 := hf Mo.animal (by simp [Mo.causes])
    have f4 := hf Mo.gear (by simp [Mo.causes])
    have f5 := hf Mo.share (by simp [Mo.causes])
    rw [hn, hz, numsD_keys]
    constructor
    · simp only [Maps.has, List.any_cons, List.any_nil, Lit.sameKey, f0, f1, f2, f3, f4, f5]; rfl
    · simp only [DataW.atKey, List.find?_cons, List.find?_nil, Lit.sameKey, f0, f1, f2, f3, f4, f5]
theorem keyS {s : ByteArray} (h : s.size ≤ maxLen) : keyOf Tryz.prog 9 (.string s) = some (.string s.data.toList) := by
  simp [Go.keyOf, Tryz.underlying9, mapKey, h]
theorem Nums.look {w : World} {b : Nat} (h : Nums w b) (c : ByteArray) (hc : c.size ≤ 1000000) : (Instr.lookup 194 (.map (some b)) (.string c) false).run Tryz.prog w = .ok (.int .i64 (Mo.numZ c)) w := by
  obtain ⟨v, hrun, hat, _⟩ := World.ownsMap.lookup_int h law9 Tryz.underlying194 Tryz.underlying3 (zero3 w) (keyS (s := c) (by unfold maxLen; omega))
  rw [(numsD_find c).2] at hat
  have : Mo.numZ c = v := by injection hat with h1; injection h1
  rw [hrun, this]
theorem Nums.lookok {w : World} {b : Nat} (h : Nums w b) (c : ByteArray) (hc : c.size ≤ 1000000) : (Instr.lookup 194 (.map (some b)) (.string c) true).run Tryz.prog w = .ok (.tuple #[.int .i64 (Mo.numZ c), .bool (decide (0 ≤ Mo.num c))]) w := by
  obtain ⟨v, ps, hrun, hv⟩ := World.ownsMap.look_ok h law9 Tryz.underlying194 (zero3 w) (plainElem_int Tryz.underlying3 (by decide)) (keyS (s := c) (by unfold maxLen; omega))
  obtain ⟨x, rfl, hx, _⟩ := plainElem_int_inv Tryz.underlying3 hv
  have hx1 := (numsD_find c).2.symm.trans (congrArg Prod.fst hx)
  have : Mo.numZ c = x := by
    have h1 : (DataW.lit (Lit.int .i64 (Mo.numZ c)) : DataW Unit) = DataW.lit (Lit.int .i64 x) := hx1
    injection h1 with h1; injection h1
  rw [hrun, (numsD_find c).1, this]
theorem cs_get (k : Nat) (h : k < 6) : (Mo.causes.map Value.string).toArray[k]? = some (.string (Mo.cs k)) ∧ (Mo.cs k).size ≤ 10 ∧ (Lit.int .i64 (k : Int)).wf = true := by
  match k, h with
  | 0, _ => exact ⟨rfl, by decide, by decide⟩
  | 1, _ => exact ⟨rfl, by decide, by decide⟩
  | 2, _ => exact ⟨rfl, by decide, by decide⟩
  | 3, _ => exact ⟨rfl, by decide, by decide⟩
  | 4, _ => exact ⟨rfl, by decide, by decide⟩
  | 5, _ => exact ⟨rfl, by decide, by decide⟩
theorem c117 (w : World) : Calls Tryz.prog 117 #[] w fun en w' => ∃ b : Nat, en = .returned (.map (some b)) ∧ Nums w' b ∧ w.heap.size ≤ b ∧ Below w.heap.size w w' := by
  have hmm := @run_makeMap Tryz.prog
  have HC := fun W => Lib.hid (c60 W)
  have hB0 : Below w.heap.size w (w.alloc (.map #[] 0)) := (Below.refl _ _).alloc (Nat.le_refl _) _
  have hm0 : (w.alloc (.map #[] 0)).ownsMap Tryz.prog 9 (plainElem (H := Unit) Tryz.prog 3) w.heap.size 0 (numsD 0) := World.ownsMap_made _ _ _ _
  go_enter Tryz.func117, Tryz.ntmps117
  go_wp2_with fail
  refine (HC _).out.mono ?_
  rintro e w1 ⟨g, rfl, hg, hge, hb1⟩
  have hm1 := hm0.kept (grownBy_of_below hb1 none) (by simp)
  have hB1 := hB0.call hb1 rfl
  simp at hge
  clear hm0 hB0 hb1
  go_wp2
  go_loopw [7] (fun i wr => ∃ k : Nat, k ≤ 6 ∧ i = .int .i64 k ∧ wr.ownsMap Tryz.prog 9 (plainElem (H := Unit) Tryz.prog 3) w.heap.size k (numsD k) ∧ wr.heap[g]? = some (.cells (Mo.causes.map Value.string).toArray 9 (0, 0)) ∧ Below w.heap.size w wr) (fun i _ => 6 - (intOf i).toNat)
  case atStart => exact ⟨0, Nat.zero_le _, rfl, hm1, hg, hB1⟩
  case round =>
    obtain ⟨k, hk, rfl, hown, hgr, hB⟩ := hrel
    by_cases hlt : k < 6
    · obtain ⟨hk1, hk2, hk3⟩ := cs_get k hlt
      have q0 : wr.cell? ⟨g, k, none⟩ = some (.string (Mo.cs k)) := cell_at hgr hk1
      have hkey := keyS (s := Mo.cs k) (by unfold maxLen; omega)
      have hgl : g < wr.heap.size := (Array.getElem?_eq_some_iff.1 hgr).1
      go_wp2_with (first | (at_mapUpdate; refine wpList_mapUpdate_own _ rfl _ _ _ 194 rfl 9 3 law9 Tryz.underlying194 _ w.heap.size k _ rfl hown (by unfold maxLen; omega) _ _ _ rfl rfl hkey _ [] (plainElem_int Tryz.underlying3 hk3) ?_; intro w1 hown1 hgrow1) | go_in)
      have hg2 := (hgrow1.block g hgl (by simp; omega)).trans hgr
      have hB2 : Below w.heap.size w w1 := hB.grown hgrow1 hB.size (fun j hj => by cases hj; exact Nat.le_refl _)
      have hlt' : (k : Int) < 6 := by omega
      go_wp2
      go_roundw
      case rel => exact ⟨k + 1, by omega, by go_num, hown1, hg2, hB2⟩
      case measure => simp [intOf]; omega
    · obtain rfl : k = 6 := by omega
      go_wp2
      go_ret
      exact ⟨_, rfl, hown, Nat.le_refl _, hB⟩
end Go.Proofs.YtndhjkammoeikaaGreatDoor
namespace Go.Proofs.YtndhjkammoeikaaGreatDoor
namespace Mo
def ent1 (l : List Ent) (k : Nat) : Int := match l[k]? with
  | some s => first [when (badSpan s.f s.t) 14, when (!(decide (0 ≤ num s.c))) 13, when (decide (0 < k ∧ s.f < ((l[k-1]?).getD ⟨0,0,ByteArray.empty⟩).t)) 11]
  | none => 0
def entries (l : List Ent) : Int := each l.length 64 (ent1 l)
theorem ent1_eq {l : List Ent} {k : Nat} {s : Ent} (h : l[k]? = some s) (c : Bool) (hc : decide (0 < k ∧ s.f < ((l[k-1]?).getD ⟨0,0,ByteArray.empty⟩).t) = c) :
    ent1 l k = if badSpan s.f s.t = true then 14 else if num s.c < 0 then 13 else when c 11 := by
  unfold ent1; rw [h]; simp only []
  rw [hc]
  by_cases hn : num s.c < 0
  · have : decide (0 ≤ num s.c) = false := by simp; omega
    rw [this]
    cases hb : badSpan s.f s.t <;> simp [first, when, hn]
  · have : decide (0 ≤ num s.c) = true := by simp; omega
    rw [this]
    cases hb : badSpan s.f s.t <;> cases c <;> simp [first, when, hn]
structure EOk (e : Ent) : Prop where
  b : 0 ≤ e.f ∧ e.f < e.t ∧ e.t ≤ 100000
  n : 0 ≤ num e.c ∧ num e.c < 6
theorem num_lt (c : ByteArray) : num c < 6 := by
  rcases num_cases c with rfl | rfl | rfl | rfl | rfl | rfl | h
  · rw [num_shoot]; decide
  · rw [num_turn]; decide
  · rw [num_weather]; decide
  · rw [num_animal]; decide
  · rw [num_gear]; decide
  · rw [num_share]; decide
  · rw [num_ne c h]; decide
theorem num_size {c : ByteArray} (h : 0 ≤ num c) : c.size ≤ 10 := by
  rcases num_cases c with rfl | rfl | rfl | rfl | rfl | rfl | h'
  · decide
  · decide
  · decide
  · decide
  · decide
  · decide
  · rw [num_ne c h'] at h; cases h
theorem entries_ok {l : List Ent} (h : entries l = 0) : l.length ≤ 64 ∧ (∀ e ∈ l, EOk e) ∧ ∀ (k : Nat) e, l[k]? = some e → 0 < k → ((l[k-1]?).getD ⟨0,0,ByteArray.empty⟩).t ≤ e.f := by
  obtain ⟨h1, h2⟩ := each_zero h
  refine ⟨h1, fun s hs => ?_, fun k e he hk => ?_⟩
  · obtain ⟨k, hk, rfl⟩ := List.mem_iff_getElem.1 hs
    have h3 := h2 k hk
    rw [ent1_eq (List.getElem?_eq_getElem hk) _ rfl] at h3
    split at h3
    · cases h3
    · rename_i hb
      split at h3
      · cases h3
      · rename_i hn
        unfold badSpan at hb
        simp at hb
        have hlt := num_lt l[k].c
        exact ⟨by omega, by omega, hlt⟩
  · have hk' := (List.getElem?_eq_some_iff.1 he).1
    have h3 := h2 k hk'
    rw [ent1_eq he _ rfl] at h3
    split at h3
    · cases h3
    · split at h3
      · cases h3
      · have := when_zero (by decide) h3
        simp at this
        have := this hk
        simpa using this
end Mo
end Go.Proofs.YtndhjkammoeikaaGreatDoor
namespace Go.Proofs.YtndhjkammoeikaaGreatDoor
open Go.RowKit
set_option maxHeartbeats 1000000
set_option maxRecDepth 20000

theorem c119 (A : Option Addr) (cap : Nat) (l : List Ent) (pm pb bm k : Nat) (s : Ent) (w : World) (hlen : l.length ≤ 1000000) (hpb : pb < w.heap.size) (hp : w.cell? ⟨pb, 0, none⟩ = some (.slice A l.length cap))
    (hpm : pm < w.heap.size) (hpmc : w.cell? ⟨pm, 0, none⟩ = some (.map (some bm))) (hN : Nums w bm) (hsz : s.c.size ≤ 1000000)
    (H : RdL w 3 Ent.enc A l) (hk : l[k]? = some s) : Calls Tryz.prog 119 #[.int .i64 k, .agg #[.int .i64 s.f, .int .i64 s.t, .string s.c], .pointer (some ⟨pm, 0, none⟩), .pointer (some ⟨pb, 0, none⟩)] w fun en w' => en = .returned (.int .i64 (Mo.ent1 l k)) ∧ Below w.heap.size w w' := by
  have hkl : k < l.length := (List.getElem?_eq_some_iff.1 hk).1
  obtain ⟨n, hn⟩ : ∃ n, n = l.length := ⟨_, rfl⟩
  rw [← hn] at hp hlen hkl
  have Hn := Lib.hid hn
  have Hk := Lib.hid hk
  clear hn hk
  obtain ⟨W, hW⟩ : ∃ W, W = w.alloc (Obj.cells #[.int .i64 s.f, .int .i64 s.t, .string s.c] 134) := ⟨_, rfl⟩
  have hk0 : W.cell? ⟨w.heap.size, 0, none⟩ = some (.int .i64 s.f) := by simp [hW]
  have hk1 : W.cell? ⟨w.heap.size, 1, none⟩ = some (.int .i64 s.t) := by simp [hW]
  have hk2 : W.cell? ⟨w.heap.size, 2, none⟩ = some (.string s.c) := by simp [hW]
  have hkp : W.cell? ⟨pb, 0, none⟩ = some (.slice A n cap) := by rw [hW, World.cell?_alloc_lt _ _ _ hpb]; exact hp
  have hkm : W.cell? ⟨pm, 0, none⟩ = some (.map (some bm)) := by rw [hW, World.cell?_alloc_lt _ _ _ hpm]; exact hpmc
  have hs : w.heap.size < W.heap.size := by simp [hW]
  have hpW : pb < W.heap.size := by omega
  have hB : Below w.heap.size w W := by rw [hW]; exact (Below.refl _ _).alloc (Nat.le_refl _) _
  have HW := H.below hB
  have hlk := (hN.below hB).lookok s.c hsz
  have hlk' := hlk
  have hkm' := hkm
  rw [hW] at hlk' hkm'
  clear H hp hN hsz hlk
  rcases Nat.eq_zero_or_pos k with hk0' | hk0'
  · subst hk0'
    have hfin : Hid (Mo.ent1 l 0 = Mo.first [Mo.when (Mo.badSpan s.f s.t) 14, Mo.when (!(decide (0 ≤ Mo.num s.c))) 13, Mo.when false 11]) := by show _ = _; unfold Mo.ent1; rw [Hk.out]; simp
    clear HW
    go_enter Tryz.func119, Tryz.ntmps119
    go_wp2
    rw [← hW]
    clear hW hlk' hkm'
    refine wp_region_splitG 19 (by kernel_rfl) (by kernel_rfl) ?_
    simp only [List.take_succ_cons, List.take_zero, List.drop_succ_cons, List.drop_zero]
    repeat (go_big_quiet_step ((first | (go_at_call 120; exact Calls.gw_of (c120 _ _ _)) | (go_at_call 100; exact Calls.gw_same (c100 _ _ _)))))
    refine wpQuiet_nil (gw_out ?_)
    intro w1 hb1
    go_wp2_with (first | (go_at_call 94; refine (c94 _ 3 _ [Mo.when (Mo.badSpan s.f s.t) 14, Mo.when (!(decide (0 ≤ Mo.num s.c))) 13, Mo.when false 11] _ rfl (by omega) ?_).mono ?_; (first | exact RdS.of_new (by simp) rfl | exact RdS.drew (RdS.of_new (by simp) rfl)); rintro e w' ⟨rfl, rfl⟩))
    all_goals go_ret
    all_goals exact ⟨ret_int hfin.out.symm, fin1 hB hb1 _⟩
  · obtain ⟨b, off, q, rfl, hq, hb, hc⟩ := HW.at Ent.len (k := k - 1) (by rw [← Hn.out]; omega)
    have hq0 : W.cell? ⟨b, off + (k - 1) * 3, none⟩ = some (.int .i64 q.f) := hc 0 (by omega)
    have hq1 : W.cell? ⟨b, off + (k - 1) * 3 + 1, none⟩ = some (.int .i64 q.t) := hc 1 (by omega)
    have hq2 : W.cell? ⟨b, off + (k - 1) * 3 + 2, none⟩ = some (.string q.c) := hc 2 (by omega)
    have Hq := Lib.hid hq
    have HO := Lib.hid (c121 q s)
    clear hc hq HW
    have hmx : (if (1:Int) < (k:Int) then (k:Int) - 1 else 0).toNat = k - 1 := by split <;> omega
    have hfin : Hid (Mo.ent1 l k = Mo.first [Mo.when (Mo.badSpan s.f s.t) 14, Mo.when (!(decide (0 ≤ Mo.num s.c))) 13, Mo.when (decide (s.f < q.t)) 11]) := by show _ = _; unfold Mo.ent1; rw [Hk.out, Hq.out]; simp [hk0']
    go_enter Tryz.func119, Tryz.ntmps119
    go_wp2
    rw [← hW]
    clear hW hlk' hkm'
    refine wp_region_splitG 19 (by kernel_rfl) (by kernel_rfl) ?_
    simp only [List.take_succ_cons, List.take_zero, List.drop_succ_cons, List.drop_zero]
    repeat (go_big_quiet_step ((first | (go_at_call 120; exact Calls.gw_of (c120 _ _ _)) | (go_at_call 100; exact Calls.gw_same (c100 _ _ _)) | (go_at_call 121; exact Calls.gw_of ((HO.out _))))))
    refine wpQuiet_nil (gw_out ?_)
    intro w1 hb1
    go_wp2_with (first | (go_at_call 94; refine (c94 _ 3 _ [Mo.when (Mo.badSpan s.f s.t) 14, Mo.when (!(decide (0 ≤ Mo.num s.c))) 13, Mo.when (decide (s.f < q.t)) 11] _ rfl (by omega) ?_).mono ?_; (first | exact RdS.of_new (by simp) rfl | exact RdS.drew (RdS.of_new (by simp) rfl)); rintro e w' ⟨rfl, rfl⟩))
    all_goals go_ret
    all_goals exact ⟨ret_int hfin.out.symm, fin1 hB hb1 _⟩
theorem c62 (A : Option Addr) (cap : Nat) (l : List Ent) (w : World) (hlen : l.length ≤ 1000000) (hsz : ∀ e ∈ l, e.c.size ≤ 1000000) (H : RdL w 3 Ent.enc A l) :
    Calls Tryz.prog 62 #[.slice A l.length cap] w fun en w' => en = .returned (.int .i64 (Mo.entries l)) ∧ Below w.heap.size w w' := by
  have hB0 : Below w.heap.size w (w.alloc (Obj.cells #[.slice A l.length cap] 74)) := (Below.refl _ _).alloc (Nat.le_refl _) _
  have HC : ∀ w1 b, Below (w.heap.size + 1) (w.alloc (Obj.cells #[.slice A l.length cap] 74)) w1 → Nums w1 b → Hid (Calls Tryz.prog 118 #[.slice A l.length cap, .int .i64 64, .func (.func 119) #[] #[.pointer (some ⟨w1.heap.size, 0, none⟩), .pointer (some ⟨w.heap.size, 0, none⟩)]] (w1.alloc (Obj.cells #[.map (some b)] 194)) fun en w' => en = .returned (.int .i64 (Mo.each l.length 64 (Mo.ent1 l))) ∧ Below (w1.alloc (Obj.cells #[.map (some b)] 194)).heap.size (w1.alloc (Obj.cells #[.map (some b)] 194)) w') := fun w1 b h1 hN => by
    obtain ⟨W, hW⟩ : ∃ W, W = w1.alloc (Obj.cells #[.map (some b)] 194) := ⟨_, rfl⟩
    have hz1 := h1.size
    simp at hz1
    have hb2 : Below w1.heap.size w1 W := by rw [hW]; exact (Below.refl _ _).alloc (Nat.le_refl _) _
    have hNW := hN.below hb2
    have hm : W.cell? ⟨w1.heap.size, 0, none⟩ = some (.map (some b)) := by simp [hW]
    have hmz : w1.heap.size < W.heap.size := by simp [hW]
    have hc : W.cell? ⟨w.heap.size, 0, none⟩ = some (.slice A l.length cap) := ((bcell hb2).1 _ _ (by omega)).trans ((h1.cell (p := ⟨w.heap.size, 0, none⟩) (Nat.lt_succ_self _)).trans (by simp))
    have hBW : Below w.heap.size w W := hB0.trans ((h1.mono (Nat.le_succ _)).trans (hb2.mono (by omega)))
    rw [← hW]
    refine Lib.hid (c118 A cap l 64 ⟨w1.heap.size, 0, none⟩ ⟨w.heap.size, 0, none⟩ (Mo.ent1 l) W (by omega) hlen (H.below hBW) (fun k W' x hx _ hb => ?_))
    exact c119 A cap l w1.heap.size w.heap.size b k x W' hlen (by have := hb.size; omega) ((hb.cell (p := ⟨w.heap.size, 0, none⟩) (by show w.heap.size < W.heap.size; omega)).trans hc) (by have := hb.size; omega) ((hb.cell (p := ⟨w1.heap.size, 0, none⟩) hmz).trans hm) (hNW.below hb) (hsz x (List.mem_of_getElem? hx)) (H.below (hBW.call hb rfl)) hx
  have hfin : Hid (Mo.each l.length 64 (Mo.ent1 l) = Mo.entries l) := rfl
  clear H hsz
  obtain ⟨n, hn⟩ : ∃ n, n = l.length := ⟨_, rfl⟩
  rw [← hn] at HC hfin hB0 ⊢
  clear hn hlen
  go_enter Tryz.func62, Tryz.ntmps62
  go_wp2_with fail
  refine (c117 _).mono ?_
  rintro e w1 ⟨b, rfl, hN, hbz, hb1⟩
  have hB1 := hB0.call hb1 rfl
  have hcs : w1.cell? ⟨w.heap.size, 0, none⟩ = some (.slice A n cap) := (hb1.cell (p := ⟨w.heap.size, 0, none⟩) (by simp)).trans (by simp)
  have hb1' : Below (w.heap.size + 1) (w.alloc (Obj.cells #[.slice A n cap] 74)) w1 := by simpa using hb1
  have hsz1 := hb1'.size
  simp at hsz1
  have hcs2 : (w1.alloc (Obj.cells #[.map (some b)] 194)).cell? ⟨w.heap.size, 0, none⟩ = some (.slice A n cap) := ((bcell ((Below.refl w1.heap.size w1).alloc (Nat.le_refl _) _)).1 _ _ (by omega)).trans hcs
  have HX := HC w1 b hb1' hN
  clear HC hb1 hN hb1'
  go_wp2_with fail
  refine HX.out.mono ?_
  rintro e w3 ⟨rfl, hb3⟩
  have hB3 := (hB1.alloc hB1.size _).call hb3 rfl
  go_wp2
  go_ret
  exact ⟨ret_int hfin.out, hB3⟩

end Go.Proofs.YtndhjkammoeikaaGreatDoor
/- 'copy' of whole elements of several cells into a row that the call itself made at the same length. -/
namespace Go.Proofs.YtndhjkammoeikaaGreatDoor
open Go.RowKit
theorem run_copy_wide {P : Program} (w : World) (dT sT ty elem : TypeId) (g dCap n size : Nat) (a : Addr) (sCap : Nat) (cur : Array Value) (t : TypeId) (cs : List Value)
    (hu : P.underlying dT = some (.slice elem)) (hs : (P.info? elem).map (·.size) = some size)
    (hg : w.heap[g]? = some (.cells cur t (0, 0))) (hn : cs.length = n * size)
    (hsrc : ∀ j v, cs[j]? = some v → w.cell? (a.add j) = some v) (hfit : cur.size = n * size) (h1 : ∀ v ∈ cs, v.oneCell' = true) :
    (Builtin.copy_ #[dT, sT] ty #[.slice (some ⟨g, 0, none⟩) n dCap, .slice (some a) n sCap]).run P w = .ok (goInt n) (w.setRow g cs.toArray) := by
  have hl := run_loadCells_list (P := P) w a cs hsrc
  have hst := run_storeCells_at P g 0 t cs 0 cur w hg (by omega) h1
  have he : (cur.toList.take (0 + 0) ++ cs ++ cur.toList.drop (0 + 0 + cs.length)).toArray = cs.toArray := by
    rw [List.drop_of_length_le (by simp; omega)]; simp
  rw [he] at hst
  cases hq : P.info? elem with
  | none => simp [hq] at hs
  | some i =>
    have hi : i.size = size := by simpa [hq] using hs
    have hmin : Nat.min n n = n := Nat.min_self n
    simp [Builtin.copy_, run_underlying hu, Builtin.lenOf, Builtin.firstCells, sizeOf, typeInfo, hq, hi, hmin, ← hn, hl, hst]
theorem run_copy_zero {P : Program} (w : World) (dT sT ty elem : TypeId) (d a : Option Addr) (dLen dCap sCap size : Nat) (hu : P.underlying dT = some (.slice elem)) (hs : (P.info? elem).map (·.size) = some size) :
    (Builtin.copy_ #[dT, sT] ty #[.slice d dLen dCap, .slice a 0 sCap]).run P w = .ok (goInt 0) w := by
  cases hq : P.info? elem with
  | none => simp [hq] at hs
  | some i =>
    have hl : ∀ (x : Addr), (loadCells x 0).run P w = .ok #[] w := fun x => by simpa using run_loadCells_list (P := P) w x [] (by simp)
    have hmin : Nat.min 0 dLen = 0 := Nat.zero_min dLen
    cases d <;> cases a <;> simp [Builtin.copy_, run_underlying hu, Builtin.lenOf, Builtin.firstCells, sizeOf, typeInfo, hq, hmin, storeCells, hl]
/-- 'copy(own, l)' at the operation: both of n elements. -/
theorem wpList_copy_wide {P : Program} {w : World} {ops : Array Oper} {rest : List Oper} {o : Oper} {a : Act} {Q : Exit → Act → World → Prop} (hgd : o.guard = none) (d s : Operand) (dT sT : TypeId)
    (ho : o.op = .call { callee := .builtin .copy, args := #[d, s], argTypes := #[dT, sT] }) (elem : TypeId) (size : Nat) (hu : P.underlying dT = some (.slice elem)) (hsz : (P.info? elem).map (·.size) = some size)
    (g dCap n : Nat) (sp : Option Addr) (sCap : Nat) (hd : a.eval d = .slice (some ⟨g, 0, none⟩) n dCap) (hs : a.eval s = .slice sp n sCap)
    (cur : Array Value) (t : TypeId) (hg : w.heap[g]? = some (.cells cur t (0, 0))) (cs : List Value) (hn : cs.length = n * size)
    (hsrc : RdS w size sp n cs) (hpos : 0 < size) (hfit : cur.size = n * size) (h1 : ∀ v ∈ cs, v.oneCell' = true) (B : Nat) (w0 : World) (hb : Below B w0 w) (hBg : B ≤ g)
    (h : ∀ w', Hid (w'.heap[g]? = some (.cells cs.toArray t (0, 0))) → Below B w0 w' → wpList P ops Q rest (a.put o.dst (goInt n)) w') :
    wpList P ops Q (o :: rest) a w := by
  refine wpList_plain hgd fun K hK => ?_
  cases sp with
  | none =>
    obtain rfl : n = 0 := RdS.none0 hsrc
    have hrun := run_copy_zero (P := P) w dT sT o.type elem (some ⟨g, 0, none⟩) none 0 dCap sCap size hu hsz
    obtain rfl : cs = [] := List.eq_nil_of_length_eq_zero (by omega)
    have hcur : cur = #[] := Array.eq_empty_of_size_eq_zero (by omega)
    unfold Oper.wp
    simp [execOp, ho, resolve, invoke, builtin, hd, hs, hrun, Result.andThen]
    exact hK _ _ (h w (show _ = _ by rw [hg, hcur]) hb)
  | some ad =>
    have hrun := run_copy_wide (P := P) w dT sT o.type elem g dCap n size ad sCap cur t cs hu hsz hg hn (RdS.news hsrc hpos) hfit h1
    unfold Oper.wp
    simp [execOp, ho, resolve, invoke, builtin, hd, hs, hrun, Result.andThen]
    exact hK _ _ (h _ (show _ = _ by exact setRow_heap w g cur _ t _ hg) (below_setRow hb hBg _))
end Go.Proofs.YtndhjkammoeikaaGreatDoor
namespace Go.Proofs.YtndhjkammoeikaaGreatDoor
open Go.RowKit
set_option maxHeartbeats 1000000
set_option maxRecDepth 20000

def Mo.mergedE (l : List Ent) : List Ent := if Mo.entries l ≠ 0 then [] else Mo.merged l
theorem c52 (A : Option Addr) (cap : Nat) (l : List Ent) (w : World) (hl : l.length ≤ 1000000) (hsz : ∀ e ∈ l, e.c.size ≤ 1000000) (H : RdL w 3 Ent.enc A l) :
    Calls Tryz.prog 52 #[.slice A l.length cap] w fun en w' => ∃ x, en = .returned (.tuple #[x, .int .i64 (Mo.entries l)]) ∧ Sl w' 3 x (Mo.mergedE l).length ((Mo.mergedE l).flatMap Ent.enc) ∧ Below w.heap.size w w' := by
  obtain ⟨i0, hi, hz0, hz1, hz2⟩ := info_parts info134
  have HC := Lib.hid (c62 A cap l w hl hsz H)
  have hlen : (l.flatMap Ent.enc).length = l.length * 3 := H.1
  have hone := Ent.one l
  have HM := fun (W : World) (g : Nat) (hg : W.heap[g]? = some (.cells (l.flatMap Ent.enc).toArray 134 (0, 0))) => Lib.hid (c109 (some ⟨g, 0, none⟩) l.length l W hl (RdS.of_block hg hlen))
  have HR : Hid (RdS w 3 A l.length (l.flatMap Ent.enc)) := H
  have hs3 : (Tryz.prog.info? 134).map (·.size) = some 3 := by rw [hi]; simp [hz1]
  clear H hsz
  obtain ⟨R, hRe⟩ : ∃ R, R = Mo.mergedE l := ⟨_, rfl⟩
  obtain ⟨E, hE⟩ : ∃ E, E = Mo.entries l := ⟨_, rfl⟩
  have HRe : Hid (R = if E ≠ 0 then [] else Mo.merged l) := by show _ = _; rw [hRe, hE]; rfl
  obtain ⟨M', hM'⟩ : ∃ M', M' = Mo.merged l := ⟨_, rfl⟩
  rw [← hM'] at HM HRe
  rw [← hRe, ← hE]
  rw [← hE] at HC
  clear hRe hE hM'
  obtain ⟨xs, hxs⟩ : ∃ xs, xs = l.flatMap Ent.enc := ⟨_, rfl⟩
  obtain ⟨n, hn⟩ : ∃ n, n = l.length := ⟨_, rfl⟩
  rw [← hxs] at hlen hone HM HR
  rw [← hn] at hl hlen HC HM HR ⊢
  clear hxs hn
  by_cases hE : E = 0
  · subst hE
    have HRR : Hid (R = M') := by show _ = _; rw [HRe.out]; simp
    obtain ⟨M, hMs, hmk⟩ : ∃ M : Array Value, M.size = n * 3 ∧ ∀ W : World, (Instr.makeSlice 74 (.int .i64 (n : Int)) (.int .i64 (n : Int))).run Tryz.prog W = .ok (.slice (some ⟨W.heap.size, 0, none⟩) n n) (W.alloc (.cells M 134)) := by
      refine ⟨madeCells (Value.agg #[.int .i64 0, .int .i64 0, .string ByteArray.empty]).cells (n * i0.size), by rw [size_madeCells, hz1], fun W => ?_⟩
      have hr := run_make (P := Tryz.prog) W 74 134 i0 _ Tryz.underlying74 hi hz0 .i64 .i64 n n (by omega) (by omega) (by rw [hz2]; omega) (by omega)
      simpa using hr
    clear hi hz0 hz1 hz2
    go_enter Tryz.func52, Tryz.ntmps52
    go_wp2_with fail
    refine HC.out.mono ?_
    rintro e w1 ⟨rfl, hb1⟩
    have hB2 : Below w.heap.size w (w1.alloc (.cells M 134)) := hb1.alloc hb1.size _
    have hsz1 := hb1.size
    have hRd := RdS.below HR.out hB2
    clear HR HC hb1
    go_wp2_with (refine wpList_copy_wide rfl _ _ 74 74 rfl 134 3 Tryz.underlying74 hs3 w1.heap.size n n A cap rfl rfl M 134 (heap_new rfl) xs hlen hRd (by omega) hMs hone w.heap.size w hB2 hsz1 ?_)
    intro w2 hg2 hB3
    have HX := HM w2 w1.heap.size hg2.out
    clear HM hRd hg2 hmk hB2
    go_wp2_with fail
    refine HX.out.mono ?_
    rintro e w3 ⟨x, rfl, hx, hb3⟩
    have hB4 := hB3.call hb3 rfl
    have HO := Lib.hid hx
    clear hx
    go_wp2
    go_ret2
    exact ⟨_, rfl, by rw [HRR.out]; exact HO.out, hB4⟩
  · have hE' : (E != 0) = true := by simpa using hE
    have HRR : Hid (R = []) := by show _ = _; rw [HRe.out, if_pos hE]
    go_enter Tryz.func52, Tryz.ntmps52
    go_wp2_with fail
    refine HC.out.mono ?_
    rintro e w1 ⟨rfl, hb1⟩
    go_wp2
    go_ret2
    exact ⟨_, rfl, by rw [HRR.out]; exact ⟨none, 0, rfl, rfl, fun h => absurd h (by simp)⟩, hb1⟩
theorem c56 (A : Option Addr) (cap : Nat) (l : List Ent) (w : World) (hlen : l.length ≤ 1000000) (H : RdL w 3 Ent.enc A l) :
    Calls Tryz.prog 56 #[.slice A l.length cap] w fun en w' => en = .returned (.int .i64 (Mo.entries l)) ∧ Below w.heap.size w w' := by
  obtain ⟨n, hn⟩ : ∃ n, n = l.length := ⟨_, rfl⟩
  rw [← hn] at hlen ⊢
  have Hn := Lib.hid hn
  clear hn
  by_cases hn : 64 < n
  · go_enter Tryz.func56, Tryz.ntmps56
    go_wp2
    go_ret
    exact ⟨ret_int (by simp [Mo.entries, Mo.each, ← Hn.out, hn]), Below.refl _ _⟩
  · have hmo : Hid (Mo.entries l = Mo.first ((List.range n).map (Mo.ent1 l))) := by show _ = _; simp [Mo.entries, Mo.each, ← Hn.out, hn]
    go_enter Tryz.func56, Tryz.ntmps56
    go_wp2
    go_loopw [3] (fun i wr => ∃ k : Nat, k ≤ n ∧ i = .int .i64 k ∧ Below w.heap.size w wr ∧ Mo.entries l = Mo.first (((List.range n).map (Mo.ent1 l)).drop k)) (fun i _ => n - (intOf i).toNat)
    case atStart => exact ⟨0, Nat.zero_le _, rfl, Below.refl _ _, by rw [hmo.out]; rfl⟩
    case round =>
      obtain ⟨k, hk, rfl, hB, he⟩ := hrel
      have HE := Lib.hid he
      clear he
      by_cases hlt : k < n
      · obtain ⟨b, off, s, rfl, hx, hb, hc⟩ := (H.below hB).at Ent.len (by rw [← Hn.out]; exact hlt)
        have Hx := Lib.hid hx
        have Hs := Lib.hid (Mo.first_range n k (Mo.ent1 l) hlt)
        have h0 : wr.cell? ⟨b, off + k * 3, none⟩ = some (.int .i64 s.f) := hc 0 (by omega)
        have h1 : wr.cell? ⟨b, off + k * 3 + 1, none⟩ = some (.int .i64 s.t) := hc 1 (by omega)
        have h2 : wr.cell? ⟨b, off + k * 3 + 2, none⟩ = some (.string s.c) := hc 2 (by omega)
        clear hc hx
        go_wp2_with fail
        refine (c111 _ _ _).mono ?_
        rintro e w1 ⟨rfl, hb1⟩
        have hB1 := fin0 hB hb1
        have p0 := (hb1.cell (p := ⟨b, _, none⟩) hb).trans h0
        have p2 := (hb1.cell (p := ⟨b, _, none⟩) hb).trans h2
        have hbw : b < w1.heap.size := Nat.lt_of_lt_of_le hb hb1.size
        clear h0 h1 h2 hb1
        cases hbad : Mo.badSpan s.f s.t
        · have HZ : Hid (¬ (Mo.badSpan s.f s.t = true)) := by show ¬ _; rw [hbad]; simp
          clear hbad
          go_wp2_with fail
          refine (c115 s.c _).mono ?_
          rintro e W2 ⟨rfl, hb2⟩
          have hB2 := fin0 hB1 hb2
          have h02 := (hb2.cell (p := ⟨b, _, none⟩) hbw).trans p0
          have hbW : b < W2.heap.size := Nat.lt_of_lt_of_le hbw hb2.size
          clear p0 p2 hb2 hB1
          by_cases hnum : Mo.num s.c < 0
          · go_wp2
            go_ret
            exact ⟨ret_int (by rw [HE.out, Hs.out, Mo.ent1_eq Hx.out _ rfl, if_neg HZ.out, if_pos hnum]; rfl), hB2⟩
          · rcases Nat.eq_zero_or_pos k with hk0 | hk0
            · subst hk0
              have hfin : Hid (Mo.ent1 l 0 = 0) := by show _ = _; rw [Mo.ent1_eq Hx.out false (by simp), if_neg HZ.out, if_neg hnum]; rfl
              go_wp2
              refine wp_region_growG (by kernel_rfl) (by kernel_rfl) ?_
              repeat (go_big_quiet_step ((first | fail)))
              refine wpQuiet_nil (gw_out ?_)
              intro w3 hb3
              go_wp2
              go_roundw
              case rel => exact ⟨1, by omega, by go_num, fin0 hB2 hb3, by rw [HE.out, Hs.out, if_neg (by rw [hfin.out]; simp)]⟩
              case measure => simp [intOf]; omega
            · obtain ⟨b', off', q, hbb, hq, hb', hc'⟩ := (H.below hB2).at Ent.len (k := k - 1) (by rw [← Hn.out]; omega)
              obtain ⟨rfl, rfl⟩ : b = b' ∧ off = off' := by simpa using hbb
              have hq0 : W2.cell? ⟨b, off + (k - 1) * 3 + 1, none⟩ = some (.int .i64 q.t) := hc' 1 (by omega)
              have Hq := Lib.hid hq
              have hmx : ((k:Int) - 1).toNat = k - 1 := by omega
              have hfin : Hid (Mo.ent1 l k = Mo.when (decide (s.f < q.t)) 11) := by show _ = _; rw [Mo.ent1_eq Hx.out (decide (s.f < q.t)) (by rw [Hq.out]; simp [hk0]), if_neg HZ.out, if_neg hnum]
              clear hc' hq hbb
              go_wp2
              refine wp_region_growG (by kernel_rfl) (by kernel_rfl) ?_
              repeat (go_big_quiet_step ((first | fail)))
              refine wpQuiet_nil (gw_out ?_)
              intro w3 hb3
              go_wp2
              · go_ret
                have hlt' : s.f < q.t := by assumption
                exact ⟨ret_int (by rw [HE.out, Hs.out, hfin.out]; simp [Mo.when, hlt']), fin0 hB2 hb3⟩
              · go_roundw
                have hge : ¬ s.f < q.t := by omega
                case rel => exact ⟨k + 1, by omega, by go_num, fin0 hB2 hb3, by rw [HE.out, Hs.out, if_neg (by rw [hfin.out]; simp [Mo.when, hge])]⟩
                case measure => simp [intOf]; omega
        · have HZ : Hid (Mo.badSpan s.f s.t = true) := hbad
          clear hbad
          go_wp2
          go_ret
          exact ⟨ret_int (by rw [HE.out, Hs.out, Mo.ent1_eq Hx.out _ rfl, if_pos HZ.out]; rfl), hB1⟩
      · go_wp2
        go_ret
        exact ⟨ret_int (by rw [HE.out, Mo.first_range_end _ _ _ (by omega)]), hB⟩

end Go.Proofs.YtndhjkammoeikaaGreatDoor
namespace Go.Proofs.YtndhjkammoeikaaGreatDoor
namespace Mo
/-- the ticks of cause number i -/
def hrs : List Ent → Int → Int
  | [], _ => 0
  | e :: l, i => (if num e.c = i then e.t - e.f else 0) + hrs l i
theorem hrs_append (a b : List Ent) (i : Int) : hrs (a ++ b) i = hrs a i + hrs b i := by
  induction a with
  | nil => simp [hrs]
  | cons e a ih => simp only [List.cons_append, hrs, ih]; omega
theorem hrs_take_succ {l : List Ent} {k : Nat} {e : Ent} (h : l[k]? = some e) (i : Int) : hrs (l.take (k+1)) i = hrs (l.take k) i + (if num e.c = i then e.t - e.f else 0) := by
  obtain ⟨hk, rfl⟩ := List.getElem?_eq_some_iff.1 h
  rw [List.take_succ_eq_append_getElem hk, hrs_append]
  simp [hrs]
theorem hrs_bd (l : List Ent) (h : ∀ e ∈ l, EOk e) (i : Int) : 0 ≤ hrs l i ∧ hrs l i ≤ 100000 * (l.length : Int) := by
  induction l with
  | nil => simp [hrs]
  | cons e l ih =>
    have h1 := ih (fun x hx => h x (by simp [hx]))
    have h2 := (h e (by simp)).b
    simp only [hrs, List.length_cons]
    split <;> push_cast <;> omega
end Mo
def arr6 (a : Nat → Int) : Array Value := ((List.range 6).map fun (i : Nat) => Value.int .i64 (a i)).toArray
theorem arr6_eq (a : Nat → Int) : arr6 a = #[.int .i64 (a 0), .int .i64 (a 1), .int .i64 (a 2), .int .i64 (a 3), .int .i64 (a 4), .int .i64 (a 5)] := rfl
theorem arr6_get (a : Nat → Int) (m : Nat) (h : m < 6) : (arr6 a)[m]? = some (.int .i64 (a m)) := by simp [arr6, h]
theorem arr6_set (a : Nat → Int) (m : Nat) (h : m < 6) (z : Int) : (arr6 a).setIfInBounds m (.int .i64 z) = arr6 (fun i => if i = m then z else a i) := by
  match m, h with
  | 0, _ => rfl
  | 1, _ => rfl
  | 2, _ => rfl
  | 3, _ => rfl
  | 4, _ => rfl
  | 5, _ => rfl
theorem arr6_step {l : List Ent} {k : Nat} {e : Ent} (h : l[k]? = some e) (m : Nat) (hm : Mo.num e.c = m) (hlt : m < 6) :
    (arr6 fun i => Mo.hrs (l.take k) i).setIfInBounds m (.int .i64 (Mo.hrs (l.take k) m + (e.t - e.f))) = arr6 fun i => Mo.hrs (l.take (k+1)) i := by
  rw [arr6_set _ _ hlt]
  congr 1
  funext i
  rw [Mo.hrs_take_succ h]
  by_cases hi : i = m
  · subst hi; rw [if_pos rfl, if_pos hm]
  · rw [if_neg hi, if_neg (by rw [hm]; omega)]; omega
def hrsV (l : List Ent) : Value := .agg (arr6 fun i => Mo.hrs l i)
end Go.Proofs.YtndhjkammoeikaaGreatDoor
