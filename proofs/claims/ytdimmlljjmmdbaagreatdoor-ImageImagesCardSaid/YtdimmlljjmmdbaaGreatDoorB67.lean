/- A part of the proofs about chapter 7 (image): contracts of functions and plain laws (V67). -/
import Derived.Test.YtdimmlljjmmdbaaGreatDoorA11
import Derived.Test.YtdimmlljjmmdbaaGreatDoorA05
set_option linter.all false
namespace Go.Proofs.YtdimmlljjmmdbaaGreatDoor
open Go.RowKit Go.Shelf
set_option maxHeartbeats 8000000
set_option maxRecDepth 100000
theorem c48s (D : Option Addr) (m capd : Nat) (d : List (List Int)) (w : World) (hd : m ≤ 9223372036854775807) (HD : RdD w D m d) :
  Calls Tryz.prog 48 #[.slice D m capd] w fun en w' => ShP ((m ≤ 5 ∨ m = 17) ∧ ∀ x, x ∈ d → x.length ≤ 45) en ∧ ((m ≤ 5 ∧ ∀ x, x ∈ d → x.length ≤ 45) → en = .returned (.bool true)) ∧ Below w.heap.size w w' := by
 have HDN := Lib.hid HD.len
 go_enter Tryz.func48, Tryz.ntmps48
 go_wp2
 go_loopw [3] (fun i wr => ∃ k : Nat, k ≤ m ∧ i = .int .i64 k ∧ Hid (∀ (j : Nat) (x : List Int), j < k → d[j]? = some x → x.length ≤ 45) ∧ Below w.heap.size w wr) (fun i _ => m - (intOf i).toNat)
 case atStart => exact ⟨0, Nat.zero_le _, rfl, Lib.hid (fun j _ h => absurd h (Nat.not_lt_zero j)), Below.refl _ _⟩
 case round =>
  obtain ⟨k, hk, rfl, HC, hB⟩ := hrel
  by_cases hlt : k < m
  ·have hwk : IntKind.i64.wrap ((k : Int) + 1) = ((k + 1 : Nat) : Int) := by rw [wrapI (by omega)]; simp
   have hkm2 : (k : Int) < (m : Int) := by omega
   have hk02 : (0 : Int) ≤ (k : Int) := by omega
   obtain ⟨db, doff, x, xa, xc, rfl, hx, hdb, hdc, hrx⟩ := (HD.below hB).at hlt
   have HX := Lib.hid hx
   clear hx hrx
   by_cases hx45 : x.length ≤ 45
   ·have hd1 : decide ((45 : Int) < (x.length : Int)) = false := by simp; omega
    have HC2 : Hid (∀ (j : Nat) (y : List Int), j < k + 1 → d[j]? = some y → y.length ≤ 45) := Lib.hid (fun j y hj hy => by
     by_cases h : j = k
     ·subst h; rw [HX.out] at hy; cases hy; exact hx45
     ·exact HC.out j y (by omega) hy)
    go_wp2
    go_roundw
    case rel => exact ⟨k + 1, by omega, rfl, HC2, hB⟩
    case measure => simp [intOf]; omega
   ·have hd1 : decide ((45 : Int) < (x.length : Int)) = true := by simp; omega
    have HXM := Lib.hid (List.mem_of_getElem? HX.out)
    go_wp2
    go_ret
    exact ⟨⟨false, rfl, fun h => by cases h⟩, fun h => absurd (h.2 _ HXM.out) hx45, hB⟩
  ·obtain rfl : m = k := by omega
   have HA : Hid (∀ x, x ∈ d → x.length ≤ 45) := Lib.hid (fun x hx => by
    obtain ⟨j, hj, hxj⟩ := List.getElem_of_mem hx
    exact HC.out j x (by rw [← HDN.out]; exact hj) (by rw [← hxj]; exact List.getElem?_eq_getElem hj))
   by_cases h5 : m ≤ 5
   ·have hd5 : decide ((m : Int) ≤ 5) = true := by simp; omega
    go_wp2
    all_goals go_ret
    all_goals exact ⟨⟨_, rfl, fun _ => ⟨.inl h5, HA.out⟩⟩, fun _ => rfl, hB⟩
   ·have hd5 : decide ((m : Int) ≤ 5) = false := by simp; omega
    by_cases h17 : m = 17
    ·have hd17 : ((m : Int) == 17) = true := by simp; omega
     have H17 := Lib.hid h17
     clear h17
     go_wp2
     all_goals go_ret
     all_goals exact ⟨⟨_, rfl, fun _ => ⟨.inr H17.out, HA.out⟩⟩, fun h => absurd h.1 h5, hB⟩
    ·have hd17 : ((m : Int) == 17) = false := by simp; omega
     go_wp2
     all_goals go_ret
     all_goals exact ⟨⟨_, rfl, fun h => by cases h⟩, fun h => absurd h.1 h5, hB⟩
theorem c31s (D E M : Option Addr) (n m k cd ce cm : Nat) (dl el : List (List Int)) (s f x : Int) (w : World) (hn : n ≤ 9223372036854775807) (hm : m ≤ 9223372036854775807) (HD : RdD w D n dl) (HE : RdD w E m el) :
  Calls Tryz.prog 31 #[.agg #[.slice D n cd, .slice E m ce, .slice M k cm, .int .i64 s, .int .i64 f, .int .i64 x]] w fun en w' => ShP (((n ≤ 5 ∨ n = 17) ∧ ∀ x, x ∈ dl → x.length ≤ 45) ∧ ((m ≤ 5 ∨ m = 17) ∧ ∀ x, x ∈ el → x.length ≤ 45) ∧ k ≤ 30) en ∧ Below w.heap.size w w' := by
 obtain ⟨w0, hW⟩ : ∃ W, W = w.alloc (Obj.cells #[.slice D n cd, .slice E m ce, .slice M k cm, .int .i64 s, .int .i64 f, .int .i64 x] 55) := ⟨_, rfl⟩
 have hT0 : w0.heap[w.heap.size]? = some (.cells #[.slice D n cd, .slice E m ce, .slice M k cm, .int .i64 s, .int .i64 f, .int .i64 x] 55 (0, 0)) := by rw [hW]; exact heap_new (by simp)
 have hB0 : Below w.heap.size w w0 := by rw [hW]; exact (Below.refl _ _).alloc (Nat.le_refl _) _
 have H1 := HD.below hB0
 have H2 := HE.below hB0
 clear HD HE
 go_enter Tryz.func31, Tryz.ntmps31
 go_wp2_with fail
 rw [← hW]
 clear hW
 have q0 : w0.cell? ⟨w.heap.size, 0, none⟩ = some (.slice D n cd) := cell_at hT0 rfl
 have q1 : w0.cell? ⟨w.heap.size, 1, none⟩ = some (.slice E m ce) := cell_at hT0 rfl
 have q2 : w0.cell? ⟨w.heap.size, 2, none⟩ = some (.slice M k cm) := cell_at hT0 rfl
 have z2 := cell_lt q2
 go_wp2_with fail
 refine (c48s D n cd dl _ hn H1).mono ?_
 rintro e w1 ⟨⟨b1, rfl, hP1⟩, _, hb⟩
 have hB1 := hB0.call hb rfl
 replace hT0 := blkb hT0 hb
 replace H2 := H2.below hb
 clear hb q0 q1 q2 z2 hB0
 have q1 : w1.cell? ⟨w.heap.size, 1, none⟩ = some (.slice E m ce) := cell_at hT0 rfl
 have q2 : w1.cell? ⟨w.heap.size, 2, none⟩ = some (.slice M k cm) := cell_at hT0 rfl
 have z2 := cell_lt q2
 have HP1 := Lib.hid hP1
 clear hP1
 cases b1
 ·go_wp2
  go_ret
  exact ⟨⟨_, rfl, fun h => by simp at h⟩, hB1⟩
 go_wp2_with fail
 refine (c48s E m ce el _ hm H2).mono ?_
 rintro e w2 ⟨⟨b2, rfl, hP2⟩, _, hb⟩
 have hB2 := hB1.call hb rfl
 replace hT0 := blkb hT0 hb
 clear hb q1 q2 z2 hB1
 have q2 : w2.cell? ⟨w.heap.size, 2, none⟩ = some (.slice M k cm) := cell_at hT0 rfl
 have z2 := cell_lt q2
 have HP2 := Lib.hid hP2
 clear hP2
 cases b2
 ·go_wp2
  go_ret
  exact ⟨⟨_, rfl, fun h => by simp at h⟩, hB2⟩
 go_wp2
 all_goals go_ret
 all_goals exact ⟨⟨_, rfl, fun h => ⟨HP1.out trivial, HP2.out trivial, by simp at h <;> omega⟩⟩, hB2⟩
/-- the pairs' holes and samples -/
noncomputable def prs (c : Nat) (l : List Int) (un : Int) (ln : Nat) (most : Int) (ps : List Pr) : List (Bool × List Int) := ps.map fun p => (p.h, dlp c l un ln most p)
theorem prs_snd (c : Nat) (l : List Int) (un : Int) (ln : Nat) (most : Int) (ps : List Pr) : (prs c l un ln most ps).map (·.2) = ps.map (dlp c l un ln most) := by simp [prs, Function.comp_def]
theorem prs_traces (c : Nat) (l : List Int) (un : Int) (ln : Nat) (most : Int) (ms : List Int) (ps : List Pr) : Im.traces ln (prs c l un ln most ps) ms = trcs c l un ln most ms ps := by
 unfold Im.traces prs trcs
 rw [List.map_map]
 refine List.map_congr_left fun p _ => ?_
 simp [trc]
theorem at0_mem {l : List Int} {x : Int} (h : x ∈ l) : ∃ k, k < l.length ∧ Im.at0 l k = x := by
 obtain ⟨k, hk, e⟩ := List.getElem_of_mem h
 exact ⟨k, hk, by simp [Im.at0, List.getD_eq_getElem?_getD, hk, e]⟩
theorem mem_at0 {l : List Int} {k : Nat} (h : k < l.length) : Im.at0 l k ∈ l := by
 simp [Im.at0, List.getD_eq_getElem?_getD, h]
theorem dlp_d {c : Nat} {l : List Int} {un : Int} {ln : Nat} {most : Int} {p : Pr} (hln : 1 ≤ ln) : ∀ d, d ∈ dlp c l un ln most p → d < (ln : Int) := by
 intro d hd
 obtain ⟨k, hk, rfl⟩ := at0_mem hd
 rw [dlp_len] at hk
 by_cases h0 : 0 ≤ Im.at0 (dlp c l un ln most p) k
 ·exact dlp_lt hk h0
 ·omega
theorem dlp_h {c : Nat} {l : List Int} {un : Int} {ln : Nat} {most : Int} {p : Pr} (hp : p.h = true) : ∀ d, d ∈ dlp c l un ln most p → d = -1 := by
 intro d hd
 obtain ⟨k, hk, rfl⟩ := at0_mem hd
 rw [dlp_len] at hk
 unfold dlp dlL
 rw [hp, Im.delays_at hk, Im.dly_hole]
theorem fits_of {c : Nat} {l : List Int} {un : Int} {ln : Nat} {most : Int} (hln : 1 ≤ ln) : ∀ {ps : List Pr} {d : List (List Int)}, d.length = ps.length → Mo.Shp ln ps d → Im.Fits ln l.length (prs c l un ln most ps) d
 | [], [], _, _ => trivial
 | [], _ :: _, h, _ => by simp at h
 | _ :: _, [], h, _ => by simp at h
 | p :: ps, x :: d, h, hs => by
  have h0 := hs 0 p x rfl rfl
  refine ⟨dlp_len _ _ _ _ _ _, ?_, fits_of hln (by simpa using h) (fun j q y h1 h2 => hs (j + 1) q y (by simpa using h1) (by simpa using h2))⟩
  unfold Mo.okT at h0
  by_cases hp : p.h = true
  ·rw [if_pos hp] at h0
   simp only [hp, if_true]
   exact ⟨List.length_eq_zero_iff.1 h0, dlp_h hp⟩
  ·rw [if_neg hp] at h0
   have hp' : p.h = false := by simpa using hp
   simp only [hp', Bool.false_eq_true, if_false]
   exact ⟨by omega, dlp_d hln⟩
/-- the traces of a model are valid traces -/
theorem trcs_shp (c : Nat) (l : List Int) (un : Int) (ln : Nat) (most : Int) (ms : List Int) (ps : List Pr) : Mo.Shp ln ps (trcs c l un ln most ms ps) := by
 intro j p x hp hx
 unfold trcs at hx
 rw [List.getElem?_map, hp] at hx
 simp only [Option.map_some, Option.some.injEq] at hx
 subst hx
 unfold Mo.okT trc
 by_cases h : p.h = true
 ·simp [h]
 ·rw [if_neg h, if_neg h, Im.trace_len]
theorem trcs_len (c : Nat) (l : List Int) (un : Int) (ln : Nat) (most : Int) (ms : List Int) (ps : List Pr) : (trcs c l un ln most ms ps).length = ps.length := by simp [trcs]
theorem trc_le {c : Nat} {l : List Int} {un : Int} {ln : Nat} {most : Int} {ms : List Int} {p : Pr} (hl : ms.length = l.length) (h30 : l.length ≤ 30) (hm : ∀ k, k < ms.length → -1000 ≤ Im.at0 ms k ∧ Im.at0 ms k ≤ 1000) : ∀ y, y ∈ trc c l un ln most ms p → -30000 ≤ y ∧ y ≤ 30000 := by
 intro y hy
 unfold trc at hy
 split at hy
 ·simp at hy
 ·obtain ⟨k, hk, rfl⟩ := at0_mem hy
  have hd : (dlp c l un ln most p).length = ms.length := by rw [dlp_len, hl]
  rw [← Im.trk_full (j := ms.length) hd rfl]
  have h := Im.trk_le (len := ln) (B := 1000) (by decide) hm hd ms.length (by omega) k
  omega
theorem trcs_dat {c : Nat} {l : List Int} {un : Int} {ln : Nat} {most : Int} {ms : List Int} {ps : List Pr} (hl : ms.length = l.length) (h30 : l.length ≤ 30) (hm : ∀ k, k < ms.length → -1000 ≤ Im.at0 ms k ∧ Im.at0 ms k ≤ 1000) : Mo.dat ln ps (trcs c l un ln most ms ps) = 0 := by
 rw [Mo.dat_ok (trcs_len _ _ _ _ _ _ _) (trcs_shp _ _ _ _ _ _ _)]
 refine Mo.first_all ?_
 intro e he
 obtain ⟨x, hx, rfl⟩ := List.mem_map.1 he
 obtain ⟨p, _, rfl⟩ := List.mem_map.1 hx
 refine Mo.allw_ok.2 fun y hy => ?_
 have := trc_le hl h30 hm y hy
 omega
theorem misfit_self : ∀ x : List Int, Im.misfit x x = 0
 | [] => rfl
 | a :: x => by simp [Im.misfit, misfit_self x]
/-- a cell's part: what the amplitude says -/
theorem low_eq (a : Int) (n : Nat) (hn : 0 < n) : 1 ≤ Mo.lowd a n ∧ Mo.lowd a n ≤ n ∧ Mo.lown a n * n = a * Mo.lowd a n := by
 unfold Mo.lown Mo.lowd
 have hg : 0 < Nat.gcd a.natAbs n := Nat.gcd_pos_of_pos_right _ hn
 obtain ⟨u, hu⟩ := Nat.gcd_dvd_right a.natAbs n
 obtain ⟨v, hv⟩ : (Nat.gcd a.natAbs n : Int) ∣ a := Int.ofNat_dvd_left.2 (Nat.gcd_dvd_left _ _)
 generalize Nat.gcd a.natAbs n = g at hg hu hv
 subst hu
 have hgi : (g : Int) ≠ 0 := by omega
 have h1 : g * u / g = u := Nat.mul_div_cancel_left u hg
 have h2 : a.tdiv (g : Int) = v := by rw [hv]; exact Int.mul_tdiv_cancel_left v hgi
 have hu0 : 0 < u := by
  rcases Nat.eq_zero_or_pos u with h | h
  ·subst h; simp at hn
  ·exact h
 have hug : u ≤ g * u := Nat.le_mul_of_pos_left u hg
 rw [h1, h2]
 refine ⟨by omega, by exact_mod_cast hug, ?_⟩
 rw [hv]
 push_cast
 rw [Int.mul_comm (g : Int) v, Int.mul_assoc]
end Go.Proofs.YtdimmlljjmmdbaaGreatDoor
