/- A part of the proofs about traces, tides and horizons: contracts of functions and plain laws (K1, K2, K3, K4, K5, K6, K7, K8, K9, K10). -/
import Derived.Scope
import Derived.WalkMore
import Derived.Test.YtfmgibhffgkieaaDoorZ03a
set_option linter.all false
namespace Go.Proofs.YtfmgibhffgkieaaDoor
open Go.RowKit
set_option maxHeartbeats 4000000
set_option maxRecDepth 20000
theorem c31 (c : Bool) (e : Int) (w : World) : Calls Tryd.prog 31 #[.bool c, .int .i64 e] w fun en w' => en = .returned (.int .i64 (Mo.when c e)) ∧ w = w' := by
 go_enter Tryd.func31, Tryd.ntmps31
 go_wp2
 all_goals go_ret
 all_goals simp [Mo.when, *]
theorem c43 (c : Bool) (e : Int) (w : World) : Calls Tryd.prog 43 #[.bool c, .int .i64 e] w fun en w' => en = .returned (.int .i64 (Mo.when c e)) ∧ w = w' := by
 go_enter Tryd.func43, Tryd.ntmps43
 go_wp2
 all_goals go_ret
 all_goals simp [Mo.when, *]
theorem c50 (c : Bool) (e : Int) (w : World) : Calls Tryd.prog 50 #[.bool c, .int .i64 e] w fun en w' => en = .returned (.int .i64 (Mo.when c e)) ∧ w = w' := by
 go_enter Tryd.func50, Tryd.ntmps50
 go_wp2
 all_goals go_ret
 all_goals simp [Mo.when, *]
theorem c38 (n lo hi : Int) (w : World) : Calls Tryd.prog 38 #[.int .i64 n, .int .i64 lo, .int .i64 hi] w fun en w' => en = .returned (.int .i64 (Mo.range n lo hi)) ∧ w = w' := by
 go_enter Tryd.func38, Tryd.ntmps38
 go_wp2
 all_goals go_ret
 all_goals (refine ⟨ret_int ?_, rfl⟩; simp [Mo.range]; try omega)
theorem c42 (n lo hi : Int) (w : World) : Calls Tryd.prog 42 #[.int .i64 n, .int .i64 lo, .int .i64 hi] w fun en w' => en = .returned (.int .i64 (Mo.range n lo hi)) ∧ w = w' := by
 go_enter Tryd.func42, Tryd.ntmps42
 go_wp2
 all_goals go_ret
 all_goals (refine ⟨ret_int ?_, rfl⟩; simp [Mo.range]; try omega)
theorem c66 (n lo hi : Int) (w : World) : Calls Tryd.prog 66 #[.int .i64 n, .int .i64 lo, .int .i64 hi] w fun en w' => en = .returned (.int .i64 (Mo.range n lo hi)) ∧ w = w' := by
 go_enter Tryd.func66, Tryd.ntmps66
 go_wp2
 all_goals go_ret
 all_goals (refine ⟨ret_int ?_, rfl⟩; simp [Mo.range]; try omega)
theorem c18 (A : Option Addr) (n cap : Nat) (xs : List Int) (w : World) (hn : xs.length = n) (hl : n ≤ 1000000) (H : RdS w 1 A n (encI xs)) :
  Calls Tryd.prog 18 #[.slice A n cap] w fun en w' => en = .returned (.int .i64 (Mo.first xs)) ∧ w = w' := by
 have Hn := Lib.hid hn
 clear hn
 go_enter Tryd.func18, Tryd.ntmps18
 go_wp2
 go_loop [7] (fun i => ∃ k : Nat, k ≤ n ∧ i = .int .i64 k ∧ Mo.first xs = Mo.first (xs.drop k)) (fun i => n - (intOf i).toNat)
 case atStart => exact ⟨0, Nat.zero_le _, rfl, rfl⟩
 case round =>
  obtain ⟨k, hk, rfl, he⟩ := hrel
  have HE := Lib.hid he
  clear he
  by_cases hlt : k < n
  ·obtain ⟨b, off, rfl, hb, hc⟩ := H.at hlt
   have hx : k < xs.length := by rw [Hn.out]; exact hlt
   have h0 := hc 0 (by omega)
   simp [encI, hx] at h0
   clear hc H hb
   have hs := Lib.hid (Mo.first_drop xs k hx)
   go_wp2
   ·go_ret
    exact ⟨ret_int (by rw [HE.out, hs.out, if_pos (by simpa using ‹(xs[k] != 0) = true›)]), rfl⟩
   ·go_round
    case rel => exact ⟨k+1, by omega, by go_num, by rw [HE.out, hs.out, if_neg (by simpa using ‹(xs[k] != 0) = false›)]⟩
    case measure => simp [intOf]; omega
  ·go_wp2
   go_ret
   exact ⟨by rw [HE.out, List.drop_of_length_le (by rw [Hn.out]; omega)]; rfl, rfl⟩
theorem c29 (A : Option Addr) (n cap : Nat) (xs : List Int) (w : World) (hn : xs.length = n) (hl : n ≤ 1000000) (H : RdS w 1 A n (encI xs)) :
  Calls Tryd.prog 29 #[.slice A n cap] w fun en w' => en = .returned (.int .i64 (Mo.first xs)) ∧ w = w' := by
 have Hn := Lib.hid hn
 clear hn
 go_enter Tryd.func29, Tryd.ntmps29
 go_wp2
 go_loop [7] (fun i => ∃ k : Nat, k ≤ n ∧ i = .int .i64 k ∧ Mo.first xs = Mo.first (xs.drop k)) (fun i => n - (intOf i).toNat)
 case atStart => exact ⟨0, Nat.zero_le _, rfl, rfl⟩
 case round =>
  obtain ⟨k, hk, rfl, he⟩ := hrel
  have HE := Lib.hid he
  clear he
  by_cases hlt : k < n
  ·obtain ⟨b, off, rfl, hb, hc⟩ := H.at hlt
   have hx : k < xs.length := by rw [Hn.out]; exact hlt
   have h0 := hc 0 (by omega)
   simp [encI, hx] at h0
   clear hc H hb
   have hs := Lib.hid (Mo.first_drop xs k hx)
   go_wp2
   ·go_ret
    exact ⟨ret_int (by rw [HE.out, hs.out, if_pos (by simpa using ‹(xs[k] != 0) = true›)]), rfl⟩
   ·go_round
    case rel => exact ⟨k+1, by omega, by go_num, by rw [HE.out, hs.out, if_neg (by simpa using ‹(xs[k] != 0) = false›)]⟩
    case measure => simp [intOf]; omega
  ·go_wp2
   go_ret
   exact ⟨by rw [HE.out, List.drop_of_length_le (by rw [Hn.out]; omega)]; rfl, rfl⟩
theorem c40 (A : Option Addr) (n cap : Nat) (xs : List Int) (w : World) (hn : xs.length = n) (hl : n ≤ 1000000) (H : RdS w 1 A n (encI xs)) :
  Calls Tryd.prog 40 #[.slice A n cap] w fun en w' => en = .returned (.int .i64 (Mo.first xs)) ∧ w = w' := by
 have Hn := Lib.hid hn
 clear hn
 go_enter Tryd.func40, Tryd.ntmps40
 go_wp2
 go_loop [7] (fun i => ∃ k : Nat, k ≤ n ∧ i = .int .i64 k ∧ Mo.first xs = Mo.first (xs.drop k)) (fun i => n - (intOf i).toNat)
 case atStart => exact ⟨0, Nat.zero_le _, rfl, rfl⟩
 case round =>
  obtain ⟨k, hk, rfl, he⟩ := hrel
  have HE := Lib.hid he
  clear he
  by_cases hlt : k < n
  ·obtain ⟨b, off, rfl, hb, hc⟩ := H.at hlt
   have hx : k < xs.length := by rw [Hn.out]; exact hlt
   have h0 := hc 0 (by omega)
   simp [encI, hx] at h0
   clear hc H hb
   have hs := Lib.hid (Mo.first_drop xs k hx)
   go_wp2
   ·go_ret
    exact ⟨ret_int (by rw [HE.out, hs.out, if_pos (by simpa using ‹(xs[k] != 0) = true›)]), rfl⟩
   ·go_round
    case rel => exact ⟨k+1, by omega, by go_num, by rw [HE.out, hs.out, if_neg (by simpa using ‹(xs[k] != 0) = false›)]⟩
    case measure => simp [intOf]; omega
  ·go_wp2
   go_ret
   exact ⟨by rw [HE.out, List.drop_of_length_le (by rw [Hn.out]; omega)]; rfl, rfl⟩
def cmpI (a b : Int) : Int := if a < b then -1 else if b < a then 1 else 0
theorem c76 (a : Int) (w : World) : Calls Tryd.prog 76 #[.int .i64 a] w fun en w' => en = .returned (.bool false) ∧ w = w' := by
 go_enter Tryd.func76, Tryd.ntmps76
 go_wp2
 all_goals go_ret
 all_goals simp
theorem c68 (a b : Int) (w : World) : Calls Tryd.prog 68 #[.int .i64 a, .int .i64 b] w fun en w' => en = .returned (.int .i64 (cmpI a b)) ∧ w = w' := by
 obtain ⟨V, hV⟩ : ∃ V, V = cmpI a b := ⟨_, rfl⟩
 rw [← hV]
 have HV := Lib.hid hV
 clear hV
 go_enter Tryd.func68, Tryd.ntmps68
 by_cases h1 : a < b
 ·have t1 : decide (a < b) = true := by simpa using h1
  have HG : Hid (V = -1) := Lib.hid (by rw [HV.out]; simp [cmpI, h1])
  clear h1
  go_wp2_with (go_at_call 76; refine (c76 _ _).mono ?_; rintro e w' ⟨rfl, rfl⟩)
  go_ret
  exact ⟨ret_int HG.out.symm, rfl⟩
 ·have t1 : decide (a < b) = false := by simpa using h1
  by_cases h2 : b < a
  ·have t2 : decide (b < a) = true := by simpa using h2
   have HG : Hid (V = 1) := Lib.hid (by rw [HV.out]; simp [cmpI, h1, h2])
   clear h1 h2
   go_wp2_with (go_at_call 76; refine (c76 _ _).mono ?_; rintro e w' ⟨rfl, rfl⟩)
   go_ret
   exact ⟨ret_int HG.out.symm, rfl⟩
  ·have t2 : decide (b < a) = false := by simpa using h2
   have HG : Hid (V = 0) := Lib.hid (by rw [HV.out]; simp [cmpI, h1, h2])
   clear h1 h2
   go_wp2_with (go_at_call 76; refine (c76 _ _).mono ?_; rintro e w' ⟨rfl, rfl⟩)
   go_ret
   exact ⟨ret_int HG.out.symm, rfl⟩
end Go.Proofs.YtfmgibhffgkieaaDoor
namespace Go.Proofs.YtfmgibhffgkieaaDoor
open Go.RowKit
set_option maxHeartbeats 4000000
set_option maxRecDepth 20000
theorem take_eq_step {l m : List Int} {k : Nat} {x y : Int} (h : l.take k = m.take k) (hx : l[k]? = some x) (hy : m[k]? = some y) (he : x = y) : l.take (k + 1) = m.take (k + 1) := by
 rw [List.take_succ, List.take_succ, h, hx, hy, he]
theorem c13 (A B : Option Addr) (n m cap cap2 : Nat) (l k : List Int) (w : World) (hn : n ≤ 1000000) (hm : m ≤ 1000000) (H : RdI w A n l) (G : RdI w B m k) :
  Calls Tryd.prog 13 #[.slice A n cap, .slice B m cap2] w fun en w' => en = .returned (.bool (decide (l = k))) ∧ Below w.heap.size w w' := by
 have h1 := H.len
 have h2 := G.len
 by_cases hnm : n = m
 ·subst hnm
  obtain ⟨V, hV⟩ : ∃ V, V = decide (l = k) := ⟨_, rfl⟩
  rw [← hV]
  have HT : Hid (l.take n = k.take n → V = true) := Lib.hid (fun h => by
   rw [List.take_of_length_le (by omega), List.take_of_length_le (by omega)] at h
   rw [hV]; simpa using h)
  have HF : Hid (∀ (i : Nat) (x y : Int), l[i]? = some x → k[i]? = some y → x ≠ y → V = false) := Lib.hid (fun i x y hx hy hne => by
   rw [hV]
   simp only [decide_eq_false_iff_not]
   intro e
   rw [e, hy] at hx
   exact hne (by simpa using hx.symm))
  clear hV h1 h2
  have hnn : ((n : Int) != (n : Int)) = false := by simp
  go_enter Tryd.func13, Tryd.ntmps13
  go_wp2
  go_loopw [5] (fun i wr => ∃ j : Nat, j ≤ n ∧ i = .int .i64 j ∧ Hid (l.take j = k.take j) ∧ Below w.heap.size w wr) (fun i _ => n - (intOf i).toNat)
  case atStart => exact ⟨0, Nat.zero_le _, rfl, Lib.hid rfl, Below.refl _ _⟩
  case round =>
   obtain ⟨j, hj, rfl, he, hB⟩ := hrel
   by_cases hlt : j < n
   ·obtain ⟨b, off, x, rfl, hx, hb, h0⟩ := (H.below hB).at hlt
    obtain ⟨b2, off2, y, rfl, hy, hb2, h02⟩ := (G.below hB).at hlt
    have HX := Lib.hid hx
    have HY := Lib.hid hy
    clear hx hy
    go_wp2
    refine wp_region_growG (by kernel_rfl) (by kernel_rfl) ?_
    repeat (go_big_quiet_step ((first | fail)))
    refine wpQuiet_nil (gw_out ?_)
    intro w2 hw2
    have hB2 := fin0 hB hw2
    clear hw2
    by_cases hxy : x = y
    ·have hd : (x != y) = false := by simpa using hxy
     have HE := Lib.hid (take_eq_step he.out HX.out HY.out hxy)
     clear hxy
     go_wp2
     go_roundw
     case rel => exact ⟨j + 1, by omega, by go_num, HE, hB2⟩
     case measure => simp [intOf]; omega
    ·have hd : (x != y) = true := by simpa using hxy
     have HE := Lib.hid (HF.out j x y HX.out HY.out hxy)
     clear hxy
     go_wp2
     go_ret
     exact ⟨by rw [HE.out]; rfl, hB2⟩
   ·obtain rfl : j = n := by omega
    go_wp2
    go_ret
    exact ⟨by rw [HT.out he.out]; rfl, hB⟩
 ·have hd : ((n : Int) != (m : Int)) = true := by simp; omega
  have hne : decide (l = k) = false := by
   simp only [decide_eq_false_iff_not]
   intro e
   rw [e] at h1
   omega
  rw [hne]
  go_enter Tryd.func13, Tryd.ntmps13
  go_wp2
  go_ret
  exact ⟨rfl, Below.refl _ _⟩
/-- the quotient that Go takes -/
theorem td_cases (n d : Int) (hd : 0 < d) : ∃ r : Int, n = d * (n / d) + r ∧ 0 ≤ r ∧ r < d ∧ ((0 ≤ n ∧ n.tdiv d = n / d) ∨ (n < 0 ∧ r = 0 ∧ n.tdiv d = n / d) ∨ (n < 0 ∧ 0 < r ∧ n.tdiv d = n / d + 1)) := by
 have h1 := Int.emod_nonneg n (show d ≠ 0 by omega)
 have h2 := Int.emod_lt_of_pos n hd
 have h3 := Int.mul_ediv_add_emod n d
 refine ⟨n % d, by omega, h1, h2, ?_⟩
 rw [Int.tdiv_eq_ediv]
 by_cases h0 : 0 ≤ n
 ·exact .inl ⟨h0, by simp [h0]⟩
 ·by_cases hr : n % d = 0
  ·refine .inr (.inl ⟨by omega, hr, ?_⟩)
   rw [if_pos (.inr (Int.dvd_of_emod_eq_zero hr))]; omega
  ·refine .inr (.inr ⟨by omega, by omega, ?_⟩)
   rw [if_neg (fun h => by
    rcases h with h | h
    ·exact h0 h
    ·exact hr (Int.emod_eq_zero_of_dvd h)), Int.sign_eq_one_of_pos hd]
theorem td_abs (n d : Int) (hd : 0 < d) (b : Int) (hb : -b ≤ n ∧ n ≤ b) : -b ≤ n.tdiv d ∧ n.tdiv d ≤ b := by
 have h := Int.natAbs_tdiv_le_natAbs n d
 omega
theorem td_mul (n d : Int) (hd : 0 < d) (b : Int) (hb : -b ≤ n ∧ n ≤ b) : -b ≤ n.tdiv d * d ∧ n.tdiv d * d ≤ b := by
 obtain ⟨r, h1, h2, h3, h⟩ := td_cases n d hd
 have hc : d * (n / d) = n / d * d := Int.mul_comm _ _
 rcases h with ⟨h4, h5⟩ | ⟨h4, h6, h5⟩ | ⟨h4, h6, h5⟩
 ·have hq0 : 0 ≤ n / d * d := Int.mul_nonneg (Int.ediv_nonneg h4 (by omega)) (by omega)
  rw [h5]; omega
 ·rw [h5]; omega
 ·have hq1 : n / d < 0 := Int.ediv_neg_of_neg_of_pos h4 hd
  have hq0 : 0 ≤ -(n / d + 1) * d := Int.mul_nonneg (by omega) (by omega)
  rw [Int.neg_mul, Int.add_mul] at hq0
  rw [h5, Int.add_mul]; omega
theorem c39 (num den : Int) (w : World) (hn : -1000000 ≤ num ∧ num ≤ 1000000) (hd : 1 ≤ den ∧ den ≤ 1000000) :
  Calls Tryd.prog 39 #[.int .i64 num, .int .i64 den] w fun en w' => en = .returned (.int .i64 (num / den)) ∧ w = w' := by
 obtain ⟨r, h1, h2, h3, h⟩ := td_cases num den (by omega)
 have ha := td_abs num den (by omega) 1000000 hn
 have hm := td_mul num den (by omega) 1000000 hn
 have hcm : den * (num / den) = num / den * den := Int.mul_comm _ _
 obtain ⟨V, hV⟩ : ∃ V, V = num / den := ⟨_, rfl⟩
 obtain ⟨q, hq⟩ : ∃ q, q = num.tdiv den := ⟨_, rfl⟩
 obtain ⟨m, hmm⟩ : ∃ m, m = q * den := ⟨_, rfl⟩
 rw [← hV] at h1 h hcm ⊢
 rw [← hq] at h ha hm
 rw [← hmm] at hm
 have e1 : num.tdiv den = q := hq.symm
 have e2 : IntKind.i64.wrap q = q := wrapI (by omega)
 have e3 : IntKind.i64.wrap (q * den) = m := by rw [← hmm, wrapI (by omega)]
 have e4 : IntKind.i64.wrap (q - 1) = q - 1 := wrapI (by omega)
 have hd0 : ¬ (den = 0) := by omega
 have hfin : (num < m → V = q - 1) ∧ (¬ num < m → V = q) := by
  rcases h with ⟨h4, h5⟩ | ⟨h4, h6, h5⟩ | ⟨h4, h6, h5⟩
  ·rw [h5] at hmm; constructor <;> intro hx <;> omega
  ·rw [h5] at hmm; constructor <;> intro hx <;> omega
  ·rw [h5, Int.add_mul] at hmm; constructor <;> intro hx <;> omega
 have HF := Lib.hid hfin
 by_cases hc : num < m
 ·have t1 : decide (num < m) = true := by simpa using hc
  have HV := Lib.hid (HF.out.1 hc)
  clear h1 h2 h3 h ha hm hcm hV hq hmm hn hd hfin hc
  go_enter Tryd.func39, Tryd.ntmps39
  go_wp2
  go_ret
  exact ⟨ret_int HV.out.symm, rfl⟩
 ·have t1 : decide (num < m) = false := by simpa using hc
  have HV := Lib.hid (HF.out.2 hc)
  clear h1 h2 h3 h ha hm hcm hV hq hmm hn hd hfin hc
  go_enter Tryd.func39, Tryd.ntmps39
  go_wp2
  go_ret
  exact ⟨ret_int HV.out.symm, rfl⟩
def Mo.near (n d : Int) : Int := (2 * n + d) / (2 * d)
theorem c15 (num den : Int) (w : World) (hn : -100000 ≤ num ∧ num ≤ 100000) (hd : 1 ≤ den ∧ den ≤ 100000) :
  Calls Tryd.prog 15 #[.int .i64 num, .int .i64 den] w fun en w' => en = .returned (.int .i64 (Mo.near num den)) ∧ w = w' := by
 have e1 : IntKind.i64.wrap (2 * num) = 2 * num := wrapI (by omega)
 have e2 : IntKind.i64.wrap (2 * num + den) = 2 * num + den := wrapI (by omega)
 have e3 : IntKind.i64.wrap (2 * den) = 2 * den := wrapI (by omega)
 have h := c39 (2 * num + den) (2 * den) w (by omega) (by omega)
 have H := Lib.hid h
 clear h hn hd
 go_enter Tryd.func15, Tryd.ntmps15
 go_wp2_with fail
 refine H.out.mono ?_
 rintro e w' ⟨rfl, rfl⟩
 go_wp2
 go_ret
 exact ⟨rfl, rfl⟩
theorem c24 (num den : Int) (w : World) (hn : -100000 ≤ num ∧ num ≤ 100000) (hd : 1 ≤ den ∧ den ≤ 100000) :
  Calls Tryd.prog 24 #[.int .i64 num, .int .i64 den] w fun en w' => en = .returned (.int .i64 (Mo.near num den)) ∧ w = w' := by
 obtain ⟨n, hn2⟩ : ∃ n, n = 2 * num + den := ⟨_, rfl⟩
 obtain ⟨d, hd2⟩ : ∃ d, d = 2 * den := ⟨_, rfl⟩
 obtain ⟨r, h1, h2, h3, h⟩ := td_cases n d (by omega)
 have ha := td_abs n d (by omega) 1000000 (by omega)
 have hm := td_mul n d (by omega) 1000000 (by omega)
 have hcm : d * (n / d) = n / d * d := Int.mul_comm _ _
 obtain ⟨V, hV⟩ : ∃ V, V = Mo.near num den := ⟨_, rfl⟩
 have hV2 : V = n / d := by rw [hV, hn2, hd2]; rfl
 obtain ⟨q, hq⟩ : ∃ q, q = n.tdiv d := ⟨_, rfl⟩
 obtain ⟨m, hmm⟩ : ∃ m, m = q * d := ⟨_, rfl⟩
 rw [← hV2] at h1 h hcm
 rw [← hV]
 rw [← hq] at h ha hm
 rw [← hmm] at hm
 have e1 : n.tdiv d = q := hq.symm
 have e2 : IntKind.i64.wrap q = q := wrapI (by omega)
 have e5 : IntKind.i64.wrap (2 * num) = 2 * num := wrapI (by omega)
 have e6 : IntKind.i64.wrap (2 * num + den) = n := by rw [← hn2, wrapI (by omega)]
 have e7 : IntKind.i64.wrap (2 * den) = d := by rw [← hd2, wrapI (by omega)]
 have e8 : IntKind.i64.wrap (q * 2) = q * 2 := wrapI (by omega)
 have e3 : IntKind.i64.wrap (q * 2 * den) = m := by rw [Int.mul_assoc, ← hd2, ← hmm, wrapI (by omega)]
 have e4 : IntKind.i64.wrap (q - 1) = q - 1 := wrapI (by omega)
 have hd0 : ¬ (d = 0) := by omega
 have hfin : (n < 0 ∧ m ≠ n → V = q - 1) ∧ (¬ (n < 0 ∧ m ≠ n) → V = q) := by
  rcases h with ⟨h4, h5⟩ | ⟨h4, h6, h5⟩ | ⟨h4, h6, h5⟩
  ·rw [h5] at hmm; constructor <;> intro hx <;> omega
  ·rw [h5] at hmm; constructor <;> intro hx <;> omega
  ·rw [h5, Int.add_mul] at hmm; constructor <;> intro hx <;> omega
 have HF := Lib.hid hfin
 by_cases hc : n < 0
 ·have t1 : decide (n < 0) = true := by simpa using hc
  by_cases hc2 : m = n
  ·have t2 : (m != n) = false := by simpa using hc2
   have HV := Lib.hid (HF.out.2 (fun h => h.2 hc2))
   clear h1 h2 h3 h ha hm hcm hV hV2 hq hmm hn hd hfin hc hc2 hn2 hd2
   go_enter Tryd.func24, Tryd.ntmps24
   go_wp2
   go_ret
   exact ⟨ret_int HV.out.symm, rfl⟩
  ·have t2 : (m != n) = true := by simpa using hc2
   have HV := Lib.hid (HF.out.1 ⟨hc, hc2⟩)
   clear h1 h2 h3 h ha hm hcm hV hV2 hq hmm hn hd hfin hc hc2 hn2 hd2
   go_enter Tryd.func24, Tryd.ntmps24
   go_wp2
   go_ret
   exact ⟨ret_int HV.out.symm, rfl⟩
 ·have t1 : decide (n < 0) = false := by simpa using hc
  have HV := Lib.hid (HF.out.2 (fun h => hc h.1))
  clear h1 h2 h3 h ha hm hcm hV hV2 hq hmm hn hd hfin hc hn2 hd2
  go_enter Tryd.func24, Tryd.ntmps24
  go_wp2
  go_ret
  exact ⟨ret_int HV.out.symm, rfl⟩
end Go.Proofs.YtfmgibhffgkieaaDoor
namespace Go.Proofs.YtfmgibhffgkieaaDoor
open Go.RowKit
set_option maxHeartbeats 4000000
set_option maxRecDepth 20000
/-- the greatest common divisor -/
theorem c69 (a0 : Int) (b0 : Nat) (w : World) (ha : -1000000 ≤ a0 ∧ a0 ≤ 1000000) (hb : b0 ≤ 1000000) :
  Calls Tryd.prog 69 #[.int .i64 a0, .int .i64 b0] w fun en w' => en = .returned (.int .i64 (Nat.gcd a0.natAbs b0 : Nat)) ∧ Below w.heap.size w w' := by
 obtain ⟨G, hG⟩ : ∃ G, G = Nat.gcd a0.natAbs b0 := ⟨_, rfl⟩
 rw [← hG]
 have HG := Lib.hid hG
 clear hG
 go_enter Tryd.func69, Tryd.ntmps69
 go_wp2
 go_loopw [0, 1] (fun a b wr => ∃ x y : Int, a = .int .i64 x ∧ b = .int .i64 y ∧ Hid (Nat.gcd x.natAbs y.natAbs = G ∧ x.natAbs ≤ 1000000 ∧ y.natAbs ≤ 1000000) ∧ Hid (Below w.heap.size w wr)) (fun _ b _ => (intOf b).natAbs)
 case atStart => exact ⟨a0, b0, rfl, rfl, Lib.hid ⟨by rw [HG.out, Int.natAbs_natCast], by omega, by omega⟩, Lib.hid (Below.refl _ _)⟩
 case round =>
  obtain ⟨x, y, rfl, rfl, HXY, HBR⟩ := hrel
  by_cases hy : y = 0
  ·subst hy
   have hyf : (((0 : Nat) : Int) != 0) = false := rfl
   have hx : x.natAbs = G := by have h := HXY.out.1; simpa using h
   have hmx : max x (-x) = (G : Int) := by omega
   have hw : IntKind.i64.wrap (-x) = -x := wrapI (by have := HXY.out.2.1; omega)
   clear hmx
   go_wp2
   all_goals go_ret
   all_goals first | exact ⟨ret_int (a := x) (by omega), HBR.out⟩ | exact ⟨ret_int (a := -x) (by omega), HBR.out⟩
  ·have hyt : (y != 0) = true := by simpa using hy
   obtain ⟨z, hz⟩ : ∃ z, z = x.tmod y := ⟨_, rfl⟩
   have e1 : x.tmod y = z := hz.symm
   have hzl : z.natAbs = x.natAbs % y.natAbs := by rw [hz, Int.natAbs_tmod]
   have hlt : z.natAbs < y.natAbs := by rw [hzl]; exact Nat.mod_lt _ (by omega)
   have HN : Hid (Nat.gcd y.natAbs z.natAbs = G ∧ y.natAbs ≤ 1000000 ∧ z.natAbs ≤ 1000000) := Lib.hid ⟨by rw [hzl, Nat.gcd_comm, ← Nat.gcd_rec, Nat.gcd_comm]; exact HXY.out.1, HXY.out.2.2, by have := HXY.out.2.2; omega⟩
   have e2 : IntKind.i64.wrap z = z := wrapI (by have := HN.out.2.2; omega)
   have hy0 : ¬ (y = 0) := hy
   have HLT := Lib.hid hlt
   clear hz hzl hlt hy
   go_wp2
   refine wp_region_growG (by kernel_rfl) (by kernel_rfl) ?_
   repeat (go_big_quiet_step ((first | fail)))
   refine wpQuiet_nil (gw_out ?_)
   intro w2 hw2
   have HB2 := Lib.hid (fin0 HBR.out hw2)
   clear hw2
   go_wp2
   go_roundw
   case rel => exact ⟨y, z, rfl, rfl, HN, HB2⟩
   case measure => have := HLT.out; simp [intOf]; omega
namespace Mo
def lown (num : Int) (den : Nat) : Int := num.tdiv (Nat.gcd num.natAbs den : Nat)
def lowd (num : Int) (den : Nat) : Int := ((den / Nat.gcd num.natAbs den : Nat) : Int)
end Mo
theorem c75 (num den : Nat) (w : World) (hn : num ≤ 1000000000) (hd : 1 ≤ den ∧ den ≤ 1000000000) :
  Calls Tryd.prog 75 #[.int .i64 (num : Int), .int .i64 (den : Int)] w fun en w' => en = .returned (.agg #[.int .i64 (Mo.lown num den), .int .i64 (Mo.lowd num den)]) ∧ Below w.heap.size w w' := by
 obtain ⟨W, hW⟩ : ∃ W, W = w.alloc (Obj.cells #[.int .i64 0, .int .i64 0] 68) := ⟨_, rfl⟩
 have hT : W.heap[w.heap.size]? = some (.cells #[.int .i64 0, .int .i64 0] 68 (0, 0)) := by rw [hW]; exact heap_new rfl
 have HB : Hid (Below w.heap.size w W) := Lib.hid (by rw [hW]; exact (Below.refl _ _).alloc (Nat.le_refl _) _)
 have hw1 : IntKind.i64.wrap (-(num : Int)) = -(num : Int) := wrapI (by omega)
 obtain ⟨G, hG⟩ : ∃ G, G = Nat.gcd num den := ⟨_, rfl⟩
 have HG := Lib.hid hG
 have HGP : Hid (0 < G) := Lib.hid (by rw [hG]; exact Nat.gcd_pos_of_pos_right _ hd.1)
 have HGL : Hid (G ≤ den) := Lib.hid (by rw [hG]; exact Nat.gcd_le_right _ hd.1)
 have HNA : Hid (num ≤ 1000000000) := Lib.hid (by omega)
 have HV : Hid (Mo.lown num den = (num : Int).tdiv (G : Nat) ∧ Mo.lowd num den = ((den / G : Nat) : Int)) := Lib.hid (by rw [hG]; exact ⟨rfl, rfl⟩)
 clear hG
 go_enter Tryd.func75, Tryd.ntmps75
 go_wp2_with fail
 rw [← hW]
 clear hW
 go_loopw [5, 6] (fun a b wr => ∃ x y : Nat, a = .int .i64 (x : Int) ∧ b = .int .i64 (y : Int) ∧ Hid (Nat.gcd x y = G ∧ x ≤ 1000000000 ∧ y ≤ 1000000000) ∧ Hid (Below W.heap.size W wr)) (fun _ b _ => (intOf b).toNat)
 case atStart => exact ⟨num, den, rfl, rfl, Lib.hid ⟨HG.out.symm, HNA.out, hd.2⟩, Lib.hid (Below.refl _ _)⟩
 case round =>
  obtain ⟨x, y, rfl, rfl, HXY, HBR⟩ := hrel
  by_cases hy : y = 0
  ·subst hy
   have hyf : (((0 : Nat) : Int) != 0) = false := rfl
   have hx : x = G := by have h := HXY.out.1; rwa [Nat.gcd_zero_right] at h
   subst hx
   have hg0 : ¬ ((x : Int) = 0) := by have := HGP.out; omega
   have e1 : (den : Int).tdiv (x : Int) = ((den / x : Nat) : Int) := (Int.ofNat_tdiv _ _).symm
   have e0 : (num : Int).tdiv (x : Int) = ((num / x : Nat) : Int) := (Int.ofNat_tdiv _ _).symm
   have hnl := Nat.div_le_self num x
   obtain ⟨pq, hpq⟩ : ∃ q, q = num / x := ⟨_, rfl⟩
   rw [← hpq] at e0 hnl
   have e2 : IntKind.i64.wrap (pq : Int) = (pq : Int) := wrapI (by omega)
   have hql := Nat.div_le_self den x
   have HV1 := HV.out.1
   have HV2 := HV.out.2
   obtain ⟨q, hq⟩ : ∃ q, q = den / x := ⟨_, rfl⟩
   rw [← hq] at e1 hql HV2
   have e3 : IntKind.i64.wrap (q : Int) = (q : Int) := wrapI (by omega)
   have HVV : Hid (Mo.lown num den = (pq : Int) ∧ Mo.lowd num den = (q : Int)) := Lib.hid ⟨HV1.trans e0, HV2⟩
   clear hq hpq HV1 HV2 hw1
   have hx0 : ¬ x = 0 := by omega
   go_wp2_with fail
   refine wp_region_splitG 7 (by kernel_rfl) (by kernel_rfl) ?_
   simp only [List.take_succ_cons, List.take_zero, List.drop_succ_cons, List.drop_zero]
   repeat (go_big_quiet_step ((first | fail)))
   refine wpQuiet_nil (gw_out ?_)
   intro wq hbq
   have hTq := blkb (blkb hT HBR.out) hbq
   have hBq := (HB.out.call HBR.out rfl).call hbq rfl
   have c0 : wq.cell? ⟨w.heap.size, 0, none⟩ = some (.int .i64 0) := cell_at hTq rfl
   have c1 : wq.cell? ⟨w.heap.size, 1, none⟩ = some (.int .i64 0) := cell_at hTq rfl
   have f0 : wq.frozen? ⟨w.heap.size, 0, none⟩ = false := free_at hTq
   have f1 : wq.frozen? ⟨w.heap.size, 1, none⟩ = false := free_at hTq
   have hT2 := set_blk (i := 1) (set_blk (i := 0) hTq (.int .i64 (pq : Int))) (.int .i64 (q : Int))
   have hbf := (hBq.setCell (p := ⟨w.heap.size, 0, none⟩) (by show _ ≤ w.heap.size; omega) (.int .i64 (pq : Int))).setCell (p := ⟨w.heap.size, 1, none⟩) (by show _ ≤ w.heap.size; omega) (.int .i64 (q : Int))
   have HT2 := Lib.hid hT2
   have HBF := Lib.hid hbf
   clear hT2 hbf hTq hBq hbq hT
   go_wp2_with fail
   exact bodyPost_ret (results_blk rfl rfl HT2.out _ Tryd.underlying68 rfl (by kernel_rfl)) rfl ⟨by rw [HVV.out.1, HVV.out.2]; rfl, HBF.out⟩
  ·have hyf : ((y : Int) != 0) = true := by simp; omega
   have hy0 : ¬ ((y : Int) = 0) := by omega
   have hml : x % y < y := Nat.mod_lt _ (by omega)
   have em0 : (x : Int).tmod (y : Int) = ((x % y : Nat) : Int) := (Int.ofNat_tmod _ _).symm
   have HXY2 : Hid (Nat.gcd y (x % y) = G ∧ y ≤ 1000000000 ∧ x % y ≤ 1000000000) := Lib.hid (by
    have h := HXY.out
    refine ⟨?_, h.2.2, by omega⟩
    rw [← h.1, Nat.gcd_comm x y, Nat.gcd_rec y x, Nat.gcd_comm])
   obtain ⟨q, hq⟩ : ∃ q, q = x % y := ⟨_, rfl⟩
   rw [← hq] at em0 HXY2 hml
   have hwm : IntKind.i64.wrap (q : Int) = (q : Int) := wrapI (by have := HXY2.out.2.2; omega)
   clear hq
   go_wp2
   refine wp_region_growG (by kernel_rfl) (by kernel_rfl) ?_
   repeat (go_big_quiet_step ((first | fail)))
   refine wpQuiet_nil (gw_out ?_)
   intro wq hwq
   have HBR2 : Hid (Below W.heap.size W wq) := Lib.hid (HBR.out.call hwq rfl)
   clear hwq
   go_wp2
   go_roundw
   case rel => exact ⟨y, q, rfl, rfl, HXY2, HBR2⟩
   case measure => simp [intOf]; omega
theorem c53 (num : Int) (den : Nat) (w : World) (hn : -1000000 ≤ num ∧ num ≤ 1000000) (hd : 1 ≤ den ∧ den ≤ 1000000) :
  Calls Tryd.prog 53 #[.int .i64 num, .int .i64 (den : Int)] w fun en w' => en = .returned (.agg #[.int .i64 (Mo.lown num den), .int .i64 (Mo.lowd num den)]) ∧ Below w.heap.size w w' := by
 obtain ⟨W, hW⟩ : ∃ W, W = w.alloc (Obj.cells #[.int .i64 0, .int .i64 0] 68) := ⟨_, rfl⟩
 have hT : W.heap[w.heap.size]? = some (.cells #[.int .i64 0, .int .i64 0] 68 (0, 0)) := by rw [hW]; exact heap_new rfl
 have HB : Hid (Below w.heap.size w W) := Lib.hid (by rw [hW]; exact (Below.refl _ _).alloc (Nat.le_refl _) _)
 obtain ⟨G, hG⟩ : ∃ G, G = Nat.gcd num.natAbs den := ⟨_, rfl⟩
 have hgp : 0 < G := by rw [hG]; exact Nat.gcd_pos_of_pos_right _ hd.1
 have hgl : G ≤ den := by rw [hG]; exact Nat.gcd_le_right _ hd.1
 have hV : Mo.lown num den = num.tdiv (G : Nat) ∧ Mo.lowd num den = ((den / G : Nat) : Int) := by rw [hG]; exact ⟨rfl, rfl⟩
 have h69 := fun w => c69 num den w hn hd.2
 rw [← hG] at h69
 have hg0 : ¬ ((G : Int) = 0) := by omega
 have e1 : (den : Int).tdiv (G : Int) = ((den / G : Nat) : Int) := (Int.ofNat_tdiv _ _).symm
 have e2 : IntKind.i64.wrap (num.tdiv (G : Int)) = num.tdiv (G : Int) := wrapI (by
  have h := Int.natAbs_tdiv_le_natAbs num (G : Int)
  omega)
 have hql := Nat.div_le_self den G
 obtain ⟨q, hq⟩ : ∃ q, q = den / G := ⟨_, rfl⟩
 rw [← hq] at e1 hql hV
 have e3 : IntKind.i64.wrap (q : Int) = (q : Int) := wrapI (by omega)
 obtain ⟨p, hp⟩ : ∃ p, p = num.tdiv (G : Int) := ⟨_, rfl⟩
 rw [← hp] at e2 hV
 have e0 : num.tdiv (G : Int) = p := hp.symm
 have HVV := Lib.hid hV
 have H69 := Lib.hid h69
 clear hG hV h69 hq hp hgp hgl hql hd hn
 go_enter Tryd.func53, Tryd.ntmps53
 go_wp2_with fail
 rw [← hW]
 clear hW
 refine (H69.out _).mono ?_
 rintro e w1 ⟨rfl, hb1⟩
 replace hT := blkb hT hb1
 have HB1 := Lib.hid (HB.out.call hb1 rfl)
 clear hb1
 go_wp2_with fail
 refine wp_region_splitG 7 (by kernel_rfl) (by kernel_rfl) ?_
 simp only [List.take_succ_cons, List.take_zero, List.drop_succ_cons, List.drop_zero]
 repeat (go_big_quiet_step ((first | fail)))
 refine wpQuiet_nil (gw_out ?_)
 intro wq hbq
 have hTq := blkb hT hbq
 have hBq := HB1.out.call hbq rfl
 have c0 : wq.cell? ⟨w.heap.size, 0, none⟩ = some (.int .i64 0) := cell_at hTq rfl
 have c1 : wq.cell? ⟨w.heap.size, 1, none⟩ = some (.int .i64 0) := cell_at hTq rfl
 have f0 : wq.frozen? ⟨w.heap.size, 0, none⟩ = false := free_at hTq
 have f1 : wq.frozen? ⟨w.heap.size, 1, none⟩ = false := free_at hTq
 have hT2 := set_blk (i := 1) (set_blk (i := 0) hTq (.int .i64 p)) (.int .i64 (q : Int))
 have hbf := (hBq.setCell (p := ⟨w.heap.size, 0, none⟩) (by show _ ≤ w.heap.size; omega) (.int .i64 p)).setCell (p := ⟨w.heap.size, 1, none⟩) (by show _ ≤ w.heap.size; omega) (.int .i64 (q : Int))
 have HT2 := Lib.hid hT2
 have HBF := Lib.hid hbf
 clear hT2 hbf hTq hBq hbq hT
 go_wp2_with fail
 exact bodyPost_ret (results_blk rfl rfl HT2.out _ Tryd.underlying68 rfl (by kernel_rfl)) rfl ⟨by rw [HVV.out.1, HVV.out.2]; rfl, HBF.out⟩
end Go.Proofs.YtfmgibhffgkieaaDoor
namespace Go.Proofs.YtfmgibhffgkieaaDoor
open Go.RowKit
set_option maxHeartbeats 4000000
set_option maxRecDepth 20000
theorem fm1 (w : World) : (binOp .mul 44 (.float .f32 1098907648) (.float .f32 1065353216)).run Tryd.prog w = .ok (.float .f32 1098907648) w := by kernel_rfl
theorem fm0 (w : World) : (binOp .mul 44 (.float .f32 1098907648) (.float .f32 0)).run Tryd.prog w = .ok (.float .f32 0) w := by kernel_rfl
theorem fx1 (w : World) : (binOp .mul 44 (.float .f32 1065353216) (.float .f32 1098907648)).run Tryd.prog w = .ok (.float .f32 1098907648) w := by kernel_rfl
theorem fx0 (w : World) : (binOp .mul 44 (.float .f32 0) (.float .f32 1098907648)).run Tryd.prog w = .ok (.float .f32 0) w := by kernel_rfl
theorem fc1 (w : World) : (convert 44 3 (.float .f32 1098907648)).run Tryd.prog w = .ok (.int .i64 16) w := by kernel_rfl
theorem fc0 (w : World) : (convert 44 3 (.float .f32 0)).run Tryd.prog w = .ok (.int .i64 0) w := by kernel_rfl
theorem fi1 (w : World) : (convert 3 44 (.int .i64 16)).run Tryd.prog w = .ok (.float .f32 1098907648) w := by kernel_rfl
theorem fi0 (w : World) : (convert 3 44 (.int .i64 0)).run Tryd.prog w = .ok (.float .f32 0) w := by kernel_rfl
theorem fik (w : World) : (convert 3 44 (.int .i64 1024)).run Tryd.prog w = .ok (.float .f32 1149239296) w := by kernel_rfl
theorem fd1 (w : World) : (binOp .quo 44 (.float .f32 1098907648) (.float .f32 1098907648)).run Tryd.prog w = .ok (.float .f32 1065353216) w := by kernel_rfl
theorem fd0 (w : World) : (binOp .quo 44 (.float .f32 0) (.float .f32 1098907648)).run Tryd.prog w = .ok (.float .f32 0) w := by kernel_rfl
theorem fs1 (w : World) : (binOp .sub 44 (.float .f32 1065353216) (.float .f32 1065353216)).run Tryd.prog w = .ok (.float .f32 0) w := by kernel_rfl
theorem fs0 (w : World) : (binOp .sub 44 (.float .f32 0) (.float .f32 0)).run Tryd.prog w = .ok (.float .f32 0) w := by kernel_rfl
theorem fe0 (w : World) : (binOp .eql 44 (.float .f32 0) (.float .f32 0)).run Tryd.prog w = .ok (.bool true) w := by kernel_rfl
theorem fe1 (w : World) : (binOp .eql 44 (.float .f32 1098907648) (.float .f32 1098907648)).run Tryd.prog w = .ok (.bool true) w := by kernel_rfl
theorem fn1 (w : World) : Sem.run Tryd.prog (Op.unary UnOp.neg (.float .f32 1149239296)) w = .ok (.float .f32 3296722944) w := by kernel_rfl
theorem fl1 : FloatKind.f32.format.order 3296722944 1065353216 = some .lt := by kernel_rfl
theorem fl0 : FloatKind.f32.format.order 3296722944 0 = some .lt := by kernel_rfl
theorem fg1 : FloatKind.f32.format.order 1065353216 1149239296 = some .lt := by kernel_rfl
theorem fg0 : FloatKind.f32.format.order 0 1149239296 = some .lt := by kernel_rfl
/-- 0 and 1 as float32, 0 and 16 as integers -/
def Bt (v : Nat) (k : Int) : Prop := (v = 0 ∧ k = 0) ∨ (v = 1065353216 ∧ k = 16)
theorem c26 {v : Nat} {k : Int} (h : Bt v k) (w : World) : Calls Tryd.prog 26 #[.float .f32 v] w fun en w' => en = .returned (.int .i64 k) ∧ w = w' := by
 have m1 := fm1; have m0 := fm0; have a1 := fc1; have a0 := fc0
 rcases h with ⟨rfl, rfl⟩ | ⟨rfl, rfl⟩
 ·go_enter Tryd.func26, Tryd.ntmps26
  go_wp2
  go_ret
  exact ⟨rfl, rfl⟩
 ·go_enter Tryd.func26, Tryd.ntmps26
  go_wp2
  go_ret
  exact ⟨rfl, rfl⟩
theorem c33 {v : Nat} {k : Int} (h : Bt v k) (w : World) : Calls Tryd.prog 33 #[.float .f32 v] w fun en w' => en = .returned (.int .i64 k) ∧ w = w' := by
 have m1 := fx1; have m0 := fx0; have a1 := fc1; have a0 := fc0
 rcases h with ⟨rfl, rfl⟩ | ⟨rfl, rfl⟩
 ·go_enter Tryd.func33, Tryd.ntmps33
  go_wp2
  go_ret
  exact ⟨rfl, rfl⟩
 ·go_enter Tryd.func33, Tryd.ntmps33
  go_wp2
  go_ret
  exact ⟨rfl, rfl⟩
theorem c58 {v : Nat} {k : Int} (h : Bt v k) (w : World) : Calls Tryd.prog 58 #[.int .i64 k] w fun en w' => en = .returned (.float .f32 v) ∧ w = w' := by
 have m1 := fd1; have m0 := fd0; have a1 := fi1; have a0 := fi0
 rcases h with ⟨rfl, rfl⟩ | ⟨rfl, rfl⟩
 ·go_enter Tryd.func58, Tryd.ntmps58
  go_wp2
  go_ret
  exact ⟨rfl, rfl⟩
 ·go_enter Tryd.func58, Tryd.ntmps58
  go_wp2
  go_ret
  exact ⟨rfl, rfl⟩
theorem c77 {v : Nat} {k : Int} (h : Bt v k) (w : World) : Calls Tryd.prog 77 #[.float .f32 v] w fun en w' => en = .returned (.bool true) ∧ w = w' := by
 have m1 := fs1; have m0 := fs0; have a0 := fe0
 rcases h with ⟨rfl, rfl⟩ | ⟨rfl, rfl⟩
 ·go_enter Tryd.func77, Tryd.ntmps77
  go_wp2
  go_ret
  exact ⟨rfl, rfl⟩
 ·go_enter Tryd.func77, Tryd.ntmps77
  go_wp2
  go_ret
  exact ⟨rfl, rfl⟩
theorem c78 {v : Nat} {k : Int} (h : Bt v k) (w : World) : Calls Tryd.prog 78 #[.float .f32 v, .int .i64 1024] w fun en w' => en = .returned (.bool true) ∧ w = w' := by
 have m1 := fx1; have m0 := fx0; have a1 := fc1; have a0 := fc0; have i1 := fi1; have i0 := fi0; have ik := fik; have n1 := fn1; have e1 := fe1; have e0 := fe0; have l1 := fl1; have l0 := fl0; have g1 := fg1; have g0 := fg0
 rcases h with ⟨rfl, rfl⟩ | ⟨rfl, rfl⟩
 ·go_enter Tryd.func78, Tryd.ntmps78
  go_wp2
  go_ret
  exact ⟨rfl, rfl⟩
 ·go_enter Tryd.func78, Tryd.ntmps78
  go_wp2
  go_ret
  exact ⟨rfl, rfl⟩
theorem c72 {v : Nat} {k : Int} (h : Bt v k) (w : World) : Calls Tryd.prog 72 #[.float .f32 v] w fun en w' => en = .returned (.int .i64 0) ∧ Below w.heap.size w w' := by
 have h77 := fun w => c77 h w
 have h78 := fun w => c78 h w
 have H77 := Lib.hid h77
 have H78 := Lib.hid h78
 clear h77 h78 h
 go_enter Tryd.func72, Tryd.ntmps72
 go_wp2_with fail
 refine (H77.out _).mono ?_
 rintro e w' ⟨rfl, rfl⟩
 go_wp2_with fail
 refine (c31 false 1 _).mono ?_
 rintro e w' ⟨rfl, rfl⟩
 go_wp2_with fail
 refine (H78.out _).mono ?_
 rintro e w' ⟨rfl, rfl⟩
 go_wp2_with fail
 refine (c31 false 3 _).mono ?_
 rintro e w' ⟨rfl, rfl⟩
 go_wp2_with fail
 refine (c29 _ 2 2 [Mo.when false 1, Mo.when false 3] _ rfl (by omega) (RdS.of_new (cs := encI [Mo.when false 1, Mo.when false 3]) rfl rfl)).mono ?_
 rintro e w' ⟨rfl, rfl⟩
 have hf : Mo.first [Mo.when false 1, Mo.when false 3] = 0 := rfl
 rw [hf]
 have hB := (Below.refl w.heap.size w).alloc (Nat.le_refl _) (Obj.cells (encI [Mo.when false 1, Mo.when false 3]).toArray 36)
 go_wp2
 go_ret
 exact ⟨rfl, hB⟩
theorem c56 (x : Int) (h : -16384 ≤ x ∧ x ≤ 16384) (w : World) : Calls Tryd.prog 56 #[.int .i64 x] w fun en w' => en = .returned (.bool true) ∧ w = w' := by
 have h1 : decide (-16384 ≤ x) = true := by simp; omega
 have h2 : decide (x ≤ 16384) = true := by simp; omega
 have h3 : -16384 ≤ x := h.1
 have h4 : x ≤ 16384 := h.2
 clear h
 go_enter Tryd.func56, Tryd.ntmps56
 go_wp2
 go_ret
 exact ⟨rfl, rfl⟩
theorem c55 (x : Int) (h : -16384 ≤ x ∧ x ≤ 16384) (w : World) : Calls Tryd.prog 55 #[.int .i64 x] w fun en w' => en = .returned (.bool false) ∧ w = w' := by
 have H := Lib.hid h
 clear h
 go_enter Tryd.func55, Tryd.ntmps55
 go_wp2_with fail
 refine (c56 x H.out _).mono ?_
 rintro e w' ⟨rfl, rfl⟩
 go_wp2
 go_ret
 exact ⟨rfl, rfl⟩
end Go.Proofs.YtfmgibhffgkieaaDoor
namespace Go.Proofs.YtfmgibhffgkieaaDoor
open Go.RowKit
set_option maxHeartbeats 4000000
set_option maxRecDepth 20000
theorem info36 : (Tryd.prog.info? 36).map (fun i => (i.zero, i.size, i.bytes)) = some (some (.int .i64 0), 1, 8) := by kernel_rfl
theorem info44 : (Tryd.prog.info? 44).map (fun i => (i.zero, i.size, i.bytes)) = some (some (.float .f32 0), 1, 4) := by kernel_rfl
def encF (l : List Nat) : List Value := l.map (Value.float .f32)
theorem enc_at {α : Type} {enc : α → Value} {w : World} {A : Option Addr} {n : Nat} {l : List α} (h : RdS w 1 A n (l.map enc)) {k : Nat} (hk : k < n) : ∃ b off x, A = some ⟨b, off, none⟩ ∧ l[k]? = some x ∧ b < w.heap.size ∧ w.cell? ⟨b, off + k, none⟩ = some (enc x) := by
 obtain ⟨b, off, hA, hb, hc⟩ := RdS.at h hk
 have hl : l.length = n := by have := h.1; simpa using this
 have hx : k < l.length := by omega
 have h0 := hc 0 (by omega)
 simp [hx] at h0
 exact ⟨b, off, l[k], hA, by simp [hx], hb, h0⟩
theorem c25 (A : Option Addr) (n cap : Nat) (l : List Nat) (f : Nat → Int) (w : World) (hl : n ≤ 1000000) (H : RdS w 1 A n (l.map (Value.float .f32)))
  (hcl : ∀ (W : World) (x : Nat), x ∈ l → Calls Tryd.prog 26 #[Value.float .f32 x] W fun e w' => e = .returned (Value.int .i64 (f x)) ∧ Below W.heap.size W w') :
  Calls Tryd.prog 25 #[.slice A n cap, .func (.func 26) #[] #[]] w fun en w' => ∃ A' cap', en = .returned (.slice A' n cap') ∧ w'.ownsRow w.heap.size 3 1 (.slice A' n cap') n ((l.map f).map (Value.int .i64)) ∧ Below w.heap.size w w' := by
 have Hn : Hid (l.length = n) := Lib.hid (by have := H.1; simpa using this)
 have Hcl := Lib.hid hcl
 have hmm : (l.map f).map (Value.int .i64) = l.map fun x => Value.int .i64 (f x) := by simp
 have Hm := Lib.hid hmm
 clear hcl hmm
 obtain ⟨i0, hi, hz0, hz1, hz2⟩ := info_parts info3
 go_enter Tryd.func25, Tryd.ntmps25
 go_wp2
 go_loopw [5, 10] (fun x i wr => ∃ k : Nat, k ≤ n ∧ i = .int .i64 k ∧ wr.ownsRow w.heap.size 3 1 x k ((l.map fun x => Value.int .i64 (f x)).take k) ∧ Below w.heap.size w wr) (fun _ i _ => n - (intOf i).toNat)
 case atStart => exact ⟨0, Nat.zero_le _, rfl, World.ownsRow_nil _ _ _ _, Below.refl _ _⟩
 case round =>
  obtain ⟨k, hk, rfl, hown, hB⟩ := hrel
  by_cases hlt : k < n
  ·obtain ⟨b, off, x, rfl, hx, hb, h0⟩ := enc_at (H.below hB) hlt
   have Hx := Lib.hid hx
   have htk : (l.map fun x => Value.int .i64 (f x)).take (k + 1) = (l.map fun x => Value.int .i64 (f x)).take k ++ [Value.int .i64 (f x)] := by rw [List.take_add_one, List.getElem?_map, hx]; simp
   have HTK := Lib.hid htk
   clear hx htk
   go_wp2_with fail
   refine (Hcl.out _ x (List.mem_of_getElem? Hx.out)).mono ?_
   rintro e w2 ⟨rfl, hb2⟩
   replace hown := own_below hown hb2
   replace hB := hB.call hb2 rfl
   clear hb2 h0 hb
   have hsz := hB.size
   obtain ⟨y, hy⟩ : ∃ y, y = f x := ⟨_, rfl⟩
   rw [← hy] at HTK ⊢
   clear hy
   go_wp2_with (at_builtin; refine wpList_append_own _ rfl _ _ 35 rfl w.heap.size 3 i0 (.int .i64 0) 1 8 Tryd.underlying35 hi hz0 hz1 hz2 rfl (by decide) _ _ _ rfl (hown.alloc _) ⟨w2.heap.size, 0, none⟩ 1 1 [Value.int .i64 y] rfl rfl (news_one _ _ rfl) (fun x hx => by rw [List.mem_singleton.1 hx]; rfl) (by unfold maxLen; omega) (by omega) (by simp; omega) ?_)
   intro x' w3 hown3 hg3 _
   have hB3 : Below w.heap.size w w3 := (hB.alloc hsz _).grown hg3 (by simp; omega) (fun g hg => (hown.lt g hg).1)
   rw [← HTK.out] at hown3
   have HO := Lib.hid hown3
   clear hown3 hg3 hown
   go_wp2
   go_roundw
   case rel => exact ⟨k + 1, by omega, by go_num, HO.out, hB3⟩
   case measure => simp [intOf]; omega
  ·obtain rfl : n = k := by omega
   rw [List.take_of_length_le (by rw [List.length_map, Hn.out]; exact Nat.le_refl _)] at hown
   have HO := Lib.hid hown
   clear hown
   go_wp2
   go_ret
   obtain ⟨A', cap', h9, hr⟩ := Sl.of_own HO.out
   refine ⟨A', cap', by rw [← h9]; rfl, ?_, hB⟩
   rw [Hm.out, ← h9]
   exact HO.out
theorem c32 (A : Option Addr) (n cap : Nat) (l : List Nat) (f : Nat → Int) (w : World) (hl : n ≤ 1000000) (H : RdS w 1 A n (l.map (Value.float .f32)))
  (hcl : ∀ (W : World) (x : Nat), x ∈ l → Calls Tryd.prog 33 #[Value.float .f32 x] W fun e w' => e = .returned (Value.int .i64 (f x)) ∧ Below W.heap.size W w') :
  Calls Tryd.prog 32 #[.slice A n cap, .func (.func 33) #[] #[]] w fun en w' => ∃ A' cap', en = .returned (.slice A' n cap') ∧ w'.ownsRow w.heap.size 3 1 (.slice A' n cap') n ((l.map f).map (Value.int .i64)) ∧ Below w.heap.size w w' := by
 have Hn : Hid (l.length = n) := Lib.hid (by have := H.1; simpa using this)
 have Hcl := Lib.hid hcl
 have hmm : (l.map f).map (Value.int .i64) = l.map fun x => Value.int .i64 (f x) := by simp
 have Hm := Lib.hid hmm
 clear hcl hmm
 obtain ⟨i0, hi, hz0, hz1, hz2⟩ := info_parts info3
 go_enter Tryd.func32, Tryd.ntmps32
 go_wp2
 go_loopw [5, 10] (fun x i wr => ∃ k : Nat, k ≤ n ∧ i = .int .i64 k ∧ wr.ownsRow w.heap.size 3 1 x k ((l.map fun x => Value.int .i64 (f x)).take k) ∧ Below w.heap.size w wr) (fun _ i _ => n - (intOf i).toNat)
 case atStart => exact ⟨0, Nat.zero_le _, rfl, World.ownsRow_nil _ _ _ _, Below.refl _ _⟩
 case round =>
  obtain ⟨k, hk, rfl, hown, hB⟩ := hrel
  by_cases hlt : k < n
  ·obtain ⟨b, off, x, rfl, hx, hb, h0⟩ := enc_at (H.below hB) hlt
   have Hx := Lib.hid hx
   have htk : (l.map fun x => Value.int .i64 (f x)).take (k + 1) = (l.map fun x => Value.int .i64 (f x)).take k ++ [Value.int .i64 (f x)] := by rw [List.take_add_one, List.getElem?_map, hx]; simp
   have HTK := Lib.hid htk
   clear hx htk
   go_wp2_with fail
   refine (Hcl.out _ x (List.mem_of_getElem? Hx.out)).mono ?_
   rintro e w2 ⟨rfl, hb2⟩
   replace hown := own_below hown hb2
   replace hB := hB.call hb2 rfl
   clear hb2 h0 hb
   have hsz := hB.size
   obtain ⟨y, hy⟩ : ∃ y, y = f x := ⟨_, rfl⟩
   rw [← hy] at HTK ⊢
   clear hy
   go_wp2_with (at_builtin; refine wpList_append_own _ rfl _ _ 35 rfl w.heap.size 3 i0 (.int .i64 0) 1 8 Tryd.underlying35 hi hz0 hz1 hz2 rfl (by decide) _ _ _ rfl (hown.alloc _) ⟨w2.heap.size, 0, none⟩ 1 1 [Value.int .i64 y] rfl rfl (news_one _ _ rfl) (fun x hx => by rw [List.mem_singleton.1 hx]; rfl) (by unfold maxLen; omega) (by omega) (by simp; omega) ?_)
   intro x' w3 hown3 hg3 _
   have hB3 : Below w.heap.size w w3 := (hB.alloc hsz _).grown hg3 (by simp; omega) (fun g hg => (hown.lt g hg).1)
   rw [← HTK.out] at hown3
   have HO := Lib.hid hown3
   clear hown3 hg3 hown
   go_wp2
   go_roundw
   case rel => exact ⟨k + 1, by omega, by go_num, HO.out, hB3⟩
   case measure => simp [intOf]; omega
  ·obtain rfl : n = k := by omega
   rw [List.take_of_length_le (by rw [List.length_map, Hn.out]; exact Nat.le_refl _)] at hown
   have HO := Lib.hid hown
   clear hown
   go_wp2
   go_ret
   obtain ⟨A', cap', h9, hr⟩ := Sl.of_own HO.out
   refine ⟨A', cap', by rw [← h9]; rfl, ?_, hB⟩
   rw [Hm.out, ← h9]
   exact HO.out
theorem c71 (A : Option Addr) (n cap : Nat) (l : List Nat) (f : Nat → Int) (w : World) (hl : n ≤ 1000000) (H : RdS w 1 A n (l.map (Value.float .f32)))
  (hcl : ∀ (W : World) (x : Nat), x ∈ l → Calls Tryd.prog 72 #[Value.float .f32 x] W fun e w' => e = .returned (Value.int .i64 (f x)) ∧ Below W.heap.size W w') :
  Calls Tryd.prog 71 #[.slice A n cap, .func (.func 72) #[] #[]] w fun en w' => ∃ A' cap', en = .returned (.slice A' n cap') ∧ w'.ownsRow w.heap.size 36 1 (.slice A' n cap') n ((l.map f).map (Value.int .i64)) ∧ Below w.heap.size w w' := by
 have Hn : Hid (l.length = n) := Lib.hid (by have := H.1; simpa using this)
 have Hcl := Lib.hid hcl
 have hmm : (l.map f).map (Value.int .i64) = l.map fun x => Value.int .i64 (f x) := by simp
 have Hm := Lib.hid hmm
 clear hcl hmm
 obtain ⟨i0, hi, hz0, hz1, hz2⟩ := info_parts info36
 go_enter Tryd.func71, Tryd.ntmps71
 go_wp2
 go_loopw [5, 10] (fun x i wr => ∃ k : Nat, k ≤ n ∧ i = .int .i64 k ∧ wr.ownsRow w.heap.size 36 1 x k ((l.map fun x => Value.int .i64 (f x)).take k) ∧ Below w.heap.size w wr) (fun _ i _ => n - (intOf i).toNat)
 case atStart => exact ⟨0, Nat.zero_le _, rfl, World.ownsRow_nil _ _ _ _, Below.refl _ _⟩
 case round =>
  obtain ⟨k, hk, rfl, hown, hB⟩ := hrel
  by_cases hlt : k < n
  ·obtain ⟨b, off, x, rfl, hx, hb, h0⟩ := enc_at (H.below hB) hlt
   have Hx := Lib.hid hx
   have htk : (l.map fun x => Value.int .i64 (f x)).take (k + 1) = (l.map fun x => Value.int .i64 (f x)).take k ++ [Value.int .i64 (f x)] := by rw [List.take_add_one, List.getElem?_map, hx]; simp
   have HTK := Lib.hid htk
   clear hx htk
   go_wp2_with fail
   refine (Hcl.out _ x (List.mem_of_getElem? Hx.out)).mono ?_
   rintro e w2 ⟨rfl, hb2⟩
   replace hown := own_below hown hb2
   replace hB := hB.call hb2 rfl
   clear hb2 h0 hb
   have hsz := hB.size
   obtain ⟨y, hy⟩ : ∃ y, y = f x := ⟨_, rfl⟩
   rw [← hy] at HTK ⊢
   clear hy
   go_wp2_with (at_builtin; refine wpList_append_own _ rfl _ _ 97 rfl w.heap.size 36 i0 (.int .i64 0) 1 8 Tryd.underlying97 hi hz0 hz1 hz2 rfl (by decide) _ _ _ rfl (hown.alloc _) ⟨w2.heap.size, 0, none⟩ 1 1 [Value.int .i64 y] rfl rfl (news_one _ _ rfl) (fun x hx => by rw [List.mem_singleton.1 hx]; rfl) (by unfold maxLen; omega) (by omega) (by simp; omega) ?_)
   intro x' w3 hown3 hg3 _
   have hB3 : Below w.heap.size w w3 := (hB.alloc hsz _).grown hg3 (by simp; omega) (fun g hg => (hown.lt g hg).1)
   rw [← HTK.out] at hown3
   have HO := Lib.hid hown3
   clear hown3 hg3 hown
   go_wp2
   go_roundw
   case rel => exact ⟨k + 1, by omega, by go_num, HO.out, hB3⟩
   case measure => simp [intOf]; omega
  ·obtain rfl : n = k := by omega
   rw [List.take_of_length_le (by rw [List.length_map, Hn.out]; exact Nat.le_refl _)] at hown
   have HO := Lib.hid hown
   clear hown
   go_wp2
   go_ret
   obtain ⟨A', cap', h9, hr⟩ := Sl.of_own HO.out
   refine ⟨A', cap', by rw [← h9]; rfl, ?_, hB⟩
   rw [Hm.out, ← h9]
   exact HO.out
theorem c57 (A : Option Addr) (n cap : Nat) (l : List Int) (f : Int → Nat) (w : World) (hl : n ≤ 1000000) (H : RdS w 1 A n (l.map (Value.int .i64)))
  (hcl : ∀ (W : World) (x : Int), x ∈ l → Calls Tryd.prog 58 #[Value.int .i64 x] W fun e w' => e = .returned (Value.float .f32 (f x)) ∧ Below W.heap.size W w') :
  Calls Tryd.prog 57 #[.slice A n cap, .func (.func 58) #[] #[]] w fun en w' => ∃ A' cap', en = .returned (.slice A' n cap') ∧ w'.ownsRow w.heap.size 44 1 (.slice A' n cap') n ((l.map f).map (Value.float .f32)) ∧ Below w.heap.size w w' := by
 have Hn : Hid (l.length = n) := Lib.hid (by have := H.1; simpa using this)
 have Hcl := Lib.hid hcl
 have hmm : (l.map f).map (Value.float .f32) = l.map fun x => Value.float .f32 (f x) := by simp
 have Hm := Lib.hid hmm
 clear hcl hmm
 obtain ⟨i0, hi, hz0, hz1, hz2⟩ := info_parts info44
 go_enter Tryd.func57, Tryd.ntmps57
 go_wp2
 go_loopw [5, 10] (fun x i wr => ∃ k : Nat, k ≤ n ∧ i = .int .i64 k ∧ wr.ownsRow w.heap.size 44 1 x k ((l.map fun x => Value.float .f32 (f x)).take k) ∧ Below w.heap.size w wr) (fun _ i _ => n - (intOf i).toNat)
 case atStart => exact ⟨0, Nat.zero_le _, rfl, World.ownsRow_nil _ _ _ _, Below.refl _ _⟩
 case round =>
  obtain ⟨k, hk, rfl, hown, hB⟩ := hrel
  by_cases hlt : k < n
  ·obtain ⟨b, off, x, rfl, hx, hb, h0⟩ := enc_at (H.below hB) hlt
   have Hx := Lib.hid hx
   have htk : (l.map fun x => Value.float .f32 (f x)).take (k + 1) = (l.map fun x => Value.float .f32 (f x)).take k ++ [Value.float .f32 (f x)] := by rw [List.take_add_one, List.getElem?_map, hx]; simp
   have HTK := Lib.hid htk
   clear hx htk
   go_wp2_with fail
   refine (Hcl.out _ x (List.mem_of_getElem? Hx.out)).mono ?_
   rintro e w2 ⟨rfl, hb2⟩
   replace hown := own_below hown hb2
   replace hB := hB.call hb2 rfl
   clear hb2 h0 hb
   have hsz := hB.size
   obtain ⟨y, hy⟩ : ∃ y, y = f x := ⟨_, rfl⟩
   rw [← hy] at HTK ⊢
   clear hy
   go_wp2_with (at_builtin; refine wpList_append_own _ rfl _ _ 45 rfl w.heap.size 44 i0 (.float .f32 0) 1 4 Tryd.underlying45 hi hz0 hz1 hz2 rfl (by decide) _ _ _ rfl (hown.alloc _) ⟨w2.heap.size, 0, none⟩ 1 1 [Value.float .f32 y] rfl rfl (news_one _ _ rfl) (fun x hx => by rw [List.mem_singleton.1 hx]; rfl) (by unfold maxLen; omega) (by omega) (by simp; omega) ?_)
   intro x' w3 hown3 hg3 _
   have hB3 : Below w.heap.size w w3 := (hB.alloc hsz _).grown hg3 (by simp; omega) (fun g hg => (hown.lt g hg).1)
   rw [← HTK.out] at hown3
   have HO := Lib.hid hown3
   clear hown3 hg3 hown
   go_wp2
   go_roundw
   case rel => exact ⟨k + 1, by omega, by go_num, HO.out, hB3⟩
   case measure => simp [intOf]; omega
  ·obtain rfl : n = k := by omega
   rw [List.take_of_length_le (by rw [List.length_map, Hn.out]; exact Nat.le_refl _)] at hown
   have HO := Lib.hid hown
   clear hown
   go_wp2
   go_ret
   obtain ⟨A', cap', h9, hr⟩ := Sl.of_own HO.out
   refine ⟨A', cap', by rw [← h9]; rfl, ?_, hB⟩
   rw [Hm.out, ← h9]
   exact HO.out
end Go.Proofs.YtfmgibhffgkieaaDoor
namespace Go.Proofs.YtfmgibhffgkieaaDoor
open Go.RowKit
set_option maxHeartbeats 4000000
set_option maxRecDepth 20000
theorem c70 (A : Option Addr) (n cap : Nat) (l : List Int) (w : World) (hl : n ≤ 1000000) (H : RdI w A n l) (hr : ∀ x ∈ l, -16384 ≤ x ∧ x ≤ 16384) :
  Calls Tryd.prog 70 #[.slice A n cap, .func (.func 55) #[] #[]] w fun en w' => en = .returned (.int .i64 (-1)) ∧ w = w' := by
 have HR := Lib.hid hr
 clear hr
 go_enter Tryd.func70, Tryd.ntmps70
 go_wp2
 go_loop [8] (fun i => ∃ k : Nat, k ≤ n ∧ i = .int .i64 k) (fun i => n - (intOf i).toNat)
 case atStart => exact ⟨0, Nat.zero_le _, rfl⟩
 case round =>
  obtain ⟨k, hk, rfl⟩ := hrel
  by_cases hlt : k < n
  ·obtain ⟨b, off, x, rfl, hx, hb, h0⟩ := H.at hlt
   have H55 := Lib.hid (fun W => c55 x (HR.out x (List.mem_of_getElem? hx)) W)
   clear hx hb
   go_wp2_with fail
   refine (H55.out _).mono ?_
   rintro e w' ⟨rfl, rfl⟩
   go_wp2
   go_round
   case rel => exact ⟨k + 1, by omega, by go_num⟩
   case measure => simp [intOf]; omega
  ·go_wp2
   go_ret
   exact ⟨rfl, rfl⟩
theorem c54 (A : Option Addr) (n cap : Nat) (l : List Int) (w : World) (hl : n ≤ 1000000) (H : RdI w A n l) (hr : ∀ x ∈ l, -16384 ≤ x ∧ x ≤ 16384) :
  Calls Tryd.prog 54 #[.slice A n cap, .func (.func 55) #[] #[]] w fun en w' => en = .returned (.bool false) ∧ w = w' := by
 have h70 := c70 A n cap l w hl H hr
 have H70 := Lib.hid h70
 clear h70 hr H
 go_enter Tryd.func54, Tryd.ntmps54
 go_wp2_with fail
 refine H70.out.mono ?_
 rintro e w' ⟨rfl, rfl⟩
 go_wp2
 go_ret
 exact ⟨rfl, rfl⟩
/-- an integer of a sample, 0 or 16, as a sample -/
def smp (k : Int) : Nat := if k = 0 then 0 else 1065353216
def whl (v : Nat) : Int := if v = 0 then 0 else 16
theorem bt_smp {k : Int} (h : k = 0 ∨ k = 16) : Bt (smp k) k := by rcases h with rfl | rfl <;> simp [Bt, smp]
theorem bt_whl {v : Nat} (h : v = 0 ∨ v = 1065353216) : Bt v (whl v) := by rcases h with rfl | rfl <;> simp [Bt, whl]
theorem c28 (A : Option Addr) (n cap : Nat) (l : List Int) (w : World) (hl : n ≤ 1000000) (H : RdI w A n l) (hr : ∀ x ∈ l, x = 0 ∨ x = 16) :
  Calls Tryd.prog 28 #[.slice A n cap] w fun en w' => ∃ A' cap', en = .returned (.tuple #[.slice A' n cap', .int .i64 0]) ∧ w'.ownsRow w.heap.size 44 1 (.slice A' n cap') n (encF (l.map smp)) ∧ Below w.heap.size w w' := by
 have h54 := c54 A n cap l w hl H (fun x hx => by rcases hr x hx with h | h <;> omega)
 have h57 := c57 A n cap l smp w hl H (fun W x hx => (c58 (bt_smp (hr x hx)) W).mono (fun e w' h => ⟨h.1, h.2 ▸ Below.refl _ _⟩))
 have H54 := Lib.hid h54
 have H57 := Lib.hid h57
 clear h54 h57 hr H
 go_enter Tryd.func28, Tryd.ntmps28
 go_wp2_with fail
 refine H54.out.mono ?_
 rintro e w' ⟨rfl, rfl⟩
 go_wp2_with fail
 refine H57.out.mono ?_
 rintro e w' ⟨A', cap', rfl, ho, hb⟩
 have HO := Lib.hid ho
 have HB := Lib.hid hb
 clear ho hb
 go_wp2
 go_ret2
 exact ⟨A', cap', rfl, HO.out, HB.out⟩
theorem first_zeros : ∀ (l : List Int), (∀ x ∈ l, x = 0) → Mo.first l = 0
 | [], _ => rfl
 | x :: l, h => by
  have h0 := h x (by simp)
  subst h0
  exact first_zeros l (fun y hy => h y (by simp [hy]))
theorem c59 (A : Option Addr) (n cap : Nat) (l : List Nat) (w : World) (hl : n ≤ 1000000) (H : RdS w 1 A n (encF l)) (hr : ∀ v ∈ l, v = 0 ∨ v = 1065353216) :
  Calls Tryd.prog 59 #[.slice A n cap] w fun en w' => en = .returned (.int .i64 0) ∧ Below w.heap.size w w' := by
 have h71 := c71 A n cap l (fun _ => 0) w hl H (fun W v hv => c72 (bt_whl (hr v hv)) W)
 have hn : l.length = n := by have := H.1; simpa [encF] using this
 have H71 := Lib.hid h71
 have HN := Lib.hid hn
 clear h71 hr H hn
 go_enter Tryd.func59, Tryd.ntmps59
 go_wp2_with fail
 refine H71.out.mono ?_
 rintro e w1 ⟨A', cap', rfl, ho, hb⟩
 have h29 := c29 A' n cap' (l.map (fun _ => (0 : Int))) w1 (by simp [HN.out]) hl (by
  obtain ⟨A2, c2, h9, hr⟩ := Sl.of_own ho
  cases h9
  exact hr)
 rw [first_zeros _ (fun x hx => by obtain ⟨_, _, rfl⟩ := List.mem_map.1 hx; rfl)] at h29
 have H29 := Lib.hid h29
 have HB := Lib.hid hb
 clear h29 ho hb
 go_wp2_with fail
 refine H29.out.mono ?_
 rintro e w' ⟨rfl, rfl⟩
 go_wp2
 go_ret
 exact ⟨rfl, HB.out⟩
theorem c30 (A : Option Addr) (n cap : Nat) (l : List Nat) (w : World) (hl : n ≤ 1024) (H : RdS w 1 A n (encF l)) (hr : ∀ v ∈ l, v = 0 ∨ v = 1065353216) :
  Calls Tryd.prog 30 #[.slice A n cap] w fun en w' => en = .returned (.int .i64 0) ∧ Below w.heap.size w w' := by
 have h59 := c59 A n cap l w (by omega) H hr
 have hd : ¬ ((1024 : Int) < (n : Int)) := by omega
 have hd2 : ¬ (1024 < n) := by omega
 have H59 := Lib.hid h59
 clear h59 hr H
 go_enter Tryd.func30, Tryd.ntmps30
 go_wp2_with fail
 refine H59.out.mono ?_
 rintro e w' ⟨rfl, hb⟩
 have HB := Lib.hid hb
 clear hb
 go_wp2
 go_ret
 exact ⟨rfl, HB.out⟩
/-- the integer at an index, 0 if there is none -/
def atI (l : List Int) (i : Int) : Int := if i < 0 then 0 else (l[i.toNat]?).getD 0
theorem c27 (A : Option Addr) (n cap : Nat) (l : List Int) (i : Int) (w : World) (H : RdI w A n l) :
  Calls Tryd.prog 27 #[.slice A n cap, .int .i64 i] w fun en w' => en = .returned (.int .i64 (atI l i)) ∧ w = w' := by
 have hn := H.len
 by_cases h0 : i < 0
 ·have hv : Hid (atI l i = 0) := Lib.hid (by unfold atI; rw [if_pos h0])
  have t1 : decide (i < 0) = true := by simpa using h0
  clear hn H h0
  go_enter Tryd.func27, Tryd.ntmps27
  go_wp2
  go_ret
  exact ⟨ret_int hv.out.symm, rfl⟩
 ·obtain ⟨k, rfl⟩ : ∃ k : Nat, i = k := ⟨i.toNat, by omega⟩
  by_cases hk : k < n
  ·obtain ⟨b, off, x, rfl, hx, hb, hc⟩ := H.at hk
   have hv : Hid (atI l k = x) := Lib.hid (by unfold atI; rw [if_neg h0]; simp [hx])
   have t1 : ¬ ((n : Int) ≤ (k : Int)) := by omega
   have t2 : ¬ (n ≤ k) := by omega
   clear hn H h0 hx
   go_enter Tryd.func27, Tryd.ntmps27
   go_wp2
   go_ret
   exact ⟨ret_int hv.out.symm, rfl⟩
  ·have hv : Hid (atI l k = 0) := Lib.hid (by unfold atI; rw [if_neg h0]; simp; rw [List.getElem?_eq_none (by omega)]; rfl)
   have t1 : ((n : Int) ≤ (k : Int)) := by omega
   have t2 : (n ≤ k) := by omega
   clear hn H h0 hk
   go_enter Tryd.func27, Tryd.ntmps27
   go_wp2
   go_ret
   exact ⟨ret_int hv.out.symm, rfl⟩
end Go.Proofs.YtfmgibhffgkieaaDoor
namespace Go.Proofs.YtfmgibhffgkieaaDoor
open Go.RowKit
set_option maxHeartbeats 4000000
set_option maxRecDepth 20000
theorem range_ok {n lo hi : Int} (h : lo ≤ n ∧ n ≤ hi) : Mo.range n lo hi = 0 := by unfold Mo.range; rw [if_neg (by omega)]
theorem c51 (t1 h1 t2 h2 : Int) (w : World) :
  Calls Tryd.prog 51 #[.agg #[.int .i64 t1, .int .i64 h1], .agg #[.int .i64 t2, .int .i64 h2]] w fun en w' => en = .returned (.int .i64 (cmpI t1 t2)) ∧ Below w.heap.size w w' := by
 obtain ⟨w0, hW⟩ : ∃ W, W = (w.alloc (Obj.cells #[.int .i64 t1, .int .i64 h1] 55)).alloc (Obj.cells #[.int .i64 t2, .int .i64 h2] 55) := ⟨_, rfl⟩
 have hT0 : w0.heap[w.heap.size]? = some (.cells #[.int .i64 t1, .int .i64 h1] 55 (0, 0)) := by rw [hW]; exact heap_old (by simp <;> omega) (heap_new (by simp))
 have hT1 : w0.heap[w.heap.size + 1]? = some (.cells #[.int .i64 t2, .int .i64 h2] 55 (0, 0)) := by rw [hW]; exact heap_new (by simp)
 have hB0 : Below w.heap.size w w0 := by rw [hW]; exact (((Below.refl _ _).alloc (by first | omega | (simp <;> omega)) _).alloc (by first | omega | (simp <;> omega)) _)
 go_enter Tryd.func51, Tryd.ntmps51
 go_wp2_with fail
 rw [← hW]
 clear hW
 have qhT0_0 : w0.cell? ⟨w.heap.size, 0, none⟩ = some (.int .i64 t1) := cell_at hT0 rfl
 have qhT0_1 : w0.cell? ⟨w.heap.size, 1, none⟩ = some (.int .i64 h1) := cell_at hT0 rfl
 have qhT1_0 : w0.cell? ⟨w.heap.size + 1, 0, none⟩ = some (.int .i64 t2) := cell_at hT1 rfl
 have qhT1_1 : w0.cell? ⟨w.heap.size + 1, 1, none⟩ = some (.int .i64 h2) := cell_at hT1 rfl
 go_wp2_with fail
 refine (c68 t1 t2 _).mono ?_
 rintro e w' ⟨rfl, rfl⟩
 go_wp2
 go_ret
 exact ⟨rfl, hB0⟩
theorem c52 (t h : Int) (w : World) (ht : 0 ≤ t ∧ t ≤ 100000) (hh : -64 ≤ h ∧ h ≤ 64) :
  Calls Tryd.prog 52 #[.agg #[.int .i64 t, .int .i64 h]] w fun en w' => en = .returned (.int .i64 0) ∧ Below w.heap.size w w' := by
 have hr1 := range_ok ht
 have hr2 := range_ok hh
 have HR1 := Lib.hid hr1
 have HR2 := Lib.hid hr2
 clear hr1 hr2 ht hh
 obtain ⟨w0, hW⟩ : ∃ W, W = w.alloc (Obj.cells #[.int .i64 t, .int .i64 h] 55) := ⟨_, rfl⟩
 have hT0 : w0.heap[w.heap.size]? = some (.cells #[.int .i64 t, .int .i64 h] 55 (0, 0)) := by rw [hW]; exact heap_new (by simp)
 have hB0 : Below w.heap.size w w0 := by rw [hW]; exact ((Below.refl _ _).alloc (by first | omega | (simp <;> omega)) _)
 go_enter Tryd.func52, Tryd.ntmps52
 go_wp2_with fail
 rw [← hW]
 clear hW
 have qhT0_0 : w0.cell? ⟨w.heap.size, 0, none⟩ = some (.int .i64 t) := cell_at hT0 rfl
 have qhT0_1 : w0.cell? ⟨w.heap.size, 1, none⟩ = some (.int .i64 h) := cell_at hT0 rfl
 refine wp_region_plan [(0, true), (1, true), (3, true), (4, true), (2, false), (5, false), (6, false), (7, false), (8, true)] w0.heap.size (by kernel_rfl) (by kernel_rfl) (Nat.le_refl _) (fun _ _ d _ _ h => by cases d <;> exact h) ?_
 have hC : Below w0.heap.size w0 w0 := Below.refl _ _
 have zhT0 : w.heap.size < w0.heap.size := (Array.getElem?_eq_some_iff.1 hT0).1
 repeat (first | (refine wpPlanA_skip _ rfl (by rfl) ?_; simp only [Act.put, List.setIfInBounds_toArray, List.set_cons_zero, List.set_cons_succ]) | (refine wpPlanA_soft _ ?_ rfl (by rfl) ?_ ?_; rotate_left; (intro wq hq hcq; go_simp; first | exact rfl | exact ⟨rfl, rfl⟩); simp only [Act.put, List.setIfInBounds_toArray, List.set_cons_zero, List.set_cons_succ]))
 refine wpPlanA_hard _ rfl (by rfl) (fun w1 hS K hK => ?_)
 have hB1 := hB0.call hS rfl
 replace hC := hC.call hS rfl
 replace hT0 := blkb hT0 hS
 clear hS hB0
 go_simp
 refine (c38 t 0 100000 _).mono ?_
 rintro e w' ⟨rfl, rfl⟩
 refine hK _ _ hC ?_
 clear hK K
 try simp only [Act.put, List.setIfInBounds_toArray, List.set_cons_zero, List.set_cons_succ]
 rw [HR1.out]
 repeat (first | (refine wpPlanA_skip _ rfl (by rfl) ?_; simp only [Act.put, List.setIfInBounds_toArray, List.set_cons_zero, List.set_cons_succ]) | (refine wpPlanA_soft _ ?_ rfl (by rfl) ?_ ?_; rotate_left; (intro wq hq hcq; go_simp; first | exact rfl | exact ⟨rfl, rfl⟩); simp only [Act.put, List.setIfInBounds_toArray, List.set_cons_zero, List.set_cons_succ]))
 refine wpPlanA_hard _ rfl (by rfl) (fun w2 hS K hK => ?_)
 have hB2 := hB1.call hS rfl
 replace hC := hC.call hS rfl
 replace hT0 := blkb hT0 hS
 clear hS hB1
 go_simp
 refine (c38 h (-64) 64 _).mono ?_
 rintro e w' ⟨rfl, rfl⟩
 refine hK _ _ hC ?_
 clear hK K
 try simp only [Act.put, List.setIfInBounds_toArray, List.set_cons_zero, List.set_cons_succ]
 rw [HR2.out]
 repeat (first | (refine wpPlanA_skip _ rfl (by rfl) ?_; simp only [Act.put, List.setIfInBounds_toArray, List.set_cons_zero, List.set_cons_succ]) | (refine wpPlanA_soft _ ?_ rfl (by rfl) ?_ ?_; rotate_left; (intro wq hq hcq; go_simp; first | exact rfl | exact ⟨rfl, rfl⟩); simp only [Act.put, List.setIfInBounds_toArray, List.set_cons_zero, List.set_cons_succ]))
 refine wpPlanA_hard _ rfl (by rfl) (fun w3 hS K hK => ?_)
 have hB3 := hB2.call hS rfl
 replace hC := hC.call hS rfl
 replace hT0 := blkb hT0 hS
 clear hS hB2
 go_simp
 have hb : Below w3.heap.size w3 (w3.alloc (Obj.cells #[.int .i64 0, .int .i64 0] 36)) := (Below.refl _ _).alloc (Nat.le_refl _) _
 have hN : (w3.alloc (Obj.cells #[.int .i64 0, .int .i64 0] 36)).heap[w3.heap.size]? = some (Obj.cells #[.int .i64 0, .int .i64 0] 36) := heap_new rfl
 refine hK _ _ (hC.alloc hC.size _) ?_
 clear hK K
 replace hC := hC.call hb rfl
 have hB4 := hB3.call hb rfl
 replace hT0 := blkb hT0 hb
 clear hb hB3
 generalize hWn : w3.alloc (Obj.cells #[.int .i64 0, .int .i64 0] 36) = w4 at hN hC hB4 hT0 ⊢
 clear hWn
 generalize hWn : w3.heap.size = bhN at hN ⊢
 clear hWn
 try simp only [Act.put, List.setIfInBounds_toArray, List.set_cons_zero, List.set_cons_succ]
 repeat (first | (refine wpPlanA_skip _ rfl (by rfl) ?_; simp only [Act.put, List.setIfInBounds_toArray, List.set_cons_zero, List.set_cons_succ]) | (refine wpPlanA_soft _ ?_ rfl (by rfl) ?_ ?_; rotate_left; (intro wq hq hcq; go_simp; first | exact rfl | exact ⟨rfl, rfl⟩); simp only [Act.put, List.setIfInBounds_toArray, List.set_cons_zero, List.set_cons_succ]))
 refine wpPlanA_hard _ rfl (by rfl) (fun w5 hS K hK => ?_)
 have hB5 := hB4.call hS rfl
 replace hC := hC.call hS rfl
 replace hT0 := blkb hT0 hS
 replace hN := blkb hN hS
 clear hS hB4
 go_simp
 refine (c18 _ 2 2 [0, 0] _ rfl (by omega) (RdS.of_block (cs := encI [0, 0]) hN rfl)).mono ?_
 rintro e w' ⟨rfl, rfl⟩
 refine hK _ _ hC ?_
 clear hK K
 try simp only [Act.put, List.setIfInBounds_toArray, List.set_cons_zero, List.set_cons_succ]
 repeat (first | (refine wpPlanA_skip _ rfl (by rfl) ?_; simp only [Act.put, List.setIfInBounds_toArray, List.set_cons_zero, List.set_cons_succ]) | (refine wpPlanA_soft _ ?_ rfl (by rfl) ?_ ?_; rotate_left; (intro wq hq hcq; go_simp; first | exact rfl | exact ⟨rfl, rfl⟩); simp only [Act.put, List.setIfInBounds_toArray, List.set_cons_zero, List.set_cons_succ]))
 clear qhT0_0 qhT0_1
 refine wpPlanA_nil (fun w6 hS => ?_)
 clear hC zhT0
 have hB6 := hB5.call hS rfl
 replace hT0 := blkb hT0 hS
 replace hN := blkb hN hS
 clear hS hB5
 have qhT0_0 : w6.cell? ⟨w.heap.size, 0, none⟩ = some (.int .i64 t) := cell_at hT0 rfl
 have qhT0_1 : w6.cell? ⟨w.heap.size, 1, none⟩ = some (.int .i64 h) := cell_at hT0 rfl
 go_wp2
 go_ret
 exact ⟨rfl, hB6⟩
/-- a row of tides -/
structure Td where
 t : Int
 h : Int
def Td.enc (x : Td) : List Value := [.int .i64 x.t, .int .i64 x.h]
theorem Td.len (x : Td) : x.enc.length = 2 := rfl
def RdT (w : World) (A : Option Addr) (n : Nat) (l : List Td) : Prop := RdS w 2 A n (l.flatMap Td.enc)
theorem RdT.below {w w' : World} {A : Option Addr} {n : Nat} {l : List Td} (h : RdT w A n l) (hb : Below w.heap.size w w') : RdT w' A n l := RdS.below h hb
theorem RdT.len {w : World} {A : Option Addr} {n : Nat} {l : List Td} (h : RdT w A n l) : l.length = n := by
 have := h.1
 rw [flat_len Td.len] at this
 omega
theorem RdT.at {w : World} {A : Option Addr} {n : Nat} {l : List Td} (h : RdT w A n l) {k : Nat} {x : Td} (hx : l[k]? = some x) :
  ∃ b off, A = some ⟨b, off, none⟩ ∧ b < w.heap.size ∧ w.cell? ⟨b, off + k * 2, none⟩ = some (.int .i64 x.t) ∧ w.cell? ⟨b, off + k * 2 + 1, none⟩ = some (.int .i64 x.h) := by
 have hk : k < l.length := (List.getElem?_eq_some_iff.1 hx).1
 obtain ⟨b, off, hA, hb, hc⟩ := RdS.at h (by rw [h.len] at hk; exact hk)
 have h0 := hc 0 (by omega)
 have h1 := hc 1 (by omega)
 rw [flat_get (size := 2) (enc := Td.enc) Td.len l k 0 x hx (by omega)] at h0
 rw [flat_get (size := 2) (enc := Td.enc) Td.len l k 1 x hx (by omega)] at h1
 exact ⟨b, off, hA, hb, by simpa [Td.enc] using h0, by simpa [Td.enc, Nat.add_assoc] using h1⟩
def OkT (l : List Td) : Prop := (∀ x ∈ l, 0 ≤ x.t ∧ x.t ≤ 100000 ∧ -64 ≤ x.h ∧ x.h ≤ 64) ∧ ∀ (k : Nat) (x y : Td), l[k]? = some x → l[k + 1]? = some y → x.t < y.t
theorem c20 (A : Option Addr) (n cap : Nat) (l : List Td) (w : World) (hn1 : 1 ≤ n) (hn2 : n ≤ 16) (H : RdT w A n l) (hok : OkT l) :
  Calls Tryd.prog 20 #[.slice A n cap] w fun en w' => en = .returned (.int .i64 0) ∧ Below w.heap.size w w' := by
 have HOK := Lib.hid hok
 have HLN := Lib.hid H.len
 have hz : ((n : Int) == 0) = false := by simp; omega
 have hg : decide ((16 : Int) < (n : Int)) = false := by simp; omega
 have hg2 : decide (16 < n) = false := by simp; omega
 clear hok
 go_enter Tryd.func20, Tryd.ntmps20
 obtain ⟨w0, hw0⟩ : ∃ W, W = w := ⟨_, rfl⟩
 subst hw0
 have hB0 : Below w0.heap.size w0 w0 := Below.refl _ _
 go_wp2_with fail
 refine (c50 false 12 _).mono ?_
 rintro e w' ⟨rfl, rfl⟩
 go_wp2_with fail
 refine (c50 false 5 _).mono ?_
 rintro e w' ⟨rfl, rfl⟩
 go_wp2_with fail
 refine (c18 _ 2 2 [Mo.when false 12, Mo.when false 5] _ rfl (by omega) (RdS.of_new (cs := encI [Mo.when false 12, Mo.when false 5]) rfl rfl)).mono ?_
 rintro e w1 ⟨rfl, hw1⟩
 have hf : Mo.first [Mo.when false 12, Mo.when false 5] = 0 := rfl
 rw [hf]
 have hB1 : Below w0.heap.size w0 w1 := by rw [← hw1]; exact (Below.refl _ _).alloc (Nat.le_refl _) _
 replace H := H.below hB1
 clear hw1 hz hg hg2 hB0
 go_wp2_with fail
 go_loopw [23] (fun iv wr => ∃ k : Nat, k ≤ n ∧ iv = .int .i64 k ∧ Below w1.heap.size w1 wr) (fun iv _ => n - (intOf iv).toNat)
 case atStart => exact ⟨0, Nat.zero_le _, rfl, Below.refl _ _⟩
 case round =>
  obtain ⟨k, hk, rfl, hbr⟩ := hrel
  have hwk : IntKind.i64.wrap ((k : Int) + 1) = ((k + 1 : Nat) : Int) := by rw [wrapI (by omega)]; simp
  replace H := H.below hbr
  have hBR := hB1.call hbr rfl
  clear hB1
  by_cases hlt : k < n
  ·have hkl : k < l.length := by rw [HLN.out]; exact hlt
   obtain ⟨x, hx⟩ : ∃ x, l[k]? = some x := ⟨l[k], List.getElem?_eq_getElem hkl⟩
   obtain ⟨b, off, rfl, hb, h0, h1⟩ := H.at hx
   have hox := HOK.out.1 x (List.mem_of_getElem? hx)
   have K52 : Hid (∀ W, Calls Tryd.prog 52 #[.agg #[.int .i64 x.t, .int .i64 x.h]] W fun en w' => en = .returned (.int .i64 0) ∧ Below W.heap.size W w') := Lib.hid (fun W => c52 x.t x.h W ⟨hox.1, hox.2.1⟩ hox.2.2)
   have HX := Lib.hid hx
   have hlti : (k : Int) < (n : Int) := by omega
   obtain ⟨w2, hwa⟩ : ∃ W, W = wr.alloc (Obj.cells #[.int .i64 x.t, .int .i64 x.h] 55) := ⟨_, rfl⟩
   have hTa : w2.heap[wr.heap.size]? = some (.cells #[.int .i64 x.t, .int .i64 x.h] 55 (0, 0)) := by rw [hwa]; exact heap_new rfl
   have hBa : Below wr.heap.size wr w2 := by rw [hwa]; exact (Below.refl _ _).alloc (Nat.le_refl _) _
   go_wp2_with fail
   rw [← hwa]
   have hB2 := hBR.call hBa rfl
   replace hbr := hbr.call hBa rfl
   replace H := H.below hBa
   obtain ⟨g6, hg6⟩ : ∃ g, g = wr.heap.size := ⟨_, rfl⟩
   rw [← hg6] at hTa ⊢
   clear hwa hBa hBR hg6 h0 h1 hx hox
   by_cases hk0 : k = 0
   ·
     have hkg : decide ((0 : Int) < (k : Int)) = false := by simp; omega
     have hkg2 : decide (0 < k) = false := by simp; omega
     clear hk0
     have qhTa_0 : w2.cell? ⟨g6, 0, none⟩ = some (.int .i64 x.t) := cell_at hTa rfl
     have qhTa_1 : w2.cell? ⟨g6, 1, none⟩ = some (.int .i64 x.h) := cell_at hTa rfl
     refine wp_region_plan [(0, true), (2, true), (3, true), (1, false), (4, true), (5, true), (6, true), (7, true), (8, true), (9, true), (10, true), (11, true), (12, true), (13, false), (14, true), (15, true), (16, false), (17, false), (18, false), (19, true)] w2.heap.size (by kernel_rfl) (by kernel_rfl) (Nat.le_refl _) (fun _ _ d _ _ h => by cases d <;> exact h) ?_
     have hC : Below w2.heap.size w2 w2 := Below.refl _ _
     have zhTa : g6 < w2.heap.size := (Array.getElem?_eq_some_iff.1 hTa).1
     repeat (first | (refine wpPlanA_skip _ rfl (by rfl) ?_; simp only [Act.put, List.setIfInBounds_toArray, List.set_cons_zero, List.set_cons_succ]) | (refine wpPlanA_soft _ ?_ rfl (by rfl) ?_ ?_; rotate_left; (intro wq hq hcq; go_simp; first | exact rfl | exact ⟨rfl, rfl⟩); simp only [Act.put, List.setIfInBounds_toArray, List.set_cons_zero, List.set_cons_succ]))
     refine wpPlanA_hard _ rfl (by rfl) (fun w3 hS K hK => ?_)
     have hB3 := hB2.call hS rfl
     replace hC := hC.call hS rfl
     replace hTa := blkb hTa hS
     replace H := H.below hS
     replace hbr := hbr.call hS rfl
     clear hS hB2
     go_simp
     refine (K52.out _).mono ?_
     rintro e w4 ⟨rfl, hb⟩
     have hB4 := hB3.call hb rfl
     replace hC := hC.call hb rfl
     replace hTa := blkb hTa hb
     replace H := H.below hb
     replace hbr := hbr.call hb rfl
     clear hb hB3
     refine hK _ _ hC ?_
     clear hK K
     try simp only [Act.put, List.setIfInBounds_toArray, List.set_cons_zero, List.set_cons_succ]
     repeat (first | (refine wpPlanA_skip _ rfl (by rfl) ?_; simp only [Act.put, List.setIfInBounds_toArray, List.set_cons_zero, List.set_cons_succ]) | (refine wpPlanA_soft _ ?_ rfl (by rfl) ?_ ?_; rotate_left; (intro wq hq hcq; go_simp; first | exact rfl | exact ⟨rfl, rfl⟩); simp only [Act.put, List.setIfInBounds_toArray, List.set_cons_zero, List.set_cons_succ]))
     refine wpPlanA_hskip _ rfl (by rfl) ?_
     simp only [Act.put, List.setIfInBounds_toArray, List.set_cons_zero, List.set_cons_succ]
     repeat (first | (refine wpPlanA_skip _ rfl (by rfl) ?_; simp only [Act.put, List.setIfInBounds_toArray, List.set_cons_zero, List.set_cons_succ]) | (refine wpPlanA_soft _ ?_ rfl (by rfl) ?_ ?_; rotate_left; (intro wq hq hcq; go_simp; first | exact rfl | exact ⟨rfl, rfl⟩); simp only [Act.put, List.setIfInBounds_toArray, List.set_cons_zero, List.set_cons_succ]))
     refine wpPlanA_hard _ rfl (by rfl) (fun w5 hS K hK => ?_)
     have hB5 := hB4.call hS rfl
     replace hC := hC.call hS rfl
     replace hTa := blkb hTa hS
     replace H := H.below hS
     replace hbr := hbr.call hS rfl
     clear hS hB4
     go_simp
     refine (c50 false 11 _).mono ?_
     rintro e w' ⟨rfl, rfl⟩
     refine hK _ _ hC ?_
     clear hK K
     try simp only [Act.put, List.setIfInBounds_toArray, List.set_cons_zero, List.set_cons_succ]
     repeat (first | (refine wpPlanA_skip _ rfl (by rfl) ?_; simp only [Act.put, List.setIfInBounds_toArray, List.set_cons_zero, List.set_cons_succ]) | (refine wpPlanA_soft _ ?_ rfl (by rfl) ?_ ?_; rotate_left; (intro wq hq hcq; go_simp; first | exact rfl | exact ⟨rfl, rfl⟩); simp only [Act.put, List.setIfInBounds_toArray, List.set_cons_zero, List.set_cons_succ]))
     refine wpPlanA_hard _ rfl (by rfl) (fun w6 hS K hK => ?_)
     have hB6 := hB5.call hS rfl
     replace hC := hC.call hS rfl
     replace hTa := blkb hTa hS
     replace H := H.below hS
     replace hbr := hbr.call hS rfl
     clear hS hB5
     go_simp
     have hb : Below w6.heap.size w6 (w6.alloc (Obj.cells #[.int .i64 0, .int .i64 (Mo.when false 11)] 36)) := (Below.refl _ _).alloc (Nat.le_refl _) _
     have hN : (w6.alloc (Obj.cells #[.int .i64 0, .int .i64 (Mo.when false 11)] 36)).heap[w6.heap.size]? = some (Obj.cells #[.int .i64 0, .int .i64 (Mo.when false 11)] 36) := heap_new rfl
     refine hK _ _ (hC.alloc hC.size _) ?_
     clear hK K
     replace hC := hC.call hb rfl
     have hB7 := hB6.call hb rfl
     replace hTa := blkb hTa hb
     replace H := H.below hb
     replace hbr := hbr.call hb rfl
     clear hb hB6
     generalize hWn : w6.alloc (Obj.cells #[.int .i64 0, .int .i64 (Mo.when false 11)] 36) = w7 at hN hC hB7 hTa H hbr ⊢
     clear hWn
     generalize hWn : w6.heap.size = bhN at hN ⊢
     clear hWn
     try simp only [Act.put, List.setIfInBounds_toArray, List.set_cons_zero, List.set_cons_succ]
     repeat (first | (refine wpPlanA_skip _ rfl (by rfl) ?_; simp only [Act.put, List.setIfInBounds_toArray, List.set_cons_zero, List.set_cons_succ]) | (refine wpPlanA_soft _ ?_ rfl (by rfl) ?_ ?_; rotate_left; (intro wq hq hcq; go_simp; first | exact rfl | exact ⟨rfl, rfl⟩); simp only [Act.put, List.setIfInBounds_toArray, List.set_cons_zero, List.set_cons_succ]))
     refine wpPlanA_hard _ rfl (by rfl) (fun w8 hS K hK => ?_)
     have hB8 := hB7.call hS rfl
     replace hC := hC.call hS rfl
     replace hTa := blkb hTa hS
     replace H := H.below hS
     replace hbr := hbr.call hS rfl
     replace hN := blkb hN hS
     clear hS hB7
     go_simp
     refine (c18 _ 2 2 [0, Mo.when false 11] _ rfl (by omega) (RdS.of_block (cs := encI [0, Mo.when false 11]) hN rfl)).mono ?_
     rintro e w' ⟨rfl, rfl⟩
     refine hK _ _ hC ?_
     clear hK K
     try simp only [Act.put, List.setIfInBounds_toArray, List.set_cons_zero, List.set_cons_succ]
     rw [show Mo.first [0, Mo.when false 11] = 0 from rfl]
     repeat (first | (refine wpPlanA_skip _ rfl (by rfl) ?_; simp only [Act.put, List.setIfInBounds_toArray, List.set_cons_zero, List.set_cons_succ]) | (refine wpPlanA_soft _ ?_ rfl (by rfl) ?_ ?_; rotate_left; (intro wq hq hcq; go_simp; first | exact rfl | exact ⟨rfl, rfl⟩); simp only [Act.put, List.setIfInBounds_toArray, List.set_cons_zero, List.set_cons_succ]))
     clear hN
     clear qhTa_0 qhTa_1
     refine wpPlanA_nil (fun w9 hS => ?_)
     clear hC zhTa
     have hB9 := hB8.call hS rfl
     replace hTa := blkb hTa hS
     replace H := H.below hS
     replace hbr := hbr.call hS rfl
     clear hS hB8
     have qhTa_0 : w9.cell? ⟨g6, 0, none⟩ = some (.int .i64 x.t) := cell_at hTa rfl
     have qhTa_1 : w9.cell? ⟨g6, 1, none⟩ = some (.int .i64 x.h) := cell_at hTa rfl
     have HN := Lib.hid hbr
     clear hbr
     go_wp2
     go_roundw
     case rel => exact ⟨k + 1, by omega, by go_num, HN.out⟩
     case measure => simp [intOf]; omega
   obtain ⟨y, hy⟩ : ∃ y, l[k - 1]? = some y := ⟨l[k - 1], List.getElem?_eq_getElem (by omega)⟩
   have hlt9 := HOK.out.2 (k - 1) y x hy (by rw [show k - 1 + 1 = k by omega]; exact HX.out)
   obtain ⟨b2, off2, hbe, hb2, h0, h1⟩ := H.at hy
   cases hbe
   have hcm : cmpI x.t y.t = 1 := by unfold cmpI; rw [if_neg (by omega), if_pos (by omega)]
   have HCM := Lib.hid hcm
   have hkg : decide ((0 : Int) < (k : Int)) = true := by simp; omega
   have hkg2 : decide (0 < k) = true := by simp; omega
   have hw1 : IntKind.i64.wrap ((k : Int) - 1) = ((k - 1 : Nat) : Int) := by rw [wrapI (by omega)]; omega
   obtain ⟨k1, hk1⟩ : ∃ j, j = k - 1 := ⟨_, rfl⟩
   rw [← hk1] at h0 h1 hw1
   have hk1n : (k1 : Int) < (n : Int) := by omega
   have hmx : (if 0 < k1 then (k1 : Int) else 0) = (k1 : Int) := by split <;> omega
   clear hy hlt9 hcm hk0 hk1
   have qhTa_0 : w2.cell? ⟨g6, 0, none⟩ = some (.int .i64 x.t) := cell_at hTa rfl
   have qhTa_1 : w2.cell? ⟨g6, 1, none⟩ = some (.int .i64 x.h) := cell_at hTa rfl
   refine wp_region_plan [(0, true), (2, true), (3, true), (1, false), (4, true), (5, true), (6, true), (7, true), (8, true), (9, true), (10, true), (11, true), (12, true), (13, false), (14, true), (15, true), (16, false), (17, false), (18, false), (19, true)] w2.heap.size (by kernel_rfl) (by kernel_rfl) (Nat.le_refl _) (fun _ _ d _ _ h => by cases d <;> exact h) ?_
   have hC : Below w2.heap.size w2 w2 := Below.refl _ _
   have zhTa : g6 < w2.heap.size := (Array.getElem?_eq_some_iff.1 hTa).1
   repeat (first | (refine wpPlanA_skip _ rfl (by rfl) ?_; simp only [Act.put, List.setIfInBounds_toArray, List.set_cons_zero, List.set_cons_succ]) | (refine wpPlanA_soft _ ?_ rfl (by rfl) ?_ ?_; rotate_left; (intro wq hq hcq; go_simp; first | exact rfl | exact ⟨rfl, rfl⟩); simp only [Act.put, List.setIfInBounds_toArray, List.set_cons_zero, List.set_cons_succ]))
   refine wpPlanA_hard _ rfl (by rfl) (fun w3 hS K hK => ?_)
   have hB3 := hB2.call hS rfl
   replace hC := hC.call hS rfl
   replace hTa := blkb hTa hS
   replace H := H.below hS
   replace hbr := hbr.call hS rfl
   clear hS hB2
   go_simp
   refine (K52.out _).mono ?_
   rintro e w4 ⟨rfl, hb⟩
   have hB4 := hB3.call hb rfl
   replace hC := hC.call hb rfl
   replace hTa := blkb hTa hb
   replace H := H.below hb
   replace hbr := hbr.call hb rfl
   clear hb hB3
   refine hK _ _ hC ?_
   clear hK K
   try simp only [Act.put, List.setIfInBounds_toArray, List.set_cons_zero, List.set_cons_succ]
   repeat (first | (refine wpPlanA_skip _ rfl (by rfl) ?_; simp only [Act.put, List.setIfInBounds_toArray, List.set_cons_zero, List.set_cons_succ]) | (refine wpPlanA_soft _ ?_ rfl (by rfl) ?_ ?_; rotate_left; (intro wq hq hcq; go_simp; first | exact rfl | exact ⟨rfl, rfl⟩); simp only [Act.put, List.setIfInBounds_toArray, List.set_cons_zero, List.set_cons_succ]))
   refine wpPlanA_hard _ rfl (by rfl) (fun w5 hS K hK => ?_)
   have hB5 := hB4.call hS rfl
   replace hC := hC.call hS rfl
   replace hTa := blkb hTa hS
   replace H := H.below hS
   replace hbr := hbr.call hS rfl
   clear hS hB4
   go_simp
   refine (c51 x.t x.h y.t y.h _).mono ?_
   rintro e w6 ⟨rfl, hb⟩
   have hB6 := hB5.call hb rfl
   replace hC := hC.call hb rfl
   replace hTa := blkb hTa hb
   replace H := H.below hb
   replace hbr := hbr.call hb rfl
   clear hb hB5
   refine hK _ _ hC ?_
   clear hK K
   try simp only [Act.put, List.setIfInBounds_toArray, List.set_cons_zero, List.set_cons_succ]
   rw [HCM.out]
   repeat (first | (refine wpPlanA_skip _ rfl (by rfl) ?_; simp only [Act.put, List.setIfInBounds_toArray, List.set_cons_zero, List.set_cons_succ]) | (refine wpPlanA_soft _ ?_ rfl (by rfl) ?_ ?_; rotate_left; (intro wq hq hcq; go_simp; first | exact rfl | exact ⟨rfl, rfl⟩); simp only [Act.put, List.setIfInBounds_toArray, List.set_cons_zero, List.set_cons_succ]))
   refine wpPlanA_hard _ rfl (by rfl) (fun w7 hS K hK => ?_)
   have hB7 := hB6.call hS rfl
   replace hC := hC.call hS rfl
   replace hTa := blkb hTa hS
   replace H := H.below hS
   replace hbr := hbr.call hS rfl
   clear hS hB6
   go_simp
   refine (c50 false 11 _).mono ?_
   rintro e w' ⟨rfl, rfl⟩
   refine hK _ _ hC ?_
   clear hK K
   try simp only [Act.put, List.setIfInBounds_toArray, List.set_cons_zero, List.set_cons_succ]
   repeat (first | (refine wpPlanA_skip _ rfl (by rfl) ?_; simp only [Act.put, List.setIfInBounds_toArray, List.set_cons_zero, List.set_cons_succ]) | (refine wpPlanA_soft _ ?_ rfl (by rfl) ?_ ?_; rotate_left; (intro wq hq hcq; go_simp; first | exact rfl | exact ⟨rfl, rfl⟩); simp only [Act.put, List.setIfInBounds_toArray, List.set_cons_zero, List.set_cons_succ]))
   refine wpPlanA_hard _ rfl (by rfl) (fun w8 hS K hK => ?_)
   have hB8 := hB7.call hS rfl
   replace hC := hC.call hS rfl
   replace hTa := blkb hTa hS
   replace H := H.below hS
   replace hbr := hbr.call hS rfl
   clear hS hB7
   go_simp
   have hb : Below w8.heap.size w8 (w8.alloc (Obj.cells #[.int .i64 0, .int .i64 (Mo.when false 11)] 36)) := (Below.refl _ _).alloc (Nat.le_refl _) _
   have hN : (w8.alloc (Obj.cells #[.int .i64 0, .int .i64 (Mo.when false 11)] 36)).heap[w8.heap.size]? = some (Obj.cells #[.int .i64 0, .int .i64 (Mo.when false 11)] 36) := heap_new rfl
   refine hK _ _ (hC.alloc hC.size _) ?_
   clear hK K
   replace hC := hC.call hb rfl
   have hB9 := hB8.call hb rfl
   replace hTa := blkb hTa hb
   replace H := H.below hb
   replace hbr := hbr.call hb rfl
   clear hb hB8
   generalize hWn : w8.alloc (Obj.cells #[.int .i64 0, .int .i64 (Mo.when false 11)] 36) = w9 at hN hC hB9 hTa H hbr ⊢
   clear hWn
   generalize hWn : w8.heap.size = bhN at hN ⊢
   clear hWn
   try simp only [Act.put, List.setIfInBounds_toArray, List.set_cons_zero, List.set_cons_succ]
   repeat (first | (refine wpPlanA_skip _ rfl (by rfl) ?_; simp only [Act.put, List.setIfInBounds_toArray, List.set_cons_zero, List.set_cons_succ]) | (refine wpPlanA_soft _ ?_ rfl (by rfl) ?_ ?_; rotate_left; (intro wq hq hcq; go_simp; first | exact rfl | exact ⟨rfl, rfl⟩); simp only [Act.put, List.setIfInBounds_toArray, List.set_cons_zero, List.set_cons_succ]))
   refine wpPlanA_hard _ rfl (by rfl) (fun w10 hS K hK => ?_)
   have hB10 := hB9.call hS rfl
   replace hC := hC.call hS rfl
   replace hTa := blkb hTa hS
   replace H := H.below hS
   replace hbr := hbr.call hS rfl
   replace hN := blkb hN hS
   clear hS hB9
   go_simp
   refine (c18 _ 2 2 [0, Mo.when false 11] _ rfl (by omega) (RdS.of_block (cs := encI [0, Mo.when false 11]) hN rfl)).mono ?_
   rintro e w' ⟨rfl, rfl⟩
   refine hK _ _ hC ?_
   clear hK K
   try simp only [Act.put, List.setIfInBounds_toArray, List.set_cons_zero, List.set_cons_succ]
   rw [show Mo.first [0, Mo.when false 11] = 0 from rfl]
   repeat (first | (refine wpPlanA_skip _ rfl (by rfl) ?_; simp only [Act.put, List.setIfInBounds_toArray, List.set_cons_zero, List.set_cons_succ]) | (refine wpPlanA_soft _ ?_ rfl (by rfl) ?_ ?_; rotate_left; (intro wq hq hcq; go_simp; first | exact rfl | exact ⟨rfl, rfl⟩); simp only [Act.put, List.setIfInBounds_toArray, List.set_cons_zero, List.set_cons_succ]))
   clear hN
   clear qhTa_0 qhTa_1
   refine wpPlanA_nil (fun w11 hS => ?_)
   clear hC zhTa
   have hB11 := hB10.call hS rfl
   replace hTa := blkb hTa hS
   replace H := H.below hS
   replace hbr := hbr.call hS rfl
   clear hS hB10
   have qhTa_0 : w11.cell? ⟨g6, 0, none⟩ = some (.int .i64 x.t) := cell_at hTa rfl
   have qhTa_1 : w11.cell? ⟨g6, 1, none⟩ = some (.int .i64 x.h) := cell_at hTa rfl
   have HN := Lib.hid hbr
   clear hbr
   go_wp2
   go_roundw
   case rel => exact ⟨k + 1, by omega, by go_num, HN.out⟩
   case measure => simp [intOf]; omega
  ·obtain rfl : n = k := by omega
   have HBR := Lib.hid hBR
   clear hlt hBR hbr
   go_wp2
   go_ret
   exact ⟨rfl, HBR.out⟩
end Go.Proofs.YtfmgibhffgkieaaDoor
namespace Go.Proofs.YtfmgibhffgkieaaDoor
open Go.RowKit
set_option maxHeartbeats 8000000
set_option maxRecDepth 100000
theorem lev_fin {w w1 : World} (h4 : w1.heap[w.heap.size]? = some (.cells #[.int .i64 0, .int .i64 0] 68 (0, 0))) (hb : Below w.heap.size w w1) (a b c d : Int) :
  (((((w1.setCell ⟨w.heap.size + 1, 0, none⟩ (.int .i64 a)).setCell ⟨w.heap.size + 1, 1, none⟩ (.int .i64 b)).setCell ⟨w.heap.size, 0, none⟩ (.int .i64 c)).setCell ⟨w.heap.size, 1, none⟩ (.int .i64 d))).heap[w.heap.size]? = some (.cells #[.int .i64 c, .int .i64 d] 68 (0, 0)) ∧
  Below w.heap.size w ((((w1.setCell ⟨w.heap.size + 1, 0, none⟩ (.int .i64 a)).setCell ⟨w.heap.size + 1, 1, none⟩ (.int .i64 b)).setCell ⟨w.heap.size, 0, none⟩ (.int .i64 c)).setCell ⟨w.heap.size, 1, none⟩ (.int .i64 d)) := by
 refine ⟨set_blk (i := 1) (set_blk (i := 0) ((set_far (p := ⟨w.heap.size + 1, 1, none⟩) _ (by show w.heap.size ≠ w.heap.size + 1; omega)).trans ((set_far (p := ⟨w.heap.size + 1, 0, none⟩) _ (by show w.heap.size ≠ w.heap.size + 1; omega)).trans h4)) _) _, ?_⟩
 exact (((hb.setCell (p := ⟨w.heap.size + 1, 0, none⟩) (Nat.le_succ _) _).setCell (p := ⟨w.heap.size + 1, 1, none⟩) (Nat.le_succ _) _).setCell (p := ⟨w.heap.size, 0, none⟩) (Nat.le_refl _) _).setCell (p := ⟨w.heap.size, 1, none⟩) (Nat.le_refl _) _
theorem lev_fin2 {w w1 : World} (h4 : w1.heap[w.heap.size]? = some (.cells #[.int .i64 0, .int .i64 0] 68 (0, 0))) (hb : Below w.heap.size w w1) (o : Obj) (a b c d : Int) :
  ((((((w1.setCell ⟨w.heap.size + 1, 0, none⟩ (.int .i64 a)).setCell ⟨w.heap.size + 1, 1, none⟩ (.int .i64 b)).setCell ⟨w.heap.size, 0, none⟩ (.int .i64 c)).setCell ⟨w.heap.size, 1, none⟩ (.int .i64 d))).alloc o).heap[w.heap.size]? = some (.cells #[.int .i64 c, .int .i64 d] 68 (0, 0)) ∧
  Below w.heap.size w (((((w1.setCell ⟨w.heap.size + 1, 0, none⟩ (.int .i64 a)).setCell ⟨w.heap.size + 1, 1, none⟩ (.int .i64 b)).setCell ⟨w.heap.size, 0, none⟩ (.int .i64 c)).setCell ⟨w.heap.size, 1, none⟩ (.int .i64 d)).alloc o) := by
 obtain ⟨h1, h2⟩ := lev_fin h4 hb a b c d
 exact ⟨heap_old (Array.getElem?_eq_some_iff.1 h1).1 h1, h2.alloc h2.size _⟩
theorem c23_0 (A : Option Addr) (n cap : Nat) (l : List Td) (tick : Int) (b z : Td) (w : World) (hn2 : n ≤ 16) (H : RdT w A n l) (h0 : l[0]? = some b) (hz : l[n - 1]? = some z) (hle : tick ≤ b.t) :
  Calls Tryd.prog 23 #[.slice A n cap, .int .i64 tick] w fun en w' => en = .returned (.agg #[.int .i64 b.h, .int .i64 1]) ∧ Below w.heap.size w w' := by
 have hln := H.len
 have hn1 : 1 ≤ n := by have := (List.getElem?_eq_some_iff.1 h0).1; omega
 obtain ⟨g, off, rfl, hg, p0, p1⟩ := H.at h0
 obtain ⟨g2, off2, he, _, _, p3⟩ := H.at hz
 cases he
 have hw1 : IntKind.i64.wrap ((n : Int) - 1) = ((n - 1 : Nat) : Int) := by rw [wrapI (by omega)]; omega
 obtain ⟨m, hm⟩ : ∃ m, m = n - 1 := ⟨_, rfl⟩
 rw [← hm] at hw1 p3
 have hmn : (m : Int) < (n : Int) := by omega
 have hni : (0 : Int) < (n : Int) := by omega
 have hni2 : 0 < n := by omega
 have ht : decide (b.t < tick) = false := by simp; omega
 obtain ⟨bt, hbt⟩ : ∃ t, t = b.t := ⟨_, rfl⟩
 obtain ⟨bh, hbh⟩ : ∃ t, t = b.h := ⟨_, rfl⟩
 obtain ⟨zh, hzh⟩ : ∃ t, t = z.h := ⟨_, rfl⟩
 rw [← hbt] at p0 ht
 rw [← hbh] at p1 ⊢
 rw [← hzh] at p3
 simp only [Nat.zero_mul, Nat.add_zero] at p0 p1
 obtain ⟨w0, hW⟩ : ∃ W, W = (w.alloc (Obj.cells #[.int .i64 0, .int .i64 0] 68)).alloc (Obj.cells #[.int .i64 zh, .int .i64 1] 68) := ⟨_, rfl⟩
 have k4 : w0.heap[w.heap.size]? = some (.cells #[.int .i64 0, .int .i64 0] 68 (0, 0)) := by rw [hW]; exact heap_old (by simp) (heap_new rfl)
 have k5 : w0.heap[w.heap.size + 1]? = some (.cells #[.int .i64 zh, .int .i64 1] 68 (0, 0)) := by rw [hW]; exact heap_new (by simp)
 have hB0 : Below w.heap.size w w0 := by rw [hW]; exact ((Below.refl _ _).alloc (Nat.le_refl _) _).alloc (by simp) _
 have q0 := (hB0.cell (p := ⟨g, off, none⟩) hg).trans p0
 have q1 := (hB0.cell (p := ⟨g, off + 1, none⟩) hg).trans p1
 clear H h0 hz hle hln hn1 hm hbt hbh hzh p0 p1 hn2
 go_enter Tryd.func23, Tryd.ntmps23
 go_wp2_with fail
 refine wp_scope_straight ?_
 go_wp2_with fail
 rw [← hW]
 clear hW p3 hw1 hmn
 go_step3
 go_wp2_with fail
 go_loopw [19] (fun i wr => i = .int .i64 0 ∧ wr = w0) (fun _ _ => 0)
 case atStart => exact ⟨rfl, rfl⟩
 case round =>
  obtain ⟨rfl, rfl⟩ := hrel
  have c40 : wr.cell? ⟨w.heap.size, 0, none⟩ = some (.int .i64 0) := cell_at k4 rfl
  have c41 : wr.cell? ⟨w.heap.size, 1, none⟩ = some (.int .i64 0) := cell_at k4 rfl
  have f40 : wr.frozen? ⟨w.heap.size, 0, none⟩ = false := free_at k4
  have f41 : wr.frozen? ⟨w.heap.size, 1, none⟩ = false := free_at k4
  have c50 : wr.cell? ⟨w.heap.size + 1, 0, none⟩ = some (.int .i64 zh) := cell_at k5 rfl
  have c51 : wr.cell? ⟨w.heap.size + 1, 1, none⟩ = some (.int .i64 1) := cell_at k5 rfl
  have f50 : wr.frozen? ⟨w.heap.size + 1, 0, none⟩ = false := free_at k5
  have f51 : wr.frozen? ⟨w.heap.size + 1, 1, none⟩ = false := free_at k5
  have l4 := cell_lt c40
  have l5 := cell_lt c50
  have HF := Lib.hid (lev_fin2 k4 hB0 (Obj.cells #[.int .i64 bt, .int .i64 bh] 55) bh 1 bh 1)
  clear k4 k5 hB0
  go_wp2_with fail
  simp only [Exit.noGoto_ret]
  exact bodyPost_ret (results_blk rfl rfl HF.out.1 _ Tryd.underlying68 rfl (by kernel_rfl)) rfl ⟨rfl, HF.out.2⟩
theorem lev_mid {w w1 : World} {p q : Int} (h4 : w1.heap[w.heap.size]? = some (.cells #[.int .i64 0, .int .i64 0] 68 (0, 0))) (h5 : w1.heap[w.heap.size + 1]? = some (.cells #[.int .i64 p, .int .i64 q] 68 (0, 0))) (hb : Below w.heap.size w w1) (o o2 : Obj) (a b : Int) :
  ((((w1.setCell ⟨w.heap.size + 1, 0, none⟩ (.int .i64 a)).setCell ⟨w.heap.size + 1, 1, none⟩ (.int .i64 b)).alloc o).alloc o2).heap[w.heap.size]? = some (.cells #[.int .i64 0, .int .i64 0] 68 (0, 0)) ∧
  ((((w1.setCell ⟨w.heap.size + 1, 0, none⟩ (.int .i64 a)).setCell ⟨w.heap.size + 1, 1, none⟩ (.int .i64 b)).alloc o).alloc o2).heap[w.heap.size + 1]? = some (.cells #[.int .i64 a, .int .i64 b] 68 (0, 0)) ∧
  Below w.heap.size w ((((w1.setCell ⟨w.heap.size + 1, 0, none⟩ (.int .i64 a)).setCell ⟨w.heap.size + 1, 1, none⟩ (.int .i64 b)).alloc o).alloc o2) := by
 have b1 := (hb.setCell (p := ⟨w.heap.size + 1, 0, none⟩) (Nat.le_succ _) (.int .i64 a)).setCell (p := ⟨w.heap.size + 1, 1, none⟩) (Nat.le_succ _) (.int .i64 b)
 have e4 := (set_far (p := ⟨w.heap.size + 1, 1, none⟩) (.int .i64 b) (by show w.heap.size ≠ w.heap.size + 1; omega)).trans ((set_far (p := ⟨w.heap.size + 1, 0, none⟩) (.int .i64 a) (by show w.heap.size ≠ w.heap.size + 1; omega)).trans h4)
 have e5 := set_blk (i := 1) (set_blk (i := 0) h5 (.int .i64 a)) (.int .i64 b)
 have s4 := (Array.getElem?_eq_some_iff.1 e4).1
 have s5 := (Array.getElem?_eq_some_iff.1 e5).1
 exact ⟨heap_old (by simp only [World.size_alloc]; omega) (heap_old s4 e4), heap_old (by simp only [World.size_alloc]; omega) (heap_old s5 e5), (b1.alloc b1.size _).alloc (by have := b1.size; simp only [World.size_alloc]; omega) _⟩
theorem c23_1 (A : Option Addr) (n cap : Nat) (l : List Td) (tick h : Int) (z : Td) (w : World) (hn2 : n ≤ 16) (H : RdT w A n l) (ha : l[0]? = some ⟨0, 0⟩) (h0 : l[1]? = some ⟨100, h⟩) (hz : l[n - 1]? = some z) (ht : 0 < tick ∧ tick ≤ 100) (hh : -8 ≤ h ∧ h ≤ 8) :
  Calls Tryd.prog 23 #[.slice A n cap, .int .i64 tick] w fun en w' => en = .returned (.agg #[.int .i64 (Mo.lown (h * tick) 100), .int .i64 (Mo.lowd (h * tick) 100)]) ∧ Below w.heap.size w w' := by
 have hln := H.len
 have hn1 : 2 ≤ n := by have := (List.getElem?_eq_some_iff.1 h0).1; omega
 obtain ⟨g, off, rfl, hg, p0, p1⟩ := H.at ha
 obtain ⟨g2, off2, he, _, p2, p3⟩ := H.at h0
 cases he
 obtain ⟨g3, off3, he, _, _, p5⟩ := H.at hz
 cases he
 have hw1 : IntKind.i64.wrap ((n : Int) - 1) = ((n - 1 : Nat) : Int) := by rw [wrapI (by omega)]; omega
 obtain ⟨m, hm⟩ : ∃ m, m = n - 1 := ⟨_, rfl⟩
 rw [← hm] at hw1 p5
 have hmn : (m : Int) < (n : Int) := by omega
 have hni : (0 : Int) < (n : Int) := by omega
 have hni2 : 0 < n := by omega
 have hni3 : (1 : Int) < (n : Int) := by omega
 have hni4 : 1 < n := by omega
 have ht1 : decide ((100 : Int) < tick) = false := by simp; omega
 have ht2 : decide ((0 : Int) < tick) = true := by simp; omega
 have hprod : -800 ≤ h * tick ∧ h * tick ≤ 800 := by
  have h1 : h * tick ≤ 8 * tick := Int.mul_le_mul_of_nonneg_right hh.2 (by omega)
  have h2 : -8 * tick ≤ h * tick := Int.mul_le_mul_of_nonneg_right hh.1 (by omega)
  omega
 obtain ⟨P, hP⟩ : ∃ P, P = h * tick := ⟨_, rfl⟩
 rw [← hP] at hprod ⊢
 have e1 : IntKind.i64.wrap (h * tick) = P := by rw [← hP, wrapI (by omega)]
 have e2 : IntKind.i64.wrap tick = tick := wrapI (by omega)
 have e3 : IntKind.i64.wrap h = h := wrapI (by omega)
 have e4 : IntKind.i64.wrap P = P := wrapI (by omega)
 have K53 : Hid (∀ W, Calls Tryd.prog 53 #[.int .i64 P, .int .i64 100] W fun en w' => en = .returned (.agg #[.int .i64 (Mo.lown P 100), .int .i64 (Mo.lowd P 100)]) ∧ Below W.heap.size W w') := Lib.hid (fun W => c53 P 100 W (by omega) (by omega))
 obtain ⟨zh, hzh⟩ : ∃ t, t = z.h := ⟨_, rfl⟩
 rw [← hzh] at p5
 simp only [Nat.zero_mul, Nat.one_mul, Nat.add_zero] at p0 p1 p2 p3
 obtain ⟨w0, hW⟩ : ∃ W, W = (w.alloc (Obj.cells #[.int .i64 0, .int .i64 0] 68)).alloc (Obj.cells #[.int .i64 zh, .int .i64 1] 68) := ⟨_, rfl⟩
 have k4 : w0.heap[w.heap.size]? = some (.cells #[.int .i64 0, .int .i64 0] 68 (0, 0)) := by rw [hW]; exact heap_old (by simp) (heap_new rfl)
 have k5 : w0.heap[w.heap.size + 1]? = some (.cells #[.int .i64 zh, .int .i64 1] 68 (0, 0)) := by rw [hW]; exact heap_new (by simp)
 have hB0 : Below w.heap.size w w0 := by rw [hW]; exact ((Below.refl _ _).alloc (Nat.le_refl _) _).alloc (by simp) _
 have Q : Hid (∀ W, Below w.heap.size w W → W.cell? ⟨g, off, none⟩ = some (.int .i64 0) ∧ W.cell? ⟨g, off + 1, none⟩ = some (.int .i64 0) ∧ W.cell? ⟨g, off + 2, none⟩ = some (.int .i64 100) ∧ W.cell? ⟨g, off + 2 + 1, none⟩ = some (.int .i64 h)) := Lib.hid (fun W hW => ⟨(hW.cell (p := ⟨g, off, none⟩) hg).trans p0, (hW.cell (p := ⟨g, off + 1, none⟩) hg).trans p1, (hW.cell (p := ⟨g, off + 2, none⟩) hg).trans p2, (hW.cell (p := ⟨g, off + 2 + 1, none⟩) hg).trans p3⟩)
 clear H ha h0 hz ht hh hln hn1 hm hzh p0 p1 p2 p3 hn2 hP hprod
 go_enter Tryd.func23, Tryd.ntmps23
 go_wp2_with fail
 refine wp_scope_straight ?_
 go_wp2_with fail
 rw [← hW]
 clear hW p5 hw1 hmn
 go_step3
 go_wp2_with fail
 go_loopw [19] (fun i wr => ∃ k : Nat, k ≤ 1 ∧ i = .int .i64 k ∧ Below w0.heap.size w0 wr) (fun i _ => 1 - (intOf i).toNat)
 case atStart => exact ⟨0, by omega, rfl, Below.refl _ _⟩
 case round =>
  obtain ⟨k, hk, rfl, hbr⟩ := hrel
  have hB1 := hB0.call hbr rfl
  have j4 := blkb k4 hbr
  have j5 := blkb k5 hbr
  obtain ⟨q0, q1, q2, q3⟩ := Q.out wr hB1
  have lg := cell_lt q0
  by_cases hk0 : k = 0
  ·subst hk0
   have HN := Lib.hid (hbr.call (bl2 wr (Obj.cells #[.int .i64 0, .int .i64 0] 55)) rfl)
   clear j4 j5 hB1 hbr hB0 k4 k5
   go_wp2
   go_roundw
   case rel => exact ⟨1, by omega, by go_num, HN.out⟩
   case measure => simp [intOf]
  ·obtain rfl : k = 1 := by omega
   have c50 : wr.cell? ⟨w.heap.size + 1, 0, none⟩ = some (.int .i64 zh) := cell_at j5 rfl
   have c51 : wr.cell? ⟨w.heap.size + 1, 1, none⟩ = some (.int .i64 1) := cell_at j5 rfl
   have f50 : wr.frozen? ⟨w.heap.size + 1, 0, none⟩ = false := free_at j5
   have f51 : wr.frozen? ⟨w.heap.size + 1, 1, none⟩ = false := free_at j5
   have l5 := cell_lt c50
   have HM := Lib.hid (lev_mid j4 j5 hB1 (Obj.cells #[.int .i64 100, .int .i64 h] 55) (Obj.cells #[.int .i64 0, .int .i64 0] 55) h 1)
   have hgn : g ≠ w.heap.size + 1 := by omega
   clear j4 j5 hB1 hbr hB0 k4 k5 hk0
   go_wp2_with fail
   refine (K53.out _).mono ?_
   rintro e w2 ⟨rfl, hb2⟩
   have m4 := blkb HM.out.1 hb2
   have m5 := blkb HM.out.2.1 hb2
   have hB2 := HM.out.2.2.call hb2 rfl
   have c40 : w2.cell? ⟨w.heap.size, 0, none⟩ = some (.int .i64 0) := cell_at m4 rfl
   have c41 : w2.cell? ⟨w.heap.size, 1, none⟩ = some (.int .i64 0) := cell_at m4 rfl
   have f40 : w2.frozen? ⟨w.heap.size, 0, none⟩ = false := free_at m4
   have f41 : w2.frozen? ⟨w.heap.size, 1, none⟩ = false := free_at m4
   have d50 : w2.cell? ⟨w.heap.size + 1, 0, none⟩ = some (.int .i64 h) := cell_at m5 rfl
   have d51 : w2.cell? ⟨w.heap.size + 1, 1, none⟩ = some (.int .i64 1) := cell_at m5 rfl
   have e50 : w2.frozen? ⟨w.heap.size + 1, 0, none⟩ = false := free_at m5
   have e51 : w2.frozen? ⟨w.heap.size + 1, 1, none⟩ = false := free_at m5
   obtain ⟨N, hN⟩ : ∃ N, N = Mo.lown P 100 := ⟨_, rfl⟩
   obtain ⟨D, hD⟩ : ∃ D, D = Mo.lowd P 100 := ⟨_, rfl⟩
   rw [← hN, ← hD]
   have HF := Lib.hid (lev_fin m4 hB2 N D N D)
   have HND := Lib.hid (⟨hN, hD⟩ : N = Mo.lown P 100 ∧ D = Mo.lowd P 100)
   clear m4 m5 hB2 hb2 hN hD c50 c51 f50 f51 l5 q0 q1 q2 q3
   go_wp2_with fail
   simp only [Exit.noGoto_ret]
   exact bodyPost_ret (results_blk rfl rfl HF.out.1 _ Tryd.underlying68 rfl (by kernel_rfl)) rfl ⟨by rw [← HND.out.1, ← HND.out.2], HF.out.2⟩
end Go.Proofs.YtfmgibhffgkieaaDoor
namespace Go.Proofs.YtfmgibhffgkieaaDoor
open Go.RowKit
set_option maxHeartbeats 8000000
set_option maxRecDepth 100000
/-- a store into both cells of a ratio's block -/
theorem rat_fin {w w1 : World} {b : Nat} {p q : Value} {t : TypeId} (h4 : w1.heap[b]? = some (.cells #[p, q] t (0, 0))) {B : Nat} (hB : B ≤ b) (hb : Below B w w1) (c d : Value) :
  ((w1.setCell ⟨b, 0, none⟩ c).setCell ⟨b, 1, none⟩ d).heap[b]? = some (.cells #[c, d] t (0, 0)) ∧ Below B w ((w1.setCell ⟨b, 0, none⟩ c).setCell ⟨b, 1, none⟩ d) :=
 ⟨set_blk (i := 1) (set_blk (i := 0) h4 _) _, (hb.setCell (p := ⟨b, 0, none⟩) hB _).setCell (p := ⟨b, 1, none⟩) hB _⟩
theorem c14 (A : Option Addr) (n cap : Nat) (l : List Td) (tick N D : Int) (w : World) (hn1 : 1 ≤ n) (hn2 : n ≤ 16) (H : RdT w A n l) (hok : OkT l) (ht : 0 ≤ tick ∧ tick ≤ 100000)
  (h23 : ∀ W, Below w.heap.size w W → Calls Tryd.prog 23 #[.slice A n cap, .int .i64 tick] W fun en w' => en = .returned (.agg #[.int .i64 N, .int .i64 D]) ∧ Below W.heap.size W w') :
  Calls Tryd.prog 14 #[.slice A n cap, .int .i64 tick] w fun en w' => en = .returned (.tuple #[.agg #[.int .i64 N, .int .i64 D], .int .i64 0]) ∧ Below w.heap.size w w' := by
 have HR := Lib.hid (range_ok ht)
 have H23 := Lib.hid h23
 obtain ⟨w0, hW⟩ : ∃ W, W = w.alloc (Obj.cells #[.int .i64 0, .int .i64 0] 68) := ⟨_, rfl⟩
 have k4 : w0.heap[w.heap.size]? = some (.cells #[.int .i64 0, .int .i64 0] 68 (0, 0)) := by rw [hW]; exact heap_new rfl
 have hB0 : Below w.heap.size w w0 := by rw [hW]; exact (Below.refl _ _).alloc (Nat.le_refl _) _
 have H20 := Lib.hid (c20 A n cap l w0 hn1 hn2 (H.below hB0) hok)
 clear h23 H hok hn1 hn2 ht
 go_enter Tryd.func14, Tryd.ntmps14
 go_wp2_with fail
 rw [← hW]
 clear hW
 refine H20.out.mono ?_
 rintro e w1 ⟨rfl, hb1⟩
 replace k4 := blkb k4 hb1
 have hB1 := hB0.call hb1 rfl
 clear hb1 hB0
 go_wp2_with fail
 refine (c38 tick 0 100000 _).mono ?_
 rintro e w' ⟨rfl, rfl⟩
 rw [HR.out]
 go_wp2_with fail
 refine (c18 _ 2 2 [0, 0] _ rfl (by omega) (RdS.of_new (cs := encI [0, 0]) rfl rfl)).mono ?_
 rintro e w2 ⟨rfl, hw2⟩
 have hb2 : Below w1.heap.size w1 w2 := by rw [← hw2]; exact bl2 _ _
 replace k4 := blkb k4 hb2
 have hB2 := hB1.call hb2 rfl
 rw [show Mo.first [0, 0] = 0 from rfl]
 clear hw2 hb2 hB1
 go_wp2_with fail
 refine (H23.out _ hB2).mono ?_
 rintro e w3 ⟨rfl, hb3⟩
 replace k4 := blkb k4 hb3
 have hB3 := hB2.call hb3 rfl
 have c40 : w3.cell? ⟨w.heap.size, 0, none⟩ = some (.int .i64 0) := cell_at k4 rfl
 have c41 : w3.cell? ⟨w.heap.size, 1, none⟩ = some (.int .i64 0) := cell_at k4 rfl
 have f40 : w3.frozen? ⟨w.heap.size, 0, none⟩ = false := free_at k4
 have f41 : w3.frozen? ⟨w.heap.size, 1, none⟩ = false := free_at k4
 have HF := Lib.hid (rat_fin k4 (Nat.le_refl _) hB3 (.int .i64 N) (.int .i64 D))
 clear hb3 hB2 hB3 k4
 go_wp2
 exact bodyPost_ret (results_blk_tmp (u := 5) rfl rfl HF.out.1 _ Tryd.underlying68 rfl (by kernel_rfl)) rfl ⟨rfl, HF.out.2⟩
end Go.Proofs.YtfmgibhffgkieaaDoor
namespace Go.Proofs.YtfmgibhffgkieaaDoor
open Go.RowKit
set_option maxHeartbeats 4000000
set_option maxRecDepth 100000
theorem c63 (num den : Int) (w : World) (hn : -1000000 ≤ num ∧ num ≤ 1000000) (hd : 1 ≤ den ∧ den ≤ 1000000) :
  Calls Tryd.prog 63 #[.agg #[.int .i64 num, .int .i64 den]] w fun en w' => en = .returned (.int .i64 (num / den)) ∧ Below w.heap.size w w' := by
 obtain ⟨r, h1, h2, h3, h⟩ := td_cases num den (by omega)
 have ha := td_abs num den (by omega) 1000000 hn
 have hm := td_mul num den (by omega) 1000000 hn
 have hcm : den * (num / den) = num / den * den := Int.mul_comm _ _
 obtain ⟨V, hV⟩ : ∃ V, V = num / den := ⟨_, rfl⟩
 obtain ⟨q, hq⟩ : ∃ q, q = num.tdiv den := ⟨_, rfl⟩
 obtain ⟨m, hmm⟩ : ∃ m, m = q * den := ⟨_, rfl⟩
 rw [← hV] at h1 h hcm ⊢
 rw [← hq] at h ha hm
 rw [← hmm] at hm
 have e1 : num.tdiv den = q := hq.symm
 have e2 : IntKind.i64.wrap q = q := wrapI (by omega)
 have e3 : IntKind.i64.wrap (q * den) = m := by rw [← hmm, wrapI (by omega)]
 have e4 : IntKind.i64.wrap (q - 1) = q - 1 := wrapI (by omega)
 have hd0 : ¬ (den = 0) := by omega
 have hfin : (num < m → V = q - 1) ∧ (¬ num < m → V = q) := by
  rcases h with ⟨h4, h5⟩ | ⟨h4, h6, h5⟩ | ⟨h4, h6, h5⟩
  ·rw [h5] at hmm; constructor <;> intro hx <;> omega
  ·rw [h5] at hmm; constructor <;> intro hx <;> omega
  ·rw [h5, Int.add_mul] at hmm; constructor <;> intro hx <;> omega
 have HF := Lib.hid hfin
 clear h1 h2 h3 h ha hm hcm hV hq hmm hn hd hfin
 obtain ⟨w0, hW⟩ : ∃ W, W = w.alloc (Obj.cells #[.int .i64 num, .int .i64 den] 68) := ⟨_, rfl⟩
 have hT0 : w0.heap[w.heap.size]? = some (.cells #[.int .i64 num, .int .i64 den] 68 (0, 0)) := by rw [hW]; exact heap_new (by simp)
 have hB0 : Below w.heap.size w w0 := by rw [hW]; exact ((Below.refl _ _).alloc (by first | omega | (simp <;> omega)) _)
 by_cases hc : num < m
 ·have t1 : decide (num < m) = true := by simpa using hc
  have HV := Lib.hid (HF.out.1 hc)
  clear hc hT0
  go_enter Tryd.func63, Tryd.ntmps63
  go_wp2_with fail
  go_ret
  exact ⟨ret_int HV.out.symm, by rw [← hW]; exact hB0⟩
 ·have t1 : decide (num < m) = false := by simpa using hc
  have HV := Lib.hid (HF.out.2 hc)
  clear hc hT0
  go_enter Tryd.func63, Tryd.ntmps63
  go_wp2_with fail
  go_ret
  exact ⟨ret_int HV.out.symm, by rw [← hW]; exact hB0⟩
theorem c64 (num den : Int) (w : World) (hn : -1000000 ≤ num ∧ num ≤ 1000000) (hd : 1 ≤ den ∧ den ≤ 1000000) :
  Calls Tryd.prog 64 #[.agg #[.int .i64 num, .int .i64 den]] w fun en w' => en = .returned (.int .i64 (-((-num) / den))) ∧ Below w.heap.size w w' := by
 have e1 : IntKind.i64.wrap (-num) = -num := wrapI (by omega)
 have h63 := fun W => c63 (-num) den W (by omega) hd
 have hb : -1000001 ≤ (-num) / den ∧ (-num) / den ≤ 1000000 := by
  obtain ⟨r, h1, h2, h3, h⟩ := td_cases (-num) den (by omega)
  have ha := td_abs (-num) den (by omega) 1000000 (by omega)
  omega
 obtain ⟨V, hV⟩ : ∃ V, V = (-num) / den := ⟨_, rfl⟩
 rw [← hV] at hb h63 ⊢
 have e2 : IntKind.i64.wrap (-V) = -V := wrapI (by omega)
 have H63 := Lib.hid h63
 clear h63 hb hV hn hd
 obtain ⟨w0, hW⟩ : ∃ W, W = w.alloc (Obj.cells #[.int .i64 num, .int .i64 den] 68) := ⟨_, rfl⟩
 have hT0 : w0.heap[w.heap.size]? = some (.cells #[.int .i64 num, .int .i64 den] 68 (0, 0)) := by rw [hW]; exact heap_new (by simp)
 have hB0 : Below w.heap.size w w0 := by rw [hW]; exact ((Below.refl _ _).alloc (by first | omega | (simp <;> omega)) _)
 go_enter Tryd.func64, Tryd.ntmps64
 go_wp2_with fail
 rw [← hW]
 clear hW
 have qhT0_0 : w0.cell? ⟨w.heap.size, 0, none⟩ = some (.int .i64 num) := cell_at hT0 rfl
 have qhT0_1 : w0.cell? ⟨w.heap.size, 1, none⟩ = some (.int .i64 den) := cell_at hT0 rfl
 go_wp2_with fail
 refine (H63.out _).mono ?_
 rintro e w1 ⟨rfl, hb⟩
 clear qhT0_0 qhT0_1
 have hS := hb
 have hB1 := hB0.call hS rfl
 replace hT0 := blkb hT0 hS
 clear hS hB0
 have qhT0_0 : w1.cell? ⟨w.heap.size, 0, none⟩ = some (.int .i64 num) := cell_at hT0 rfl
 have qhT0_1 : w1.cell? ⟨w.heap.size, 1, none⟩ = some (.int .i64 den) := cell_at hT0 rfl
 clear hb
 go_wp2
 go_ret
 exact ⟨rfl, hB1⟩
theorem c36 (a b s : Int) (w : World) (ha : -1000000 ≤ a ∧ a ≤ 1000000) (hb : -1000000 ≤ b ∧ b ≤ 1000000) (hs : -1000000 ≤ s ∧ s ≤ 1000000) :
  Calls Tryd.prog 36 #[.agg #[.int .i64 a, .int .i64 b], .int .i64 s] w fun en w' => en = .returned (.agg #[.int .i64 (a + s), .int .i64 (b + s)]) ∧ Below w.heap.size w w' := by
 have e1 : IntKind.i64.wrap (a + s) = a + s := wrapI (by omega)
 have e2 : IntKind.i64.wrap (b + s) = b + s := wrapI (by omega)
 clear ha hb hs
 go_enter Tryd.func36, Tryd.ntmps36
 go_wp2
 exact bodyPost_ret (results_blk rfl rfl (heap_new (w := w.alloc (Obj.cells #[.int .i64 a, .int .i64 b] 66)) (by simp)) _ Tryd.underlying66 rfl (by kernel_rfl)) rfl ⟨rfl, ((Below.refl _ _).alloc (Nat.le_refl _) _).alloc (by simp) _⟩
theorem c37 (a b c d : Int) (w : World) :
  Calls Tryd.prog 37 #[.agg #[.int .i64 a, .int .i64 b, .int .i64 c, .int .i64 d]] w fun en w' => en = .returned (.bool (decide (b < c) || decide (d < a))) ∧ Below w.heap.size w w' := by
 obtain ⟨V, hV⟩ : ∃ V, V = (decide (b < c) || decide (d < a)) := ⟨_, rfl⟩
 rw [← hV]
 have HV := Lib.hid hV
 clear hV
 by_cases h1 : b < c
 ·have t1 : decide (b < c) = true := by simpa using h1
  have HG : Hid (V = true) := Lib.hid (by rw [HV.out, t1]; rfl)
  clear h1
  go_enter Tryd.func37, Tryd.ntmps37
  go_wp2
  go_ret
  exact ⟨ret_bool HG.out.symm, bl2 _ _⟩
 ·have t1 : decide (b < c) = false := by simpa using h1
  have HG : Hid (V = decide (d < a)) := Lib.hid (by rw [HV.out, t1]; rfl)
  clear h1
  go_enter Tryd.func37, Tryd.ntmps37
  go_wp2
  go_ret
  exact ⟨ret_bool HG.out.symm, bl2 _ _⟩
end Go.Proofs.YtfmgibhffgkieaaDoor
