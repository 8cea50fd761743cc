/- A part of the proofs about chapter 7 (image): contracts of functions and plain laws (V53). -/
import Derived.Test.YtdimmlljjmmdbaaGreatDoorA10
import Derived.Test.YtdimmlljjmmdbaaGreatDoorA06
set_option linter.all false
namespace Go.Proofs.YtdimmlljjmmdbaaGreatDoor
open Go.RowKit Go.Shelf
set_option maxHeartbeats 8000000
set_option maxRecDepth 100000
theorem c111 (A B : Option Addr) (n cap cap2 : Nat) (a b : List Int) (w : World) (hn : n ≤ 4096) (H : RdI w A n a) (G : RdI w B n b) (ha : ∀ x, x ∈ a → -16777216 ≤ x ∧ x ≤ 16777216) (hb : ∀ x, x ∈ b → -16777216 ≤ x ∧ x ≤ 16777216) :
   Calls Tryz.prog 111 #[.slice A n cap, .slice B n cap2] w fun en w' => en = .returned (.int .i64 (Im.inner a b)) ∧ Below w.heap.size w w' := by
  have HV : Hid (Im.innK a b n = Im.inner a b) := Lib.hid (Im.innK_full H.len G.len)
  rw [← HV.out]
  have HA0 := Im.at0_le (by omega) ha
  have HB0 := Im.at0_le (by omega) hb
  have HLE := Lib.hid (Im.innK_le (by omega) HA0 HB0)
  have HMU := Lib.hid (fun k => Im.mul_le (by omega) (HA0 k) (HB0 k))
  have HH := Lib.hid H
  have GG := Lib.hid G
  clear H G ha hb HV HA0 HB0
  go_enter Tryz.func111, Tryz.ntmps111
  go_wp2
  go_loopw [5, 6] (fun S i wr => Below w.heap.size w wr ∧ ∃ k : Nat, k ≤ n ∧ i = .int .i64 k ∧ S = .int .i64 (Im.innK a b k)) (fun _ i _ => n - (intOf i).toNat)
  case atStart => exact ⟨Below.refl _ _, 0, Nat.zero_le _, rfl, rfl⟩
  case round =>
    obtain ⟨hbel, k, hk, rfl, rfl⟩ := hrel
    have HBL := Lib.hid hbel
    by_cases hlt : k < n
    · obtain ⟨p, poff, rfl, hp, _⟩ := (HH.out.below hbel).2 (by omega)
      obtain ⟨q, qoff, rfl, hq, _⟩ := (GG.out.below hbel).2 (by omega)
      have c1 := (HH.out.below hbel).get hlt
      have c2 := (GG.out.below hbel).get hlt
      have hwk : IntKind.i64.wrap ((k : Int) + 1) = ((k + 1 : Nat) : Int) := by rw [wrapI (by omega)]; simp
      have hk2 : (k : Int) < (n : Int) := by omega
      have hk0 : (0 : Int) ≤ (k : Int) := by omega
      have h1 := HMU.out k
      have h2 := HLE.out k
      have h3 : (k : Int) * (16777216 * 16777216) ≤ 4096 * (16777216 * 16777216) := Int.mul_le_mul_of_nonneg_right (by omega) (by decide)
      have HN : Hid (Im.innK a b (k + 1) = Im.innK a b k + Im.at0 a k * Im.at0 b k) := Lib.hid rfl
      have hw1 : IntKind.i64.wrap (Im.at0 a k * Im.at0 b k) = Im.at0 a k * Im.at0 b k := wrapI (by omega)
      have hw2 : IntKind.i64.wrap (Im.innK a b k + Im.at0 a k * Im.at0 b k) = Im.innK a b k + Im.at0 a k * Im.at0 b k := wrapI (by omega)
      clear h1 h2 h3 hbel
      generalize Im.at0 a k = x at *
      generalize Im.at0 b k = y at *
      generalize Im.innK a b k = S at *
      go_wp2
      refine wp_region_growG (by kernel_rfl) (by kernel_rfl) ?_
      repeat (go_big_quiet_step ((first | fail)))
      refine wpQuiet_nil (gw_out ?_)
      intro w3 hb3
      have HB3 : Hid (Below w.heap.size w w3) := Lib.hid (HBL.out.call hb3 rfl)
      clear hb3
      go_wp2
      go_roundw
      case rel => exact ⟨HB3.out, k + 1, by omega, rfl, by rw [HN.out]⟩
      case measure => simp [intOf]; omega
    · obtain rfl : n = k := by omega
      clear hbel
      go_wp2
      go_ret
      exact ⟨rfl, HBL.out⟩
theorem c41 (A B : Option Addr) (n m cap cap2 : Nat) (a b : List Int) (w : World) (hn : n ≤ 1000000) (hm : m ≤ 1000000) (H : RdI w A n a) (G : RdI w B m b) :
   Calls Tryz.prog 41 #[.slice A n cap, .slice B m cap2] w fun en w' => en = .returned (.tuple #[.int .i64 (Mo.innV a b), .int .i64 (Mo.innE a b)]) ∧ Below w.heap.size w w' := by
  have HAL := Lib.hid H.len
  have HBL := Lib.hid G.len
  obtain ⟨V, hV⟩ : ∃ E, E = Mo.innV a b := ⟨_, rfl⟩
  obtain ⟨X, hX⟩ : ∃ E, E = Mo.innE a b := ⟨_, rfl⟩
  rw [← hV, ← hX]
  have HV := Lib.hid hV
  have HX := Lib.hid hX
  clear hV hX
  by_cases hnm : n = m
  rotate_left
  · have hne : ((n : Int) != (m : Int)) = true := by simp; omega
    have HR : Hid (V = 0 ∧ X = 2) := Lib.hid (by
      have h2 : Mo.innE a b = 2 := by unfold Mo.innE Mo.innA; rw [HAL.out, HBL.out, hne]; rfl
      exact ⟨by rw [HV.out]; unfold Mo.innV; rw [if_neg (by rw [h2]; decide)], by rw [HX.out, h2]⟩)
    go_enter Tryz.func41, Tryz.ntmps41
    go_wp2
    go_ret2
    exact ⟨by rw [HR.out.1, HR.out.2]; rfl, Below.refl _ _⟩
  subst hnm
  have hne : ((n : Int) != (n : Int)) = false := by simp
  by_cases hbig : 4096 < n
  · have hd : decide ((4096 : Int) < (n : Int)) = true := by simp; omega
    have HR : Hid (V = 0 ∧ X = 5) := Lib.hid (by
      have h2 : Mo.innE a b = 5 := by unfold Mo.innE Mo.innA; rw [HAL.out, HBL.out, hne, hd]; rfl
      exact ⟨by rw [HV.out]; unfold Mo.innV; rw [if_neg (by rw [h2]; decide)], by rw [HX.out, h2]⟩)
    go_enter Tryz.func41, Tryz.ntmps41
    go_wp2
    go_ret2
    exact ⟨by rw [HR.out.1, HR.out.2]; rfl, Below.refl _ _⟩
  have hd : decide ((4096 : Int) < (n : Int)) = false := by simp; omega
  have HA0 : Hid (Mo.innA a b = 0) := Lib.hid (by unfold Mo.innA; rw [HAL.out, HBL.out, hne, hd]; rfl)
  have HE : Hid (X = Mo.innB a b) := Lib.hid (by rw [HX.out]; unfold Mo.innE; rw [Mo.first_z HA0.out, Mo.first_one])
  obtain ⟨F, hF⟩ : ∃ F, F = Mo.innB a b := ⟨_, rfl⟩
  have HX2 : Hid (X = F) := Lib.hid (by rw [HE.out, hF])
  have HF : Hid (Mo.first [Mo.allw a (-16777216) 16777216, Mo.allw b (-16777216) 16777216] = F) := Lib.hid (by rw [hF]; rfl)
  have HVZ : Hid (X ≠ 0 → V = 0) := Lib.hid (fun h => by rw [HV.out]; unfold Mo.innV; rw [← HX.out, if_neg h])
  have HVI : Hid (X = 0 → V = Im.inner a b) := Lib.hid (fun h => by rw [HV.out]; unfold Mo.innV; rw [← HX.out, if_pos h])
  clear hF
  go_enter Tryz.func41, Tryz.ntmps41
  obtain ⟨w0, hw0⟩ : ∃ W, W = w := ⟨_, rfl⟩
  subst hw0
  go_wp2_with fail
  refine (c92 A n cap a _ _ _ hn H).mono ?_
  rintro e w' ⟨rfl, rfl⟩
  go_wp2_with fail
  refine (c92 B n cap2 b _ _ _ hn G).mono ?_
  rintro e w' ⟨rfl, rfl⟩
  go_wp2_with fail
  refine (c98 _ 2 2 [Mo.allw a (-16777216) 16777216, Mo.allw b (-16777216) 16777216] _ rfl (by omega) (RdS.of_new (cs := encI [Mo.allw a (-16777216) 16777216, Mo.allw b (-16777216) 16777216]) rfl rfl)).mono ?_
  rintro e w' ⟨rfl, rfl⟩
  obtain ⟨w4, hwn⟩ : ∃ V, V = w0.alloc (Obj.cells (encI [Mo.allw a (-16777216) 16777216, Mo.allw b (-16777216) 16777216]).toArray 3) := ⟨_, rfl⟩
  have hB4 : Below w0.heap.size w0 w4 := by rw [hwn]; exact (Below.refl _ _).alloc (Nat.le_refl _) _
  try rw [← hwn]
  clear hwn
  replace H := H.below hB4
  replace G := G.below hB4
  rw [HF.out]
  by_cases hF0 : F = 0
  rotate_left
  · have hff : (F != 0) = true := by simpa using hF0
    have HP : Hid (V = 0 ∧ X = F) := Lib.hid ⟨HVZ.out (by rw [HX2.out]; exact hF0), HX2.out⟩
    go_wp2
    go_ret2
    exact ⟨by rw [HP.out.1, HP.out.2]; rfl, hB4⟩
  have hff : (F != 0) = false := by simp [hF0]
  have hz := Mo.first_zero (HF.out ▸ hF0 : Mo.first [Mo.allw a (-16777216) 16777216, Mo.allw b (-16777216) 16777216] = 0)
  have hab := Mo.allw_ok.1 (hz _ List.mem_cons_self)
  have hbb := Mo.allw_ok.1 (hz (Mo.allw b (-16777216) 16777216) (by simp))
  have HP : Hid (V = Im.inner a b ∧ X = 0) := Lib.hid ⟨HVI.out (by rw [HX2.out, hF0]), by rw [HX2.out, hF0]⟩
  have HAB := Lib.hid hab
  have HBB := Lib.hid hbb
  clear hz hab hbb
  go_wp2_with fail
  refine (c111 A B n cap cap2 a b _ (by omega) H G HAB.out HBB.out).mono ?_
  rintro e w5 ⟨rfl, hb5⟩
  have hB5 := hB4.call hb5 rfl
  clear hb5
  go_wp2
  go_ret2
  exact ⟨by rw [HP.out.1, HP.out.2]; rfl, hB5⟩
/-- the law ImageInners -/
theorem l5 (A B : Option Addr) (n m cap cap2 : Nat) (a b : List Int) (w : World) (H : RdI w A n a) (G : RdI w B m b) (hst : Steps w) :
   Calls Tryz.prog 5 #[.slice A n cap, .slice B m cap2] w fun en w' => en = .returned (.bool true) ∧ Below w.heap.size w w' := by
  go_enter Tryz.func5, Tryz.ntmps5
  obtain ⟨w0, hw0⟩ : ∃ W, W = w := ⟨_, rfl⟩
  subst hw0
  go_wp2_with fail
  all_goals first
    | (refine (c18 _ hst).mono ?_
       rintro e w9 ⟨rfl, hb9⟩
       go_wp2
       go_ret
       exact ⟨rfl, hb9⟩)
    | skip
  all_goals (
    have hn1 : n ≤ 4097 := by first | omega | (simp at *; omega)
    have hm1 : m ≤ 4097 := by first | omega | (simp at *; omega)
    have hn2 : n ≤ 1000000 := by omega
    have hm2 : m ≤ 1000000 := by omega
    clear hn1 hm1
    refine (c22 A n cap a _ hn2 H).mono ?_
    rintro e w1 ⟨v1, rfl, ho1, hb1⟩
    obtain ⟨A1, cap1, rfl, hr1, _⟩ := own_form ho1
    have H1 := H.below hb1
    have G1 := G.below hb1
    have hst1 := hst.below hb1
    clear ho1
    go_wp2_with fail
    refine (c22 B m cap2 b _ hm2 G1).mono ?_
    rintro e w2 ⟨v2, rfl, ho2, hb2⟩
    obtain ⟨A2, cap2', rfl, hr2, _⟩ := own_form ho2
    have H2 := H1.below hb2
    have G2 := G1.below hb2
    have hst2 := hst1.below hb2
    have hr12 : RdI w2 A1 n a := RdS.below hr1 hb2
    have hB2 := hb1.call hb2 rfl
    clear ho2 H1 G1 hst1 hr1 hb1 hb2
    go_wp2_with fail
    refine (c40 A1 A2 n m cap1 cap2' a b _ hn2 hm2 hr12 hr2).mono ?_
    rintro e w3 ⟨rfl, hb3⟩
    have H3 := H2.below hb3
    have G3 := G2.below hb3
    have hst3 := hst2.below hb3
    have hB3 := hB2.call hb3 rfl
    clear hB2 H2 G2 hst2 hb3 hr12 hr2
    go_wp2_with fail
    refine (c41 A B n m cap cap2 a b _ hn2 hm2 H3 G3).mono ?_
    rintro e w4 ⟨rfl, hb4⟩
    have hst4 := hst3.below hb4
    have hB4 := hB3.call hb4 rfl
    clear hB3 H3 G3 hst3 hb4
    generalize Mo.innV a b = V
    generalize Mo.innE a b = E
    go_wp2_with fail
    refine (c18 _ hst4).mono ?_
    rintro e w5 ⟨rfl, hb5⟩
    have hB5 := hB4.call hb5 rfl
    clear hb5 hB4 hst4
    go_wp2
    go_ret
    exact ⟨rfl, hB5⟩)
end Go.Proofs.YtdimmlljjmmdbaaGreatDoor
