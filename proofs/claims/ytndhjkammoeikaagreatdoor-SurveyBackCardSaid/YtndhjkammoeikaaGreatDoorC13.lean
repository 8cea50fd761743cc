/- For every input the law SurveyBack of chapter 9 (survey) returns true, and each argument reads afterwards as it read before: no condition; the listed tables of the library are tied to the program's text by the card. -/
import Derived.Test.YtndhjkammoeikaaGreatDoorTie
import Derived.Test.YtndhjkammoeikaaGreatDoorCards
import Derived.Test.YtndhjkammoeikaaGreatDoorL01
import Derived.Test.YtndhjkammoeikaaGreatDoorT03
set_option linter.all false
/- For every input the law SurveyBack of chapter 9 (survey) returns true, and its arguments read afterwards as they read before. -/
namespace Go.Proofs.YtndhjkammoeikaaGreatDoor
open Go.ChangeShapes Go.WideShapes Go.ChangeAt Go.RowKit

theorem hspec13 {H : Type} (d1 d2 : DataW H) : Rows.surveyBackSpec.fn H ([d1, d2] ++ []) = { results := [.lit (.bool true)], args := [d1, d2] } := rfl

set_option maxRecDepth 100000 in
theorem lifted13 (os : Os) (started : os.Started) (H : Type) (enc : TypeId × Value → H) :
    ReturnsInHanded {} Tryz.checked os 13 .any (fun w args => (Rows.surveyBackSpec.pre enc Tryz.prog Tryz.f13 [] false w args ∧ laidMetH Tryz.prog laidT w) ∧ sizedMet enc Tryz.prog Tryz.f13 (OpenSpec.ofChange Rows.surveyBackSpec) false w args)
      (Rows.surveyBackSpec.post enc Tryz.prog Tryz.f13 false true false false) := by
  refine handed_shaped (C := Tryz.checked) (X := fun w _ => laidMetH Tryz.prog laidT w) (fun _ _ _ hh h => h.of_heap hh) Tryz.own started (by kernel_rfl) Tryz.func13
    (ChangeSpec.witness_shaped (enc := enc) (C := Tryz.checked) (os := os) (X := fun w _ => laidMetH Tryz.prog laidT w) false (World.laidAll Tryz.prog os laidT) #[.slice none 0 0, .string ByteArray.empty] 8 (World.laidAll_os _ _ _) (World.shaped_of_ZipB (by kernel_rfl) (by kernel_rfl)) (by kernel_rfl) (by kernel_rfl) (by kernel_rfl) (by rw [Go.MakeChecks.laidMetH_plain _ _ _ (by kernel_rfl)]; exact laidMet_laidAll _ (by kernel_rfl) (by kernel_rfl))) ?_
  intro W base args ds gs before hsh hval0 hW hlaid
  obtain ⟨m, hm⟩ := max_len W hsh
  have hpow := pow_tab W hlaid
  have hval : ∀ (j : Nat) t v, Tryz.f13.params[j]? = some t → args[j]? = some v → Value.okWide Tryz.prog W .any base t v := hval0
  have hW' := hW
  obtain ⟨p, q, hA0, hV, rfl, hfz, hnd⟩ := hW
  have hA : DataW.TrodAll enc Tryz.prog W 0 (fun _ => true) true Tryz.f13.params.toList args.toList ds p := hA0
  rw [Tryz.params13] at hA hval
  obtain ⟨v1, v2, d1, d2, p1, p2, rfl, rfl, rfl, h1, h2⟩ := trodAll_two hA
  clear hA0 hval0
  obtain ⟨A, cap, l, rfl, hr, _, hlc, hcm⟩ := open_ents (hval 0 79 v1 rfl rfl) h1
  obtain ⟨s, rfl, _, _, hsm⟩ := Go.ChangeMaps.open_string Tryz.underlying9 (hval 1 9 v2 rfl rfl) h2
  have hl0 : l.length ≤ 9223372036854775807 := by unfold maxLen at hcm; omega
  have hs0 : s.size ≤ 9223372036854775807 := by unfold maxLen at hsm; omega

  refine (l13 A cap l s m W hl0 hs0 hr hm hpow).mono fun e W' ⟨he, hB⟩ => ?_
  subst he
  exact ⟨_, rfl, post_law (by kernel_rfl) (by kernel_rfl) (by kernel_rfl) (fun h => by subst h; exact hspec13 _ _) hW' hB⟩
theorem surveyBack_row : Rows.SurveyBackSaid :=
  OpenClaim.holds_of_wide 13 Tryz.f13 rfl rfl rfl rfl rfl rfl rfl ⟨rfl, rfl, rfl, rfl, rfl⟩ rfl rfl rfl rfl rfl (by kernel_rfl) Tryz.func13 (by kernel_rfl)
    (of_decide_eq_true (by kernel_rfl)) (by unfold Func.isWrapper; rw [if_neg (of_decide_eq_false (by kernel_rfl))]; exact ⟨rfl, rfl⟩)
    (fun os started H enc _ => lifted13 os started H enc)
theorem surveyBack_holds : Rows.SurveyBackCardSaid :=
  Claim7.holds_tied_plain_at .later [] [.data, .data, .data, .data, .pinned] true (true, "38876ad517132c138e5658753e4e18eb6717b8314190380fa3a6a6a4bde3f8f1") false
    surveyBack_row (fun _ h => by cases h) (by kernel_rfl) (fun _ h => by cases h) surveyBack_row_tie rfl ⟨rfl, rfl⟩ (by kernel_rfl) rfl
    (fun f fn hf hfn => by
      obtain rfl : f = 13 := Option.some.inj ((show Tryz.prog.funcNamed Rows.surveyBackRow.func = some 13 by kernel_rfl).symm.trans hf) |>.symm
      obtain rfl : fn = Tryz.f13 := (Option.some.inj (Tryz.func13.symm.trans hfn)).symm
      exact ⟨by kernel_rfl, fun j t ht => by
        rw [Tryz.params13] at ht
        have hm : t ∈ [79, 9] := by simpa using Array.mem_of_getElem? ht
        have hall : ([79, 9].all fun u => !Tryz.prog.wantsStandIn u) = true := by kernel_rfl
        exact (show Tryz.prog.wantsStandIn t = false by simpa using List.all_eq_true.1 hall t hm)⟩)
    (by kernel_rfl)
end Go.Proofs.YtndhjkammoeikaaGreatDoor
