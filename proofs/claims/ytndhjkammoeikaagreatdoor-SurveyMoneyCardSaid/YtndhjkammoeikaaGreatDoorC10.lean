/- For every input the law SurveyMoney of chapter 9 (survey) returns true, and each argument reads afterwards as it read before: no condition; the listed tables of the library are tied to the program's text by the card. -/
import Derived.Test.YtndhjkammoeikaaGreatDoorTie
import Derived.Test.YtndhjkammoeikaaGreatDoorCards
import Derived.Test.YtndhjkammoeikaaGreatDoorL01
import Derived.Test.YtndhjkammoeikaaGreatDoorM02
import Derived.Test.YtndhjkammoeikaaGreatDoorM01
set_option linter.all false
/- For every input the law SurveyMoney of chapter 9 (survey) returns true, and its arguments read afterwards as they read before. -/
namespace Go.Proofs.YtndhjkammoeikaaGreatDoor
open Go.ChangeShapes Go.WideShapes Go.ChangeAt Go.RowKit

theorem hspec10 {H : Type} (d1 d2 d3 : DataW H) : Rows.surveyMoneySpec.fn H ([d1, d2, d3] ++ []) = { results := [.lit (.bool true)], args := [d1, d2, d3] } := rfl

set_option maxRecDepth 100000 in
theorem lifted10 (os : Os) (started : os.Started) (H : Type) (enc : TypeId × Value → H) :
    ReturnsInHanded {} Tryz.checked os 10 .any (fun w args => (Rows.surveyMoneySpec.pre enc Tryz.prog Tryz.f10 [] false w args ∧ laidMetH Tryz.prog laid3 w) ∧ sizedMet enc Tryz.prog Tryz.f10 (OpenSpec.ofChange Rows.surveyMoneySpec) false w args)
      (Rows.surveyMoneySpec.post enc Tryz.prog Tryz.f10 false true false false) := by
  refine returnsInHanded_of_change_and (C := Tryz.checked) (X := fun w _ => laidMetH Tryz.prog laid3 w) (fun _ _ _ hh h => h.of_heap hh) Tryz.own started (by kernel_rfl) Tryz.func10
    (ChangeSpec.witness_shaped (enc := enc) (C := Tryz.checked) (os := os) (X := fun w _ => laidMetH Tryz.prog laid3 w) false (World.doorLaid Tryz.prog 400 os) #[.agg #[.int .i64 0, .int .i64 0, .int .i64 0, .int .i64 0, .int .i64 0, .int .i64 0, .int .i64 0, .int .i64 0, .int .i64 0], .slice none 0 0, .agg #[.int .i64 0, .int .i64 0, .int .i64 0, .int .i64 0, .int .i64 0, .int .i64 0, .int .i64 0, .int .i64 0, .int .i64 0, .int .i64 0, .slice none 0 0, .slice none 0 0, .slice none 0 0, .int .i64 0, .slice none 0 0]] 8 rfl (door_shaped os _) (by kernel_rfl) (by kernel_rfl) (by kernel_rfl) (door3 os _)) ?_
  intro W base args ds gs before hval0 hW _ _ _ _
  have hval : ∀ (j : Nat) t v, Tryz.f10.params[j]? = some t → args[j]? = some v → Value.okWide Tryz.prog W .any base t v := hval0
  have hW' := hW
  obtain ⟨p, q, hA0, hV, rfl, hfz, hnd⟩ := hW
  have hA : DataW.TrodAll enc Tryz.prog W 0 (fun _ => true) true Tryz.f10.params.toList args.toList ds p := hA0
  rw [Tryz.params10] at hA hval
  obtain ⟨v1, v2, v3, d1, d2, d3, p1, p2, p3, rfl, rfl, rfl, h1, h2, h3⟩ := trodAll_three hA
  clear hA0 hval0
  obtain ⟨c, rfl⟩ := open_con (hval 0 122 v1 rfl rfl) h1
  obtain ⟨A, cap, l, rfl, hr, _, hlc, hcm⟩ := open_ents (hval 1 79 v2 rfl rfl) h2
  obtain ⟨v, u, SA, scap, sg, S, shcap, sh, T, wcap, we, tk, G, gcap, rs, rfl, ⟨ha, _⟩, ⟨hs, hs0, _⟩, ⟨ht, ht0, _⟩, hg, _, hgc, hgm⟩ := open_day (hval 2 125 v3 rfl rfl) h3
  have hl0 : l.length ≤ 9223372036854775807 := by unfold maxLen at hcm; omega
  have hg0 : rs.length ≤ 9223372036854775807 := by unfold maxLen at hgm; omega

  refine (l10 c A cap l v u SA scap sg S shcap sh T wcap we tk G gcap rs W hl0 hg0 hr hg ha hs ht hs0 ht0).mono fun e W' ⟨he, hB⟩ => ?_
  subst he
  exact ⟨_, rfl, post_law (by kernel_rfl) (by kernel_rfl) (by kernel_rfl) (fun h => by subst h; exact hspec10 _ _ _) hW' hB⟩
theorem surveyMoney_row : Rows.SurveyMoneySaid :=
  OpenClaim.holds_of_wide 10 Tryz.f10 rfl rfl rfl rfl rfl rfl rfl ⟨rfl, rfl, rfl, rfl, rfl⟩ rfl rfl rfl rfl rfl (by kernel_rfl) Tryz.func10 (by kernel_rfl)
    (of_decide_eq_true (by kernel_rfl)) (by unfold Func.isWrapper; rw [if_neg (of_decide_eq_false (by kernel_rfl))]; exact ⟨rfl, rfl⟩)
    (fun os started H enc _ => lifted10 os started H enc)
theorem surveyMoney_holds : Rows.SurveyMoneyCardSaid :=
  Claim7.holds_tied_plain_at .later [] [.data, .data, .data] true (true, "38876ad517132c138e5658753e4e18eb6717b8314190380fa3a6a6a4bde3f8f1") false
    surveyMoney_row (fun _ h => by cases h) (by kernel_rfl) (fun _ h => by cases h) surveyMoney_row_tie rfl ⟨rfl, rfl⟩ (by kernel_rfl) rfl
    (fun f fn hf hfn => by
      obtain rfl : f = 10 := Option.some.inj ((show Tryz.prog.funcNamed Rows.surveyMoneyRow.func = some 10 by kernel_rfl).symm.trans hf) |>.symm
      obtain rfl : fn = Tryz.f10 := (Option.some.inj (Tryz.func10.symm.trans hfn)).symm
      exact ⟨by kernel_rfl, fun j t ht => by
        rw [Tryz.params10] at ht
        have hm : t ∈ [122, 79, 125] := by simpa using Array.mem_of_getElem? ht
        have hall : ([122, 79, 125].all fun u => !Tryz.prog.wantsStandIn u) = true := by kernel_rfl
        exact (show Tryz.prog.wantsStandIn t = false by simpa using List.all_eq_true.1 hall t hm)⟩)
    (by kernel_rfl)
end Go.Proofs.YtndhjkammoeikaaGreatDoor
