/- For every input the law SurveyQuiet of chapter 9 (survey) returns true, and each argument reads afterwards as it read before: no condition; the listed tables of the library are tied to the program's text by the card. -/
import Derived.Test.YtndhjkammoeikaaGreatDoorTie
import Derived.Test.YtndhjkammoeikaaGreatDoorCards
import Derived.Test.YtndhjkammoeikaaGreatDoorL01
import Derived.Test.YtndhjkammoeikaaGreatDoorL06
set_option linter.all false
/- For every input the law SurveyQuiet of chapter 9 (survey) returns true, and its arguments read afterwards as they read before. -/
namespace Go.Proofs.YtndhjkammoeikaaGreatDoor
open Go.ChangeShapes Go.WideShapes Go.ChangeAt Go.RowKit

theorem hspec7 {H : Type} (d1 d2 : DataW H) : Rows.surveyQuietSpec.fn H ([d1, d2] ++ []) = { results := [.lit (.bool true)], args := [d1, d2] } := rfl

set_option maxRecDepth 100000 in
theorem lifted7 (os : Os) (started : os.Started) (H : Type) (enc : TypeId × Value → H) :
    ReturnsInHanded {} Tryz.checked os 7 .any (fun w args => (Rows.surveyQuietSpec.pre enc Tryz.prog Tryz.f7 [] false w args ∧ laidMetH Tryz.prog laid3 w) ∧ sizedMet enc Tryz.prog Tryz.f7 (OpenSpec.ofChange Rows.surveyQuietSpec) false w args)
      (Rows.surveyQuietSpec.post enc Tryz.prog Tryz.f7 false true false false) := by
  refine returnsInHanded_of_change_and (C := Tryz.checked) (X := fun w _ => laidMetH Tryz.prog laid3 w) (fun _ _ _ hh h => h.of_heap hh) Tryz.own started (by kernel_rfl) Tryz.func7
    (ChangeSpec.witness_shaped (enc := enc) (C := Tryz.checked) (os := os) (X := fun w _ => laidMetH Tryz.prog laid3 w) false (World.doorLaid Tryz.prog 400 os) #[.agg #[.int .i64 0, .int .i64 0, .int .i64 0, .int .i64 0, .int .i64 0], .agg #[.int .i64 0, .int .i64 0, .int .i64 0, .int .i64 0, .int .i64 0, .slice none 0 0]] 8 rfl (door_shaped os _) (by kernel_rfl) (by kernel_rfl) (by kernel_rfl) (door3 os _)) ?_
  intro W base args ds gs before hval0 hW _ _ _ _
  have hval : ∀ (j : Nat) t v, Tryz.f7.params[j]? = some t → args[j]? = some v → Value.okWide Tryz.prog W .any base t v := hval0
  have hW' := hW
  obtain ⟨p, q, hA0, hV, rfl, hfz, hnd⟩ := hW
  have hA : DataW.TrodAll enc Tryz.prog W 0 (fun _ => true) true Tryz.f7.params.toList args.toList ds p := hA0
  rw [Tryz.params7] at hA hval
  obtain ⟨v1, v2, d1, d2, p1, p2, rfl, rfl, rfl, h1, h2⟩ := trodAll_two hA
  clear hA0 hval0
  obtain ⟨v, rfl⟩ := open_ves (hval 0 25 v1 rfl rfl) h1
  obtain ⟨u, A, cap, l, rfl, hr, _⟩ := open_seen (hval 1 60 v2 rfl rfl) h2

  refine (l7 v u A cap l W hr).mono fun e W' ⟨he, hB⟩ => ?_
  subst he
  exact ⟨_, rfl, post_law (by kernel_rfl) (by kernel_rfl) (by kernel_rfl) (fun h => by subst h; exact hspec7 _ _) hW' hB⟩
theorem surveyQuiet_row : Rows.SurveyQuietSaid :=
  OpenClaim.holds_of_wide 7 Tryz.f7 rfl rfl rfl rfl rfl rfl rfl ⟨rfl, rfl, rfl, rfl, rfl⟩ rfl rfl rfl rfl rfl (by kernel_rfl) Tryz.func7 (by kernel_rfl)
    (of_decide_eq_true (by kernel_rfl)) (by unfold Func.isWrapper; rw [if_neg (of_decide_eq_false (by kernel_rfl))]; exact ⟨rfl, rfl⟩)
    (fun os started H enc _ => lifted7 os started H enc)
theorem surveyQuiet_holds : Rows.SurveyQuietCardSaid :=
  Claim7.holds_tied_plain_at .later [] [.data, .data, .data] true (true, "38876ad517132c138e5658753e4e18eb6717b8314190380fa3a6a6a4bde3f8f1") false
    surveyQuiet_row (fun _ h => by cases h) (by kernel_rfl) (fun _ h => by cases h) surveyQuiet_row_tie rfl ⟨rfl, rfl⟩ (by kernel_rfl) rfl
    (fun f fn hf hfn => by
      obtain rfl : f = 7 := Option.some.inj ((show Tryz.prog.funcNamed Rows.surveyQuietRow.func = some 7 by kernel_rfl).symm.trans hf) |>.symm
      obtain rfl : fn = Tryz.f7 := (Option.some.inj (Tryz.func7.symm.trans hfn)).symm
      exact ⟨by kernel_rfl, fun j t ht => by
        rw [Tryz.params7] at ht
        have hm : t ∈ [25, 60] := by simpa using Array.mem_of_getElem? ht
        have hall : ([25, 60].all fun u => !Tryz.prog.wantsStandIn u) = true := by kernel_rfl
        exact (show Tryz.prog.wantsStandIn t = false by simpa using List.all_eq_true.1 hall t hm)⟩)
    (by kernel_rfl)
end Go.Proofs.YtndhjkammoeikaaGreatDoor
