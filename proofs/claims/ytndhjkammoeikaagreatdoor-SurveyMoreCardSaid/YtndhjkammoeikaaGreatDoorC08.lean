/- For every input the law SurveyMore of chapter 9 (survey) returns true, and each argument reads afterwards as it read before: no condition; the listed tables of the library are tied to the program's text by the card. -/
import Derived.Test.YtndhjkammoeikaaGreatDoorTie
import Derived.Test.YtndhjkammoeikaaGreatDoorCards
import Derived.Test.YtndhjkammoeikaaGreatDoorL01
import Derived.Test.YtndhjkammoeikaaGreatDoorL07
set_option linter.all false
/- For every input the law SurveyMore of chapter 9 (survey) returns true, and its arguments read afterwards as they read before. -/
namespace Go.Proofs.YtndhjkammoeikaaGreatDoor
open Go.ChangeShapes Go.WideShapes Go.ChangeAt Go.RowKit

theorem hspec8 {H : Type} (d1 d2 d3 : DataW H) : Rows.surveyMoreSpec.fn H ([d1, d2, d3] ++ []) = { results := [.lit (.bool true)], args := [d1, d2, d3] } := rfl

set_option maxRecDepth 100000 in
theorem lifted8 (os : Os) (started : os.Started) (H : Type) (enc : TypeId × Value → H) :
    ReturnsInHanded {} Tryz.checked os 8 .any (fun w args => (Rows.surveyMoreSpec.pre enc Tryz.prog Tryz.f8 [] false w args ∧ laidMetH Tryz.prog laid3 w) ∧ sizedMet enc Tryz.prog Tryz.f8 (OpenSpec.ofChange Rows.surveyMoreSpec) false w args)
      (Rows.surveyMoreSpec.post enc Tryz.prog Tryz.f8 false true false false) := by
  refine returnsInHanded_of_change_and (C := Tryz.checked) (X := fun w _ => laidMetH Tryz.prog laid3 w) (fun _ _ _ hh h => h.of_heap hh) Tryz.own started (by kernel_rfl) Tryz.func8
    (ChangeSpec.witness_shaped (enc := enc) (C := Tryz.checked) (os := os) (X := fun w _ => laidMetH Tryz.prog laid3 w) false (World.doorLaid Tryz.prog 400 os) #[.agg #[.int .i64 0, .int .i64 0, .int .i64 0, .int .i64 0, .int .i64 0], .agg #[.int .i64 0, .int .i64 0, .int .i64 0, .int .i64 0, .int .i64 0, .slice none 0 0], .agg #[.slice none 0 0, .slice none 0 0, .int .i64 0]] 8 rfl (door_shaped os _) (by kernel_rfl) (by kernel_rfl) (by kernel_rfl) (door3 os _)) ?_
  intro W base args ds gs before hval0 hW _ _ _ _
  have hval : ∀ (j : Nat) t v, Tryz.f8.params[j]? = some t → args[j]? = some v → Value.okWide Tryz.prog W .any base t v := hval0
  have hW' := hW
  obtain ⟨p, q, hA0, hV, rfl, hfz, hnd⟩ := hW
  have hA : DataW.TrodAll enc Tryz.prog W 0 (fun _ => true) true Tryz.f8.params.toList args.toList ds p := hA0
  rw [Tryz.params8] at hA hval
  obtain ⟨v1, v2, v3, d1, d2, d3, p1, p2, p3, rfl, rfl, rfl, h1, h2, h3⟩ := trodAll_three hA
  clear hA0 hval0
  obtain ⟨v, rfl⟩ := open_ves (hval 0 25 v1 rfl rfl) h1
  obtain ⟨u, A, cap, l, rfl, hr, hAz, hcap, _⟩ := open_seen (hval 1 60 v2 rfl rfl) h2
  obtain ⟨S, scap, sh, G, gcap, we, tk, rfl, ⟨hs, hs0, _⟩, hg, hg0, _⟩ := open_spans (hval 2 69 v3 rfl rfl) h3

  refine (l8 v u A cap l S scap sh G we.length gcap tk W hr hs hAz hs0 hcap).mono fun e W' ⟨he, hB⟩ => ?_
  subst he
  exact ⟨_, rfl, post_law (by kernel_rfl) (by kernel_rfl) (by kernel_rfl) (fun h => by subst h; exact hspec8 _ _ _) hW' hB⟩
theorem surveyMore_row : Rows.SurveyMoreSaid :=
  OpenClaim.holds_of_wide 8 Tryz.f8 rfl rfl rfl rfl rfl rfl rfl ⟨rfl, rfl, rfl, rfl, rfl⟩ rfl rfl rfl rfl rfl (by kernel_rfl) Tryz.func8 (by kernel_rfl)
    (of_decide_eq_true (by kernel_rfl)) (by unfold Func.isWrapper; rw [if_neg (of_decide_eq_false (by kernel_rfl))]; exact ⟨rfl, rfl⟩)
    (fun os started H enc _ => lifted8 os started H enc)
theorem surveyMore_holds : Rows.SurveyMoreCardSaid :=
  Claim7.holds_tied_plain_at .later [] [.data, .data, .data] true (true, "38876ad517132c138e5658753e4e18eb6717b8314190380fa3a6a6a4bde3f8f1") false
    surveyMore_row (fun _ h => by cases h) (by kernel_rfl) (fun _ h => by cases h) surveyMore_row_tie rfl ⟨rfl, rfl⟩ (by kernel_rfl) rfl
    (fun f fn hf hfn => by
      obtain rfl : f = 8 := Option.some.inj ((show Tryz.prog.funcNamed Rows.surveyMoreRow.func = some 8 by kernel_rfl).symm.trans hf) |>.symm
      obtain rfl : fn = Tryz.f8 := (Option.some.inj (Tryz.func8.symm.trans hfn)).symm
      exact ⟨by kernel_rfl, fun j t ht => by
        rw [Tryz.params8] at ht
        have hm : t ∈ [25, 60, 69] := by simpa using Array.mem_of_getElem? ht
        have hall : ([25, 60, 69].all fun u => !Tryz.prog.wantsStandIn u) = true := by kernel_rfl
        exact (show Tryz.prog.wantsStandIn t = false by simpa using List.all_eq_true.1 hall t hm)⟩)
    (by kernel_rfl)
end Go.Proofs.YtndhjkammoeikaaGreatDoor
