/- For every input the law TopSprayUnits (over the chapters) returns true, and each argument reads afterwards as it read before: no condition; the listed tables are tied to the program text by the card. -/
import Derived.Test.YtdimmlljjmmdbaaDoorTie
import Derived.Test.YtdimmlljjmmdbaaDoorCards
import Derived.Test.YtdimmlljjmmdbaaDoorB3
import Derived.Test.YtdimmlljjmmdbaaDoorB5
set_option linter.all false
/- For every input the law TopSprayUnits (over the chapters) returns true, and its arguments read afterwards as they read before. -/
namespace Go.Proofs.YtdimmlljjmmdbaaDoor
open Go.ChangeShapes Go.WideShapes Go.ChangeAt Go.RowKit
set_option maxHeartbeats 1000000
theorem hspec4 {H : Type} (x1 x2 x3 : DataW H) : Rows.topSprayUnitsSpec.fn H ([x1, x2, x3] ++ []) = { results := [.lit (.bool true)], args := [x1, x2, x3] } := rfl

set_option maxRecDepth 100000 in
theorem lifted4 (os : Os) (started : os.Started) (H : Type) (enc : TypeId × Value → H) :
    ReturnsInHanded {} Tryd.checked os 4 .any (fun w args => (Rows.topSprayUnitsSpec.pre enc Tryd.prog Tryd.f4 [] false w args ∧ laidMetH Tryd.prog laidT w) ∧ sizedMet enc Tryd.prog Tryd.f4 (OpenSpec.ofChange Rows.topSprayUnitsSpec) false w args)
      (Rows.topSprayUnitsSpec.post enc Tryd.prog Tryd.f4 false true false false) := by
  refine handed_shaped (C := Tryd.checked) (X := fun w _ => laidMetH Tryd.prog laidT w) (fun _ _ _ hh h => h.of_heap hh) Tryd.own started (by kernel_rfl) Tryd.func4
    (ChangeSpec.witness_shaped (enc := enc) (C := Tryd.checked) (os := os) (X := fun w _ => laidMetH Tryd.prog laidT w) false (World.laidAll Tryd.prog os laidT) #[.agg #[.int .i64 0, .int .i64 0, .slice none 0 0], .agg #[.int .i64 0, .int .i64 0, .int .i64 0, .slice none 0 0], .slice none 0 0] 8 (World.laidAll_os _ _ _) (World.shaped_of_ZipB (by kernel_rfl) (by kernel_rfl)) (by kernel_rfl) (by kernel_rfl) (by kernel_rfl) (by rw [Go.MakeChecks.laidMetH_plain _ _ _ (by kernel_rfl)]; exact laidMet_laidAll _ (by kernel_rfl) (by kernel_rfl))) ?_
  intro W base args ds gs before hsh hval0 hW hlaid
  have hst := steps_of W hlaid
  have hval : ∀ (j : Nat) t v, Tryd.f4.params[j]? = some t → args[j]? = some v → Value.okWide Tryd.prog W .any base t v := hval0
  have hW' := hW
  obtain ⟨p, q, hA0, hV, rfl, hfz, hnd⟩ := hW
  have hA : DataW.TrodAll enc Tryd.prog W 0 (fun _ => true) true Tryd.f4.params.toList args.toList ds p := hA0
  rw [Tryd.params4] at hA hval
  obtain ⟨v1, v2, v3, y1, y2, y3, p1, p2, p3, rfl, rfl, rfl, h1, h2, h3⟩ := trodAll_three hA
  clear hA0 hval0
  obtain ⟨c, r, A, cap, l, rfl, hr⟩ := open_ground (hval 0 24 v1 rfl rfl) h1
  obtain ⟨un, len, most, P, capp, ps, rfl, hp⟩ := open_surv (hval 1 45 v2 rfl rfl) h2
  obtain ⟨D, capd, dl, rfl, hd, hdl⟩ := open_data (hval 2 36 v3 rfl rfl) h3
  refine (d4 c r A l.length cap l un len most P ps.length capp ps D dl.length capd dl W hdl hr hp hd hst).mono fun e W' ⟨he, hB⟩ => ?_
  subst he
  exact ⟨_, rfl, post_law (by kernel_rfl) (by kernel_rfl) (by kernel_rfl) (fun h => by subst h; exact hspec4 _ _ _) hW' hB⟩
theorem topSprayUnits_row : Rows.TopSprayUnitsSaid :=
  OpenClaim.holds_of_wide 4 Tryd.f4 rfl rfl rfl rfl rfl rfl rfl ⟨rfl, rfl, rfl, rfl, rfl⟩ rfl rfl rfl rfl rfl (by kernel_rfl) Tryd.func4 (by kernel_rfl)
    (of_decide_eq_true (by kernel_rfl)) (by unfold Func.isWrapper; rw [if_neg (of_decide_eq_false (by kernel_rfl))]; exact ⟨rfl, rfl⟩)
    (fun os started H enc _ => lifted4 os started H enc)
theorem topSprayUnits_holds : Rows.TopSprayUnitsCardSaid :=
  Claim7.holds_tied_plain_at .later [] [.data] true (true, "51ff9954a4f21e4d473c2146df82244144e2d26a09c21a3c4c2340738a13f023") false
    topSprayUnits_row (fun _ h => by cases h) (by kernel_rfl) (fun _ h => by cases h) topSprayUnits_row_tie rfl ⟨rfl, rfl⟩ (by kernel_rfl) rfl
    (fun f fn hf hfn => by
      obtain rfl : f = 4 := Option.some.inj ((show Tryd.prog.funcNamed Rows.topSprayUnitsRow.func = some 4 by kernel_rfl).symm.trans hf) |>.symm
      obtain rfl : fn = Tryd.f4 := (Option.some.inj (Tryd.func4.symm.trans hfn)).symm
      exact ⟨by kernel_rfl, fun j t ht => by
        rw [Tryd.params4] at ht
        have hm : t ∈ [24, 45, 36] := by simpa using Array.mem_of_getElem? ht
        have hall : ([24, 45, 36].all fun u => !Tryd.prog.wantsStandIn u) = true := by kernel_rfl
        exact (show Tryd.prog.wantsStandIn t = false by simpa using List.all_eq_true.1 hall t hm)⟩)
    (by kernel_rfl)
end Go.Proofs.YtdimmlljjmmdbaaDoor
