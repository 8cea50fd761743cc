/- A part of the proofs about chapter 7 (image): contracts of functions and plain laws (Cl3). -/
import Derived.Test.YtdimmlljjmmdbaaGreatDoorTie
import Derived.Test.YtdimmlljjmmdbaaGreatDoorCards
import Derived.Test.YtdimmlljjmmdbaaGreatDoorO01
import Derived.Test.YtdimmlljjmmdbaaGreatDoorO02
import Derived.Test.YtdimmlljjmmdbaaGreatDoorL03
set_option linter.all false
/- For every input the law ImageModels returns true, and its arguments read afterwards as they read before. -/
namespace Go.Proofs.YtdimmlljjmmdbaaGreatDoor
open Go.ChangeShapes Go.WideShapes Go.ChangeAt Go.RowKit
set_option maxHeartbeats 1000000
theorem hspec3 {H : Type} (x1 x2 x3 : DataW H) : Rows.imageModelsSpec.fn H ([x1, x2, x3] ++ []) = { results := [.lit (.bool true)], args := [x1, x2, x3] } := rfl

set_option maxRecDepth 100000 in
theorem lifted3 (os : Os) (started : os.Started) (H : Type) (enc : TypeId × Value → H) :
  ReturnsInHanded {} Tryz.checked os 3 .any (fun w args => (Rows.imageModelsSpec.pre enc Tryz.prog Tryz.f3 [] false w args ∧ laidMetH Tryz.prog laidT w) ∧ sizedMet enc Tryz.prog Tryz.f3 (OpenSpec.ofChange Rows.imageModelsSpec) false w args)
   (Rows.imageModelsSpec.post enc Tryz.prog Tryz.f3 false true false false) := by
 refine handed_shaped (C := Tryz.checked) (X := fun w _ => laidMetH Tryz.prog laidT w) (fun _ _ _ hh h => h.of_heap hh) Tryz.own started (by kernel_rfl) Tryz.func3
  (ChangeSpec.witness_shaped (enc := enc) (C := Tryz.checked) (os := os) (X := fun w _ => laidMetH Tryz.prog laidT w) false (World.laidAll Tryz.prog os laidT) #[.agg #[.int .i64 0, .int .i64 0, .slice none 0 0], .agg #[.int .i64 0, .int .i64 0, .int .i64 0, .slice none 0 0], .slice none 0 0] 8 (World.laidAll_os _ _ _) (World.shaped_of_ZipB (by kernel_rfl) (by kernel_rfl)) (by kernel_rfl) (by kernel_rfl) (by kernel_rfl) (by rw [Go.MakeChecks.laidMetH_plain _ _ _ (by kernel_rfl)]; exact laidMet_laidAll _ (by kernel_rfl) (by kernel_rfl))) ?_
 intro W base args ds gs before hsh hval0 hW hlaid
 have hst := steps_of W hlaid
 have hval : ∀ (j : Nat) t v, Tryz.f3.params[j]? = some t → args[j]? = some v → Value.okWide Tryz.prog W .any base t v := hval0
 have hW' := hW
 obtain ⟨p, q, hA0, hV, rfl, hfz, hnd⟩ := hW
 have hA : DataW.TrodAll enc Tryz.prog W 0 (fun _ => true) true Tryz.f3.params.toList args.toList ds p := hA0
 rw [Tryz.params3] at hA hval
 obtain ⟨v1, v2, v3, y1, y2, y3, p1, p2, p3, rfl, rfl, rfl, h1, h2, h3⟩ := trodAll_three hA
 clear hA0 hval0
 obtain ⟨c, r, A, cap, l, rfl, hr⟩ := open_ground (hval 0 24 v1 rfl rfl) h1
 obtain ⟨un, len, most, P, capp, ps, rfl, hp⟩ := open_surv (hval 1 27 v2 rfl rfl) h2
 obtain ⟨M, capm, ml, rfl, hm⟩ := open_ints (hval 2 22 v3 rfl rfl) h3
 refine (l3 c r A l.length cap l un len most P ps.length capp ps M ml.length capm ml W hr hp hm hst).mono fun e W' ⟨he, hB⟩ => ?_
 subst he
 exact ⟨_, rfl, post_law (by kernel_rfl) (by kernel_rfl) (by kernel_rfl) (fun h => by subst h; exact hspec3 _ _ _) hW' hB⟩
theorem imageModels_row : Rows.ImageModelsSaid :=
 OpenClaim.holds_of_wide 3 Tryz.f3 rfl rfl rfl rfl rfl rfl rfl ⟨rfl, rfl, rfl, rfl, rfl⟩ rfl rfl rfl rfl rfl (by as_aux_lemma => kernel_rfl) Tryz.func3 (by as_aux_lemma => kernel_rfl)
  (by as_aux_lemma => exact of_decide_eq_true (by kernel_rfl)) (by as_aux_lemma => (unfold Func.isWrapper; rw [if_neg (of_decide_eq_false (by kernel_rfl))]; exact ⟨rfl, rfl⟩))
  (fun os started H enc _ => lifted3 os started H enc)
theorem imageModels_holds : Rows.ImageModelsCardSaid :=
 Claim7.holds_tied_plain_at .later [] [.data, .data, .data, .data] true (true, "44b077007a873d30382693c9709a71980a7a4d8af60bb61de45130ea9a3bb8a3") false
  imageModels_row (fun _ h => by cases h) (by kernel_rfl) (fun _ h => by cases h) imageModels_row_tie rfl ⟨rfl, rfl⟩ (by kernel_rfl) rfl
  (fun f fn hf hfn => by
   obtain rfl : f = 3 := Option.some.inj ((show Tryz.prog.funcNamed Rows.imageModelsRow.func = some 3 by kernel_rfl).symm.trans hf) |>.symm
   obtain rfl : fn = Tryz.f3 := (Option.some.inj (Tryz.func3.symm.trans hfn)).symm
   exact ⟨by kernel_rfl, fun j t ht => by
    rw [Tryz.params3] at ht
    have hm : t ∈ [24, 27, 22] := by simpa using Array.mem_of_getElem? ht
    have hall : ([24, 27, 22].all fun u => !Tryz.prog.wantsStandIn u) = true := by kernel_rfl
    exact (show Tryz.prog.wantsStandIn t = false by simpa using List.all_eq_true.1 hall t hm)⟩)
  (by kernel_rfl)
end Go.Proofs.YtdimmlljjmmdbaaGreatDoor
