/- For every input the law ImageAdjoint returns true, and its arguments read afterwards as they read before. -/
import Derived.Test.YtdimmlljjmmdbaaGreatDoorTie
import Derived.Test.YtdimmlljjmmdbaaGreatDoorCards
import Derived.Test.YtdimmlljjmmdbaaGreatDoorZ09b
import Derived.Test.YtdimmlljjmmdbaaGreatDoorZ09f
import Derived.Test.YtdimmlljjmmdbaaGreatDoorZ09l
set_option linter.all false
namespace Go.Proofs.YtdimmlljjmmdbaaGreatDoor
open Go.ChangeShapes Go.WideShapes Go.ChangeAt Go.RowKit
set_option maxHeartbeats 1000000
theorem hspec9 {H : Type} (x1 x2 x3 : DataW H) : Rows.imageAdjointSpec.fn H ([x1, x2, x3] ++ []) = { results := [.lit (.bool true)], args := [x1, x2, x3] } := rfl
set_option maxRecDepth 100000 in
theorem lifted9 (os : Os) (started : os.Started) (H : Type) (enc : TypeId × Value → H) :
  ReturnsInHanded {} Tryz.checked os 9 .any (fun w args => (Rows.imageAdjointSpec.pre enc Tryz.prog Tryz.f9 [] false w args ∧ laidMetH Tryz.prog laidT w) ∧ sizedMet enc Tryz.prog Tryz.f9 (OpenSpec.ofChange Rows.imageAdjointSpec) false w args)
   (Rows.imageAdjointSpec.post enc Tryz.prog Tryz.f9 false true false false) := by
 refine handed_shaped (C := Tryz.checked) (X := fun w _ => laidMetH Tryz.prog laidT w) (fun _ _ _ hh h => h.of_heap hh) Tryz.own started (by kernel_rfl) Tryz.func9
  (ChangeSpec.witness_shaped (enc := enc) (C := Tryz.checked) (os := os) (X := fun w _ => laidMetH Tryz.prog laidT w) false (World.laidAll Tryz.prog os laidT) #[.agg #[.int .i64 0, .int .i64 0, .slice none 0 0], .agg #[.int .i64 0, .int .i64 0, .int .i64 0, .slice none 0 0], .agg #[.slice none 0 0, .slice none 0 0, .slice none 0 0, .int .i64 0, .int .i64 0, .int .i64 0]] 8 (World.laidAll_os _ _ _) (World.shaped_of_ZipB (by kernel_rfl) (by kernel_rfl)) (by kernel_rfl) (by kernel_rfl) (by kernel_rfl) (by rw [Go.MakeChecks.laidMetH_plain _ _ _ (by kernel_rfl)]; exact laidMet_laidAll _ (by kernel_rfl) (by kernel_rfl))) ?_
 intro W base args ds gs before hsh hval0 hW hlaid
 have hst := steps_of W hlaid
 have hval : ∀ (j : Nat) t v, Tryz.f9.params[j]? = some t → args[j]? = some v → Value.okWide Tryz.prog W .any base t v := hval0
 have hW' := hW
 obtain ⟨p, q, hA0, hV, rfl, hfz, hnd⟩ := hW
 have hA : DataW.TrodAll enc Tryz.prog W 0 (fun _ => true) true Tryz.f9.params.toList args.toList ds p := hA0
 rw [Tryz.params9] at hA hval
 obtain ⟨v1, v2, v3, y1, y2, y3, p1, p2, p3, rfl, rfl, rfl, h1, h2, h3⟩ := trodAll_three hA
 clear hA0 hval0
 obtain ⟨c, r, A, cap, l, rfl, hr⟩ := open_ground (hval 0 24 v1 rfl rfl) h1
 obtain ⟨un, len, most, P, capp, ps, rfl, hp, hcp⟩ := open_survC (hval 1 27 v2 rfl rfl) h2
 obtain ⟨D, capd, dl, E, cape, el, M, capm, ml, s, f, k, rfl, hd, he, hm, hdl, hel, hcd⟩ := open_recC (hval 2 55 v3 rfl rfl) h3
 refine (l9 c r A l.length cap l un len most P ps.length capp ps D dl.length capd dl E el.length cape el M ml.length capm ml s f k W hdl hel hcp hcd hr hp hd he hm hst).mono fun e W' ⟨he, hB⟩ => ?_
 subst he
 exact ⟨_, rfl, post_law (by kernel_rfl) (by kernel_rfl) (by kernel_rfl) (fun h => by subst h; exact hspec9 _ _ _) hW' hB⟩
theorem imageAdjoint_row : Rows.ImageAdjointSaid :=
 OpenClaim.holds_of_wide 9 Tryz.f9 rfl rfl rfl rfl rfl rfl rfl ⟨rfl, rfl, rfl, rfl, rfl⟩ rfl rfl rfl rfl rfl (by as_aux_lemma => kernel_rfl) Tryz.func9 (by as_aux_lemma => kernel_rfl)
  (by as_aux_lemma => exact of_decide_eq_true (by kernel_rfl)) (by as_aux_lemma => (unfold Func.isWrapper; rw [if_neg (of_decide_eq_false (by kernel_rfl))]; exact ⟨rfl, rfl⟩))
  (fun os started H enc _ => lifted9 os started H enc)
theorem imageAdjoint_holds : Rows.ImageAdjointCardSaid :=
 Claim7.holds_tied_plain_at .later [] [.data, .data, .data, .data] true (true, "44b077007a873d30382693c9709a71980a7a4d8af60bb61de45130ea9a3bb8a3") false
  imageAdjoint_row (fun _ h => by cases h) (by kernel_rfl) (fun _ h => by cases h) imageAdjoint_row_tie rfl ⟨rfl, rfl⟩ (by kernel_rfl) rfl
  (fun f fn hf hfn => by
   obtain rfl : f = 9 := Option.some.inj ((show Tryz.prog.funcNamed Rows.imageAdjointRow.func = some 9 by kernel_rfl).symm.trans hf) |>.symm
   obtain rfl : fn = Tryz.f9 := (Option.some.inj (Tryz.func9.symm.trans hfn)).symm
   exact ⟨by kernel_rfl, fun j t ht => by
    rw [Tryz.params9] at ht
    have hm : t ∈ [24, 27, 55] := by simpa using Array.mem_of_getElem? ht
    have hall : ([24, 27, 55].all fun u => !Tryz.prog.wantsStandIn u) = true := by kernel_rfl
    exact (show Tryz.prog.wantsStandIn t = false by simpa using List.all_eq_true.1 hall t hm)⟩)
  (by kernel_rfl)
end Go.Proofs.YtdimmlljjmmdbaaGreatDoor
