/- A part of the proofs about chapter 7 (image): contracts of functions and plain laws (Cl11). -/
import Derived.Test.YtdimmlljjmmdbaaGreatDoorTie
import Derived.Test.YtdimmlljjmmdbaaGreatDoorCards
import Derived.Test.YtdimmlljjmmdbaaGreatDoorO01
import Derived.Test.YtdimmlljjmmdbaaGreatDoorL11
import Derived.Test.YtdimmlljjmmdbaaGreatDoorO02
set_option linter.all false
/- For every input the law ImageTurned returns true, and its arguments read afterwards as they read before. -/
namespace Go.Proofs.YtdimmlljjmmdbaaGreatDoor
open Go.ChangeShapes Go.WideShapes Go.ChangeAt Go.RowKit
set_option maxHeartbeats 1000000
theorem hspec11 {H : Type} (x1 x2 : DataW H) : Rows.imageTurnedSpec.fn H ([x1, x2] ++ []) = { results := [.lit (.bool true)], args := [x1, x2] } := rfl

set_option maxRecDepth 100000 in
theorem lifted11 (os : Os) (started : os.Started) (H : Type) (enc : TypeId × Value → H) :
    ReturnsInHanded {} Tryz.checked os 11 .any (fun w args => (Rows.imageTurnedSpec.pre enc Tryz.prog Tryz.f11 [] false w args ∧ laidMetH Tryz.prog laidT w) ∧ sizedMet enc Tryz.prog Tryz.f11 (OpenSpec.ofChange Rows.imageTurnedSpec) false w args)
      (Rows.imageTurnedSpec.post enc Tryz.prog Tryz.f11 false true false false) := by
  refine handed_shaped (C := Tryz.checked) (X := fun w _ => laidMetH Tryz.prog laidT w) (fun _ _ _ hh h => h.of_heap hh) Tryz.own started (by kernel_rfl) Tryz.func11
    (ChangeSpec.witness_shaped (enc := enc) (C := Tryz.checked) (os := os) (X := fun w _ => laidMetH Tryz.prog laidT w) false (World.laidAll Tryz.prog os laidT) #[.agg #[.int .i64 0, .int .i64 0, .slice none 0 0], .bool false] 8 (World.laidAll_os _ _ _) (World.shaped_of_ZipB (by kernel_rfl) (by kernel_rfl)) (by kernel_rfl) (by kernel_rfl) (by kernel_rfl) (by rw [Go.MakeChecks.laidMetH_plain _ _ _ (by kernel_rfl)]; exact laidMet_laidAll _ (by kernel_rfl) (by kernel_rfl))) ?_
  intro W base args ds gs before hsh hval0 hW hlaid
  have hst := steps_of W hlaid
  have hval : ∀ (j : Nat) t v, Tryz.f11.params[j]? = some t → args[j]? = some v → Value.okWide Tryz.prog W .any base t v := hval0
  have hW' := hW
  obtain ⟨p, q, hA0, hV, rfl, hfz, hnd⟩ := hW
  have hA : DataW.TrodAll enc Tryz.prog W 0 (fun _ => true) true Tryz.f11.params.toList args.toList ds p := hA0
  rw [Tryz.params11] at hA hval
  obtain ⟨v1, v2, y1, y2, p1, p2, rfl, rfl, rfl, h1, h2⟩ := trodAll_two hA
  clear hA0 hval0
  obtain ⟨c, r, A, cap, l, rfl, hr⟩ := open_ground (hval 0 24 v1 rfl rfl) h1
  obtain ⟨rows, rfl⟩ := open_bool (hval 1 4 v2 rfl rfl)
  refine (l11 c r A l.length cap l rows W hr hst).mono fun e W' ⟨he, hB⟩ => ?_
  subst he
  exact ⟨_, rfl, post_law (by kernel_rfl) (by kernel_rfl) (by kernel_rfl) (fun h => by subst h; exact hspec11 _ _) hW' hB⟩
theorem imageTurned_row : Rows.ImageTurnedSaid :=
  OpenClaim.holds_of_wide 11 Tryz.f11 rfl rfl rfl rfl rfl rfl rfl ⟨rfl, rfl, rfl, rfl, rfl⟩ rfl rfl rfl rfl rfl (by as_aux_lemma => kernel_rfl) Tryz.func11 (by as_aux_lemma => kernel_rfl)
    (by as_aux_lemma => exact of_decide_eq_true (by kernel_rfl)) (by as_aux_lemma => (unfold Func.isWrapper; rw [if_neg (of_decide_eq_false (by kernel_rfl))]; exact ⟨rfl, rfl⟩))
    (fun os started H enc _ => lifted11 os started H enc)
theorem imageTurned_holds : Rows.ImageTurnedCardSaid :=
  Claim7.holds_tied_plain_at .later [] [.data, .data, .data, .data] true (true, "44b077007a873d30382693c9709a71980a7a4d8af60bb61de45130ea9a3bb8a3") false
    imageTurned_row (fun _ h => by cases h) (by kernel_rfl) (fun _ h => by cases h) imageTurned_row_tie rfl ⟨rfl, rfl⟩ (by kernel_rfl) rfl
    (fun f fn hf hfn => by
      obtain rfl : f = 11 := Option.some.inj ((show Tryz.prog.funcNamed Rows.imageTurnedRow.func = some 11 by kernel_rfl).symm.trans hf) |>.symm
      obtain rfl : fn = Tryz.f11 := (Option.some.inj (Tryz.func11.symm.trans hfn)).symm
      exact ⟨by kernel_rfl, fun j t ht => by
        rw [Tryz.params11] at ht
        have hm : t ∈ [24, 4] := by simpa using Array.mem_of_getElem? ht
        have hall : ([24, 4].all fun u => !Tryz.prog.wantsStandIn u) = true := by kernel_rfl
        exact (show Tryz.prog.wantsStandIn t = false by simpa using List.all_eq_true.1 hall t hm)⟩)
    (by kernel_rfl)
end Go.Proofs.YtdimmlljjmmdbaaGreatDoor
