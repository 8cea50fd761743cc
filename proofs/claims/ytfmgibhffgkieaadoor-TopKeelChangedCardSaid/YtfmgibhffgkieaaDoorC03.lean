/- For every input the law TopKeelChanged (over the chapters) returns true, and its arguments read afterwards as they read before. -/
import Derived.Test.YtfmgibhffgkieaaDoorTie
import Derived.Test.YtfmgibhffgkieaaDoorCards
import Derived.Test.YtfmgibhffgkieaaDoorZ03g
import Derived.Test.YtfmgibhffgkieaaDoorZ03h
import Derived.Test.YtfmgibhffgkieaaDoorZ03i
set_option linter.all false
namespace Go.Proofs.YtfmgibhffgkieaaDoor
open Go.ChangeShapes Go.WideShapes Go.ChangeAt Go.RowKit
set_option maxHeartbeats 1000000
theorem l3 (A : Option Addr) (n cap : Nat) (ts : List Int) (xs : Nat → Int) (e0 e1 d0 d1 n0 n1 : Int) (w : World) (HR : Rng w) (hl : n = ts.length) (H : RdS w 1 A n (ts.map (Value.int .u8))) (hts : ∀ x ∈ ts, 0 ≤ x ∧ x ≤ 255) (he0 : 0 ≤ e0 ∧ e0 ≤ 255) (he1 : 0 ≤ e1 ∧ e1 ≤ 255) (hn0 : 0 ≤ n0 ∧ n0 ≤ 255) (hn1 : 0 ≤ n1 ∧ n1 ≤ 255) :
  Calls Tryd.prog 3 #[.agg #[.slice A n cap, .int .u8 e0, .int .u8 e1, .int .i8 (xs 0), .int .i8 (xs 1), .int .i8 (xs 2), .int .i8 (xs 3), .int .i8 (xs 4), .int .i8 (xs 5), .int .i8 (xs 6), .int .i8 (xs 7), .int .i8 (xs 8), .int .i8 (xs 9), .int .i8 (xs 10), .int .i8 (xs 11), .int .i8 d0, .int .i8 d1], .agg #[.int .u8 n0, .int .u8 n1]] w fun en w' => en = .returned (.bool true) ∧ Below w.heap.size w w' := by
 by_cases h0 : n = 0
 ·exact l3_0 A n cap ts xs e0 e1 d0 d1 n0 n1 w HR h0
 ·by_cases h7 : 6 < n
  ·exact l3_7 A n cap ts xs e0 e1 d0 d1 n0 n1 w HR h7
  ·by_cases hg : 39 < tmF ts ((wrap64 n0).tmod (n : Int)).toNat + (wrap64 n1).tmod 20
   ·exact l3_neg A n cap ts xs e0 e1 d0 d1 n0 n1 w HR (by omega) H hts he0 he1 hn0 hn1 hg
   ·exact l3_pos A n cap ts xs e0 e1 d0 d1 n0 n1 w HR (by omega) H hts he0 he1 hn0 hn1 hg
theorem hspec3 {H : Type} (x1 x2 : DataW H) : Rows.topKeelChangedSpec.fn H ([x1, x2] ++ []) = { results := [.lit (.bool true)], args := [x1, x2] } := rfl
set_option maxRecDepth 100000 in
theorem lifted3 (os : Os) (started : os.Started) (H : Type) (enc : TypeId × Value → H) :
  ReturnsInHanded {} Tryd.checked os 3 .any (fun w args => (Rows.topKeelChangedSpec.pre enc Tryd.prog Tryd.f3 [] false w args ∧ laidMetH Tryd.prog laidT w) ∧ sizedMet enc Tryd.prog Tryd.f3 (OpenSpec.ofChange Rows.topKeelChangedSpec) false w args)
   (Rows.topKeelChangedSpec.post enc Tryd.prog Tryd.f3 false true false false) := by
 refine handed_shaped (C := Tryd.checked) (X := fun w _ => laidMetH Tryd.prog laidT w) (fun _ _ _ hh h => h.of_heap hh) Tryd.own started (by kernel_rfl) Tryd.func3
  (ChangeSpec.witness_shaped (enc := enc) (C := Tryd.checked) (os := os) (X := fun w _ => laidMetH Tryd.prog laidT w) false (World.laidAll Tryd.prog os laidT) #[.agg #[.slice none 0 0, .int .u8 0, .int .u8 0, .int .i8 0, .int .i8 0, .int .i8 0, .int .i8 0, .int .i8 0, .int .i8 0, .int .i8 0, .int .i8 0, .int .i8 0, .int .i8 0, .int .i8 0, .int .i8 0, .int .i8 0, .int .i8 0], .agg #[.int .u8 0, .int .u8 0]] 8 (World.laidAll_os _ _ _) (World.shaped_of_ZipB (by kernel_rfl) (by kernel_rfl)) (by kernel_rfl) (by kernel_rfl) (by kernel_rfl) (by rw [Go.MakeChecks.laidMetH_plain _ _ _ (by kernel_rfl)]; exact laidMet_laidAll _ (by kernel_rfl) (by kernel_rfl))) ?_
 intro W base args ds gs before hsh hval0 hW hlaid
 have hst := rng_of W hlaid
 have hval : ∀ (j : Nat) t v, Tryd.f3.params[j]? = some t → args[j]? = some v → Value.okWide Tryd.prog W .any base t v := hval0
 have hW' := hW
 obtain ⟨p, q, hA0, hV, rfl, hfz, hnd⟩ := hW
 have hA : DataW.TrodAll enc Tryd.prog W 0 (fun _ => true) true Tryd.f3.params.toList args.toList ds p := hA0
 rw [Tryd.params3] at hA hval
 obtain ⟨v1, v2, y1, y2, p1, p2, rfl, rfl, rfl, h1, h2⟩ := trodAll_two hA
 clear hA0 hval0
 obtain ⟨A, cap, ts, e0, e1, xs, d0, d1, rfl, hr, hts, he0, he1⟩ := open_G (hval 0 29 v1 rfl rfl) h1
 obtain ⟨n0, n1, rfl, hn0, hn1⟩ := open_two (hval 1 23 v2 rfl rfl) h2
 refine (l3 A ts.length cap ts xs e0 e1 d0 d1 n0 n1 W hst rfl hr hts he0 he1 hn0 hn1).mono fun e W' ⟨he, hB⟩ => ?_
 subst he
 exact ⟨_, rfl, post_law (by kernel_rfl) (by kernel_rfl) (by kernel_rfl) (fun h => by subst h; exact hspec3 _ _) hW' hB⟩
theorem topKeelChanged_row : Rows.TopKeelChangedSaid :=
 OpenClaim.holds_of_wide 3 Tryd.f3 rfl rfl rfl rfl rfl rfl rfl ⟨rfl, rfl, rfl, rfl, rfl⟩ rfl rfl rfl rfl rfl (by kernel_rfl) Tryd.func3 (by kernel_rfl)
  (of_decide_eq_true (by kernel_rfl)) (by unfold Func.isWrapper; rw [if_neg (of_decide_eq_false (by kernel_rfl))]; exact ⟨rfl, rfl⟩)
  (fun os started H enc _ => lifted3 os started H enc)
theorem topKeelChanged_holds : Rows.TopKeelChangedCardSaid :=
 Claim7.holds_tied_plain_at .later [] [.data] true (true, "4342d6487158f70b8202f466f20a42145fa7200a3e9538860864fcfd2d50c2d2") false
  topKeelChanged_row (fun _ h => by cases h) (by kernel_rfl) (fun _ h => by cases h) topKeelChanged_row_tie rfl ⟨rfl, rfl⟩ (by kernel_rfl) rfl
  (fun f fn hf hfn => by
   obtain rfl : f = 3 := Option.some.inj ((show Tryd.prog.funcNamed Rows.topKeelChangedRow.func = some 3 by kernel_rfl).symm.trans hf) |>.symm
   obtain rfl : fn = Tryd.f3 := (Option.some.inj (Tryd.func3.symm.trans hfn)).symm
   exact ⟨by kernel_rfl, fun j t ht => by
    rw [Tryd.params3] at ht
    have hm : t ∈ [29, 23] := by simpa using Array.mem_of_getElem? ht
    have hall : ([29, 23].all fun u => !Tryd.prog.wantsStandIn u) = true := by kernel_rfl
    exact (show Tryd.prog.wantsStandIn t = false by simpa using List.all_eq_true.1 hall t hm)⟩)
  (by kernel_rfl)
end Go.Proofs.YtfmgibhffgkieaaDoor
