/- A part of the proofs about chapter 7 (image): contracts of functions and plain laws (V49, V50, PlanL, V51, V52, V54, V55, V67, V66b). -/
import Derived.Test.YtdimmlljjmmdbaaGreatDoorZ09a
import Derived.Test.YtdimmlljjmmdbaaGreatDoorZ09b
import Derived.Test.YtdimmlljjmmdbaaGreatDoorZ09f
import Derived.Test.YtdimmlljjmmdbaaGreatDoorZ09h
import Derived.Test.YtdimmlljjmmdbaaGreatDoorZ09i
set_option linter.all false
namespace Go.Proofs.YtdimmlljjmmdbaaGreatDoor
open Go.RowKit
set_option maxHeartbeats 16000000
set_option maxRecDepth 20000
def PrintS : Prop := ∀ (g : Nat) (W : World), RdI W (some ⟨g, 0, none⟩) 4 [1, 2, 3, 4] → Calls Tryz.prog 81 #[.agg #[.int .i64 2, .int .i64 2, .slice (some ⟨g, 0, none⟩) 4 4]] W fun en w' => en = .returned (.tuple #[.string { data := #[103, 114, 111, 117, 110, 100, 32, 50, 32, 50, 10, 114, 111, 119, 32, 49, 32, 50, 10, 114, 111, 119, 32, 51, 32, 52, 10] }, .int .i64 0]) ∧ Below W.heap.size W w'
theorem eqR (w : World) : (Op.equalIn 10000 61 (.agg #[.int .i64 7, .int .i64 1]) (.agg #[.int .i64 7, .int .i64 1])).run Tryz.prog w = .ok true w := by kernel_rfl
theorem eqYp (w : World) : (Op.equalIn 10000 84 (.agg #[.complex .f32 1065353216 0, .complex .f32 0 3212836864, .complex .f32 3212836864 2147483648, .complex .f32 2147483648 1065353216]) (.agg #[.complex .f32 1065353216 0, .complex .f32 0 3212836864, .complex .f32 3212836864 0, .complex .f32 0 1065353216])).run Tryz.prog w = .ok true w := by kernel_rfl
theorem eqZp (w : World) : (Op.equalIn 10000 84 (.agg #[.complex .f32 1065353216 0, .complex .f32 2147483648 1065353216, .complex .f32 3212836864 2147483648, .complex .f32 0 3212836864]) (.agg #[.complex .f32 1065353216 0, .complex .f32 0 1065353216, .complex .f32 3212836864 0, .complex .f32 0 3212836864])).run Tryz.prog w = .ok true w := by kernel_rfl
theorem rdD_one {w : World} {g b : Nat} {l : List Int} {n : Nat} (hg : g = w.heap.size) (h : RdI w (some ⟨b, 0, none⟩) n l) (hn : l.length = n) : RdD (w.alloc (Obj.cells #[.slice (some ⟨b, 0, none⟩) n n] 22)) (some ⟨g, 0, none⟩) 1 [l] := by
 subst hn
 refine ⟨[.slice (some ⟨b, 0, none⟩) l.length l.length], RdS.of_new (cs := [.slice (some ⟨b, 0, none⟩) l.length l.length]) hg rfl, rfl, fun k x hx => ?_⟩
 match k, hx with
 | 0, hx =>
  obtain rfl : l = x := by simpa using hx
  exact ⟨_, _, rfl, h.below ((Below.refl _ _).alloc (Nat.le_refl _) _)⟩
 | k + 1, hx => simp at hx
theorem c18_of (hpr : PrintS) (w : World) (hst : Steps w) :
  Calls Tryz.prog 18 #[] w fun en w' => en = .returned (.bool true) ∧ Below w.heap.size w w' := by
 go_enter Tryz.func18, Tryz.ntmps18
 obtain ⟨w0, hw0⟩ : ∃ W, W = w := ⟨_, rfl⟩
 subst hw0
 have hB0 : Below w0.heap.size w0 w0 := Below.refl _ _
 go_wp2_with fail
 refine (c86 _).mono ?_
 rintro e w1 ⟨g1, rfl, hg1, hb⟩
 have hS := hb
 have hB1 := hB0.call hS rfl
 replace hst := hst.below hS
 clear hS hB0
 clear hb
 go_wp2_with fail
 refine (aT0 g1 _ hg1 hst).mono ?_
 rintro e w2 ⟨A1, c1, rfl, hA, hb⟩
 have hS := hb
 have hB2 := hB1.call hS rfl
 replace hst := hst.below hS
 replace hg1 := hg1.below hS
 clear hS hB1
 clear hb
 clear hg1
 go_wp2_with fail
 refine (c86 _).mono ?_
 rintro e w3 ⟨g2, rfl, hg2, hb⟩
 have hS := hb
 have hB3 := hB2.call hS rfl
 replace hst := hst.below hS
 replace hA := hA.below hS
 clear hS hB2
 clear hb
 go_wp2_with fail
 refine (aT1 g2 _ hg2 hst).mono ?_
 rintro e w4 ⟨A2, c2, rfl, hBt, hb⟩
 have hS := hb
 have hB4 := hB3.call hS rfl
 replace hst := hst.below hS
 replace hA := hA.below hS
 replace hg2 := hg2.below hS
 clear hS hB3
 clear hb
 clear hg2
 go_wp2_with fail
 refine (c86 _).mono ?_
 rintro e w5 ⟨g3, rfl, hg3, hb⟩
 have hS := hb
 have hB5 := hB4.call hS rfl
 replace hst := hst.below hS
 replace hA := hA.below hS
 replace hBt := hBt.below hS
 clear hS hB4
 clear hb
 go_wp2_with fail
 refine (aP0 g3 _ hg3 hst).mono ?_
 rintro e w6 ⟨A3, c3, rfl, hWy, hb⟩
 have hS := hb
 have hB6 := hB5.call hS rfl
 replace hst := hst.below hS
 replace hA := hA.below hS
 replace hBt := hBt.below hS
 replace hg3 := hg3.below hS
 clear hS hB5
 clear hb
 clear hg3
 go_wp2_with fail
 refine (c86 _).mono ?_
 rintro e w7 ⟨g4, rfl, hg4, hb⟩
 have hS := hb
 have hB7 := hB6.call hS rfl
 replace hst := hst.below hS
 replace hA := hA.below hS
 replace hBt := hBt.below hS
 replace hWy := hWy.below hS
 clear hS hB6
 clear hb
 go_wp2_with fail
 refine (aP1 g4 _ hg4 hst).mono ?_
 rintro e w8 ⟨A4, c4, rfl, hXy, hb⟩
 have hS := hb
 have hB8 := hB7.call hS rfl
 replace hst := hst.below hS
 replace hA := hA.below hS
 replace hBt := hBt.below hS
 replace hWy := hWy.below hS
 replace hg4 := hg4.below hS
 clear hS hB7
 clear hb
 clear hg4
 go_wp2_with fail
 refine (c86 _).mono ?_
 rintro e w9 ⟨g5, rfl, hg5, hb⟩
 have hS := hb
 have hB9 := hB8.call hS rfl
 replace hst := hst.below hS
 replace hA := hA.below hS
 replace hBt := hBt.below hS
 replace hWy := hWy.below hS
 replace hXy := hXy.below hS
 clear hS hB8
 clear hb
 go_wp2_with fail
 obtain ⟨w10, hwn⟩ : ∃ V, V = w9.alloc (Obj.cells #[.int .i64 0, .int .i64 6, .int .i64 8, .int .i64 15] 3) := ⟨_, rfl⟩
 have hbn : Below w9.heap.size w9 w10 := by rw [hwn]; exact (Below.refl _ _).alloc (Nat.le_refl _) _
 obtain ⟨b6, hbq⟩ : ∃ b, b = w9.heap.size := ⟨_, rfl⟩
 have hb6 : RdI w10 (some ⟨b6, 0, none⟩) 4 [0, 6, 8, 15] := by rw [hwn]; exact RdS.of_new (cs := encI [0, 6, 8, 15]) hbq rfl
 have hszb6 : w10.heap.size = b6 + 1 := by rw [hwn, hbq]; simp
 rw [← hbq, ← hwn]
 clear hwn hbq
 have kz := hszb6
 clear hszb6
 have hS := hbn
 have hB10 := hB9.call hS rfl
 replace hst := hst.below hS
 replace hA := hA.below hS
 replace hBt := hBt.below hS
 replace hWy := hWy.below hS
 replace hXy := hXy.below hS
 replace hg5 := hg5.below hS
 clear hS hB9
 have hszb6 := kz
 clear hbn kz
 go_wp2_with fail
 refine (aQA g5 _ _ hg5 hst hb6).mono ?_
 rintro e w11 ⟨rfl, hb⟩
 have hS := hb
 have hB11 := hB10.call hS rfl
 replace hst := hst.below hS
 replace hA := hA.below hS
 replace hBt := hBt.below hS
 replace hWy := hWy.below hS
 replace hXy := hXy.below hS
 replace hg5 := hg5.below hS
 replace hb6 := hb6.below hS
 clear hS hB10
 clear hb
 clear hg5
 clear hb6
 go_wp2_with fail
 refine (c86 _).mono ?_
 rintro e w12 ⟨g7, rfl, hg7, hb⟩
 have hS := hb
 have hB12 := hB11.call hS rfl
 replace hst := hst.below hS
 replace hA := hA.below hS
 replace hBt := hBt.below hS
 replace hWy := hWy.below hS
 replace hXy := hXy.below hS
 clear hS hB11
 clear hb
 go_wp2_with fail
 obtain ⟨w13, hwn⟩ : ∃ V, V = w12.alloc (Obj.cells #[.int .i64 0, .int .i64 6, .int .i64 8, .int .i64 16] 3) := ⟨_, rfl⟩
 have hbn : Below w12.heap.size w12 w13 := by rw [hwn]; exact (Below.refl _ _).alloc (Nat.le_refl _) _
 obtain ⟨b8, hbq⟩ : ∃ b, b = w12.heap.size := ⟨_, rfl⟩
 have hb8 : RdI w13 (some ⟨b8, 0, none⟩) 4 [0, 6, 8, 16] := by rw [hwn]; exact RdS.of_new (cs := encI [0, 6, 8, 16]) hbq rfl
 have hszb8 : w13.heap.size = b8 + 1 := by rw [hwn, hbq]; simp
 rw [← hbq, ← hwn]
 clear hwn hbq
 have kz := hszb8
 clear hszb8
 have hS := hbn
 have hB13 := hB12.call hS rfl
 replace hst := hst.below hS
 replace hA := hA.below hS
 replace hBt := hBt.below hS
 replace hWy := hWy.below hS
 replace hXy := hXy.below hS
 replace hg7 := hg7.below hS
 clear hS hB12
 have hszb8 := kz
 clear hbn kz
 go_wp2_with fail
 refine (aQB g7 _ _ hg7 hst hb8).mono ?_
 rintro e w14 ⟨rfl, hb⟩
 have hS := hb
 have hB14 := hB13.call hS rfl
 replace hst := hst.below hS
 replace hA := hA.below hS
 replace hBt := hBt.below hS
 replace hWy := hWy.below hS
 replace hXy := hXy.below hS
 replace hg7 := hg7.below hS
 replace hb8 := hb8.below hS
 clear hS hB13
 clear hb
 clear hg7
 clear hb8
 go_wp2_with fail
 refine (c86 _).mono ?_
 rintro e w15 ⟨g9, rfl, hg9, hb⟩
 have hS := hb
 have hB15 := hB14.call hS rfl
 replace hst := hst.below hS
 replace hA := hA.below hS
 replace hBt := hBt.below hS
 replace hWy := hWy.below hS
 replace hXy := hXy.below hS
 clear hS hB14
 clear hb
 go_wp2_with fail
 refine (c87 3 _).mono ?_
 rintro e w16 ⟨p10, rfl, hp10, hb⟩
 have hS := hb
 have hB16 := hB15.call hS rfl
 replace hst := hst.below hS
 replace hA := hA.below hS
 replace hBt := hBt.below hS
 replace hWy := hWy.below hS
 replace hXy := hXy.below hS
 replace hg9 := hg9.below hS
 clear hS hB15
 clear hb
 go_wp2_with fail
 refine (aD3 g9 p10 _ hg9 hp10 hst).mono ?_
 rintro e w17 ⟨A5, cA5, rfl, hD3, hb⟩
 have hS := hb
 have hB17 := hB16.call hS rfl
 replace hst := hst.below hS
 replace hA := hA.below hS
 replace hBt := hBt.below hS
 replace hWy := hWy.below hS
 replace hXy := hXy.below hS
 replace hg9 := hg9.below hS
 replace hp10 := hp10.below hS
 clear hS hB16
 clear hb
 clear hg9
 clear hp10
 go_wp2_with fail
 refine (c86 _).mono ?_
 rintro e w18 ⟨g11, rfl, hg11, hb⟩
 have hS := hb
 have hB18 := hB17.call hS rfl
 replace hst := hst.below hS
 replace hA := hA.below hS
 replace hBt := hBt.below hS
 replace hWy := hWy.below hS
 replace hXy := hXy.below hS
 replace hD3 := hD3.below hS
 clear hS hB17
 clear hb
 go_wp2_with fail
 refine (c87 4 _).mono ?_
 rintro e w19 ⟨p12, rfl, hp12, hb⟩
 have hS := hb
 have hB19 := hB18.call hS rfl
 replace hst := hst.below hS
 replace hA := hA.below hS
 replace hBt := hBt.below hS
 replace hWy := hWy.below hS
 replace hXy := hXy.below hS
 replace hD3 := hD3.below hS
 replace hg11 := hg11.below hS
 clear hS hB18
 clear hb
 go_wp2_with fail
 refine (aD4 g11 p12 _ hg11 hp12 hst).mono ?_
 rintro e w20 ⟨A6, cA6, rfl, hD4, hb⟩
 have hS := hb
 have hB20 := hB19.call hS rfl
 replace hst := hst.below hS
 replace hA := hA.below hS
 replace hBt := hBt.below hS
 replace hWy := hWy.below hS
 replace hXy := hXy.below hS
 replace hD3 := hD3.below hS
 replace hg11 := hg11.below hS
 replace hp12 := hp12.below hS
 clear hS hB19
 clear hb
 clear hg11
 clear hp12
 go_wp2_with fail
 refine (c86 _).mono ?_
 rintro e w21 ⟨g13, rfl, hg13, hb⟩
 have hS := hb
 have hB21 := hB20.call hS rfl
 replace hst := hst.below hS
 replace hA := hA.below hS
 replace hBt := hBt.below hS
 replace hWy := hWy.below hS
 replace hXy := hXy.below hS
 replace hD3 := hD3.below hS
 replace hD4 := hD4.below hS
 clear hS hB20
 clear hb
 go_wp2_with fail
 refine (c87 2 _).mono ?_
 rintro e w22 ⟨p14, rfl, hp14, hb⟩
 have hS := hb
 have hB22 := hB21.call hS rfl
 replace hst := hst.below hS
 replace hA := hA.below hS
 replace hBt := hBt.below hS
 replace hWy := hWy.below hS
 replace hXy := hXy.below hS
 replace hD3 := hD3.below hS
 replace hD4 := hD4.below hS
 replace hg13 := hg13.below hS
 clear hS hB21
 clear hb
 go_wp2_with fail
 refine (aD2 g13 p14 _ hg13 hp14 hst).mono ?_
 rintro e w23 ⟨A7, cA7, rfl, hD2, hb⟩
 have hS := hb
 have hB23 := hB22.call hS rfl
 replace hst := hst.below hS
 replace hA := hA.below hS
 replace hBt := hBt.below hS
 replace hWy := hWy.below hS
 replace hXy := hXy.below hS
 replace hD3 := hD3.below hS
 replace hD4 := hD4.below hS
 replace hg13 := hg13.below hS
 replace hp14 := hp14.below hS
 clear hS hB22
 clear hb
 clear hg13
 clear hp14
 go_wp2_with fail
 obtain ⟨w24, hwn⟩ : ∃ V, V = w23.alloc (Obj.cells #[.int .i64 0, .int .i64 6, .int .i64 8, .int .i64 15] 3) := ⟨_, rfl⟩
 have hbn : Below w23.heap.size w23 w24 := by rw [hwn]; exact (Below.refl _ _).alloc (Nat.le_refl _) _
 obtain ⟨b15, hbq⟩ : ∃ b, b = w23.heap.size := ⟨_, rfl⟩
 have hb15 : RdI w24 (some ⟨b15, 0, none⟩) 4 [0, 6, 8, 15] := by rw [hwn]; exact RdS.of_new (cs := encI [0, 6, 8, 15]) hbq rfl
 have hszb15 : w24.heap.size = b15 + 1 := by rw [hwn, hbq]; simp
 rw [← hbq, ← hwn]
 clear hwn hbq
 have kz := hszb15
 clear hszb15
 have hS := hbn
 have hB24 := hB23.call hS rfl
 replace hst := hst.below hS
 replace hA := hA.below hS
 replace hBt := hBt.below hS
 replace hWy := hWy.below hS
 replace hXy := hXy.below hS
 replace hD3 := hD3.below hS
 replace hD4 := hD4.below hS
 replace hD2 := hD2.below hS
 clear hS hB23
 have hszb15 := kz
 clear hbn kz
 go_wp2_with fail
 refine (c30 A1 (some ⟨b15, 0, none⟩) 4 4 c1 4 [0, 6, 8, 15] [0, 6, 8, 15] _ (by decide) (by decide) hA hb15).mono ?_
 rintro e w25 ⟨rfl, hb⟩
 have hS := hb
 have hB25 := hB24.call hS rfl
 replace hst := hst.below hS
 replace hA := hA.below hS
 replace hBt := hBt.below hS
 replace hWy := hWy.below hS
 replace hXy := hXy.below hS
 replace hD3 := hD3.below hS
 replace hD4 := hD4.below hS
 replace hD2 := hD2.below hS
 replace hb15 := hb15.below hS
 clear hS hB24
 clear hb
 have hdd : decide (([0, 6, 8, 15] : List Int) = [0, 6, 8, 15]) = true := by decide
 rw [hdd]
 clear hdd
 clear hA
 clear hb15
 go_wp2_with fail
 obtain ⟨w26, hwn⟩ : ∃ V, V = w25.alloc (Obj.cells #[.int .i64 6, .int .i64 0, .int .i64 14, .int .i64 12] 3) := ⟨_, rfl⟩
 have hbn : Below w25.heap.size w25 w26 := by rw [hwn]; exact (Below.refl _ _).alloc (Nat.le_refl _) _
 obtain ⟨b16, hbq⟩ : ∃ b, b = w25.heap.size := ⟨_, rfl⟩
 have hb16 : RdI w26 (some ⟨b16, 0, none⟩) 4 [6, 0, 14, 12] := by rw [hwn]; exact RdS.of_new (cs := encI [6, 0, 14, 12]) hbq rfl
 have hszb16 : w26.heap.size = b16 + 1 := by rw [hwn, hbq]; simp
 rw [← hbq, ← hwn]
 clear hwn hbq
 have kz := hszb16
 clear hszb16
 have hS := hbn
 have hB26 := hB25.call hS rfl
 replace hst := hst.below hS
 replace hBt := hBt.below hS
 replace hWy := hWy.below hS
 replace hXy := hXy.below hS
 replace hD3 := hD3.below hS
 replace hD4 := hD4.below hS
 replace hD2 := hD2.below hS
 clear hS hB25
 have hszb16 := kz
 clear hbn kz
 go_wp2_with fail
 refine (c30 A2 (some ⟨b16, 0, none⟩) 4 4 c2 4 [6, 0, 14, 12] [6, 0, 14, 12] _ (by decide) (by decide) hBt hb16).mono ?_
 rintro e w27 ⟨rfl, hb⟩
 have hS := hb
 have hB27 := hB26.call hS rfl
 replace hst := hst.below hS
 replace hBt := hBt.below hS
 replace hWy := hWy.below hS
 replace hXy := hXy.below hS
 replace hD3 := hD3.below hS
 replace hD4 := hD4.below hS
 replace hD2 := hD2.below hS
 replace hb16 := hb16.below hS
 clear hS hB26
 clear hb
 have hdd : decide (([6, 0, 14, 12] : List Int) = [6, 0, 14, 12]) = true := by decide
 rw [hdd]
 clear hdd
 clear hBt
 clear hb16
 go_wp2_with fail
 obtain ⟨w28, hwn⟩ : ∃ V, V = w27.alloc (Obj.cells #[.int .i64 0, .int .i64 3] 3) := ⟨_, rfl⟩
 have hbn : Below w27.heap.size w27 w28 := by rw [hwn]; exact (Below.refl _ _).alloc (Nat.le_refl _) _
 obtain ⟨b17, hbq⟩ : ∃ b, b = w27.heap.size := ⟨_, rfl⟩
 have hb17 : RdI w28 (some ⟨b17, 0, none⟩) 2 [0, 3] := by rw [hwn]; exact RdS.of_new (cs := encI [0, 3]) hbq rfl
 have hszb17 : w28.heap.size = b17 + 1 := by rw [hwn, hbq]; simp
 rw [← hbq, ← hwn]
 clear hwn hbq
 have kz := hszb17
 clear hszb17
 have hS := hbn
 have hB28 := hB27.call hS rfl
 replace hst := hst.below hS
 replace hWy := hWy.below hS
 replace hXy := hXy.below hS
 replace hD3 := hD3.below hS
 replace hD4 := hD4.below hS
 replace hD2 := hD2.below hS
 clear hS hB27
 have hszb17 := kz
 clear hbn kz
 go_wp2_with fail
 refine (c30 A3 (some ⟨b17, 0, none⟩) 2 2 c3 2 [0, 3] [0, 3] _ (by decide) (by decide) hWy hb17).mono ?_
 rintro e w29 ⟨rfl, hb⟩
 have hS := hb
 have hB29 := hB28.call hS rfl
 replace hst := hst.below hS
 replace hWy := hWy.below hS
 replace hXy := hXy.below hS
 replace hD3 := hD3.below hS
 replace hD4 := hD4.below hS
 replace hD2 := hD2.below hS
 replace hb17 := hb17.below hS
 clear hS hB28
 clear hb
 have hdd : decide (([0, 3] : List Int) = [0, 3]) = true := by decide
 rw [hdd]
 clear hdd
 clear hWy
 clear hb17
 go_wp2_with fail
 obtain ⟨w30, hwn⟩ : ∃ V, V = w29.alloc (Obj.cells #[.int .i64 1, .int .i64 0, .int .i64 2] 3) := ⟨_, rfl⟩
 have hbn : Below w29.heap.size w29 w30 := by rw [hwn]; exact (Below.refl _ _).alloc (Nat.le_refl _) _
 obtain ⟨b18, hbq⟩ : ∃ b, b = w29.heap.size := ⟨_, rfl⟩
 have hb18 : RdI w30 (some ⟨b18, 0, none⟩) 3 [1, 0, 2] := by rw [hwn]; exact RdS.of_new (cs := encI [1, 0, 2]) hbq rfl
 have hszb18 : w30.heap.size = b18 + 1 := by rw [hwn, hbq]; simp
 rw [← hbq, ← hwn]
 clear hwn hbq
 have kz := hszb18
 clear hszb18
 have hS := hbn
 have hB30 := hB29.call hS rfl
 replace hst := hst.below hS
 replace hXy := hXy.below hS
 replace hD3 := hD3.below hS
 replace hD4 := hD4.below hS
 replace hD2 := hD2.below hS
 clear hS hB29
 have hszb18 := kz
 clear hbn kz
 go_wp2_with fail
 refine (c30 A4 (some ⟨b18, 0, none⟩) 3 3 c4 3 [1, 0, 2] [1, 0, 2] _ (by decide) (by decide) hXy hb18).mono ?_
 rintro e w31 ⟨rfl, hb⟩
 have hS := hb
 have hB31 := hB30.call hS rfl
 replace hst := hst.below hS
 replace hXy := hXy.below hS
 replace hD3 := hD3.below hS
 replace hD4 := hD4.below hS
 replace hD2 := hD2.below hS
 replace hb18 := hb18.below hS
 clear hS hB30
 clear hb
 have hdd : decide (([1, 0, 2] : List Int) = [1, 0, 2]) = true := by decide
 rw [hdd]
 clear hdd
 clear hXy
 clear hb18
 go_wp2_with fail
 obtain ⟨w32, hwn⟩ : ∃ V, V = w31.alloc (Obj.cells #[.int .i64 1, .int .i64 (-1), .int .i64 4, .int .i64 (-1)] 3) := ⟨_, rfl⟩
 have hbn : Below w31.heap.size w31 w32 := by rw [hwn]; exact (Below.refl _ _).alloc (Nat.le_refl _) _
 obtain ⟨b19, hbq⟩ : ∃ b, b = w31.heap.size := ⟨_, rfl⟩
 have hb19 : RdI w32 (some ⟨b19, 0, none⟩) 4 [1, -1, 4, -1] := by rw [hwn]; exact RdS.of_new (cs := encI [1, -1, 4, -1]) hbq rfl
 have hszb19 : w32.heap.size = b19 + 1 := by rw [hwn, hbq]; simp
 rw [← hbq, ← hwn]
 clear hwn hbq
 have kz := hszb19
 clear hszb19
 have hS := hbn
 have hB32 := hB31.call hS rfl
 replace hst := hst.below hS
 replace hD3 := hD3.below hS
 replace hD4 := hD4.below hS
 replace hD2 := hD2.below hS
 clear hS hB31
 have hszb19 := kz
 clear hbn kz
 go_wp2_with fail
 refine (c30 A5 (some ⟨b19, 0, none⟩) 4 4 cA5 4 [1, -1, 4, -1] [1, -1, 4, -1] _ (by decide) (by decide) hD3 hb19).mono ?_
 rintro e w33 ⟨rfl, hb⟩
 have hS := hb
 have hB33 := hB32.call hS rfl
 replace hst := hst.below hS
 replace hD3 := hD3.below hS
 replace hD4 := hD4.below hS
 replace hD2 := hD2.below hS
 replace hb19 := hb19.below hS
 clear hS hB32
 clear hb
 have hdd : decide (([1, -1, 4, -1] : List Int) = [1, -1, 4, -1]) = true := by decide
 rw [hdd]
 clear hdd
 clear hD3
 clear hb19
 go_wp2_with fail
 obtain ⟨w34, hwn⟩ : ∃ V, V = w33.alloc (Obj.cells #[.int .i64 1, .int .i64 1, .int .i64 4, .int .i64 5] 3) := ⟨_, rfl⟩
 have hbn : Below w33.heap.size w33 w34 := by rw [hwn]; exact (Below.refl _ _).alloc (Nat.le_refl _) _
 obtain ⟨b20, hbq⟩ : ∃ b, b = w33.heap.size := ⟨_, rfl⟩
 have hb20 : RdI w34 (some ⟨b20, 0, none⟩) 4 [1, 1, 4, 5] := by rw [hwn]; exact RdS.of_new (cs := encI [1, 1, 4, 5]) hbq rfl
 have hszb20 : w34.heap.size = b20 + 1 := by rw [hwn, hbq]; simp
 rw [← hbq, ← hwn]
 clear hwn hbq
 have kz := hszb20
 clear hszb20
 have hS := hbn
 have hB34 := hB33.call hS rfl
 replace hst := hst.below hS
 replace hD4 := hD4.below hS
 replace hD2 := hD2.below hS
 clear hS hB33
 have hszb20 := kz
 clear hbn kz
 go_wp2_with fail
 refine (c30 A6 (some ⟨b20, 0, none⟩) 4 4 cA6 4 [1, 1, 4, 5] [1, 1, 4, 5] _ (by decide) (by decide) hD4 hb20).mono ?_
 rintro e w35 ⟨rfl, hb⟩
 have hS := hb
 have hB35 := hB34.call hS rfl
 replace hst := hst.below hS
 replace hD4 := hD4.below hS
 replace hD2 := hD2.below hS
 replace hb20 := hb20.below hS
 clear hS hB34
 clear hb
 have hdd : decide (([1, 1, 4, 5] : List Int) = [1, 1, 4, 5]) = true := by decide
 rw [hdd]
 clear hdd
 clear hD4
 clear hb20
 go_wp2_with fail
 obtain ⟨w36, hwn⟩ : ∃ V, V = w35.alloc (Obj.cells #[.int .i64 (-1), .int .i64 (-1), .int .i64 (-1), .int .i64 (-1)] 3) := ⟨_, rfl⟩
 have hbn : Below w35.heap.size w35 w36 := by rw [hwn]; exact (Below.refl _ _).alloc (Nat.le_refl _) _
 obtain ⟨b21, hbq⟩ : ∃ b, b = w35.heap.size := ⟨_, rfl⟩
 have hb21 : RdI w36 (some ⟨b21, 0, none⟩) 4 [-1, -1, -1, -1] := by rw [hwn]; exact RdS.of_new (cs := encI [-1, -1, -1, -1]) hbq rfl
 have hszb21 : w36.heap.size = b21 + 1 := by rw [hwn, hbq]; simp
 rw [← hbq, ← hwn]
 clear hwn hbq
 have kz := hszb21
 clear hszb21
 have hS := hbn
 have hB36 := hB35.call hS rfl
 replace hst := hst.below hS
 replace hD2 := hD2.below hS
 clear hS hB35
 have hszb21 := kz
 clear hbn kz
 go_wp2_with fail
 refine (c30 A7 (some ⟨b21, 0, none⟩) 4 4 cA7 4 [-1, -1, -1, -1] [-1, -1, -1, -1] _ (by decide) (by decide) hD2 hb21).mono ?_
 rintro e w37 ⟨rfl, hb⟩
 have hS := hb
 have hB37 := hB36.call hS rfl
 replace hst := hst.below hS
 replace hD2 := hD2.below hS
 replace hb21 := hb21.below hS
 clear hS hB36
 clear hb
 have hdd : decide (([-1, -1, -1, -1] : List Int) = [-1, -1, -1, -1]) = true := by decide
 rw [hdd]
 clear hdd
 clear hD2
 clear hb21
 go_wp2_with fail
 refine (c86 _).mono ?_
 rintro e w38 ⟨g22, rfl, hg22, hb⟩
 have hS := hb
 have hB38 := hB37.call hS rfl
 replace hst := hst.below hS
 clear hS hB37
 clear hb
 go_wp2_with fail
 refine (c87 3 _).mono ?_
 rintro e w39 ⟨p23, rfl, hp23, hb⟩
 have hS := hb
 have hB39 := hB38.call hS rfl
 replace hst := hst.below hS
 replace hg22 := hg22.below hS
 clear hS hB38
 clear hb
 go_wp2_with fail
 obtain ⟨w40, hwn⟩ : ∃ V, V = w39.alloc (Obj.cells #[.int .i64 1, .int .i64 10, .int .i64 100, .int .i64 1000] 3) := ⟨_, rfl⟩
 have hbn : Below w39.heap.size w39 w40 := by rw [hwn]; exact (Below.refl _ _).alloc (Nat.le_refl _) _
 obtain ⟨b24, hbq⟩ : ∃ b, b = w39.heap.size := ⟨_, rfl⟩
 have hb24 : RdI w40 (some ⟨b24, 0, none⟩) 4 [1, 10, 100, 1000] := by rw [hwn]; exact RdS.of_new (cs := encI [1, 10, 100, 1000]) hbq rfl
 have hszb24 : w40.heap.size = b24 + 1 := by rw [hwn, hbq]; simp
 rw [← hbq, ← hwn]
 clear hwn hbq
 have kz := hszb24
 clear hszb24
 have hS := hbn
 have hB40 := hB39.call hS rfl
 replace hst := hst.below hS
 replace hg22 := hg22.below hS
 replace hp23 := hp23.below hS
 clear hS hB39
 have hszb24 := kz
 clear hbn kz
 go_wp2_with fail
 refine (aM g22 p23 _ _ hg22 hp23 hst hb24).mono ?_
 rintro e w41 ⟨A8, c8, rfl, hM8, hb⟩
 have hS := hb
 have hB41 := hB40.call hS rfl
 replace hst := hst.below hS
 replace hg22 := hg22.below hS
 replace hp23 := hp23.below hS
 replace hb24 := hb24.below hS
 clear hS hB40
 clear hb
 clear hg22
 clear hp23
 clear hb24
 go_wp2_with fail
 refine (c86 _).mono ?_
 rintro e w42 ⟨g25, rfl, hg25, hb⟩
 have hS := hb
 have hB42 := hB41.call hS rfl
 replace hst := hst.below hS
 replace hM8 := hM8.below hS
 clear hS hB41
 clear hb
 go_wp2_with fail
 refine (c87 3 _).mono ?_
 rintro e w43 ⟨p26, rfl, hp26, hb⟩
 have hS := hb
 have hB43 := hB42.call hS rfl
 replace hst := hst.below hS
 replace hM8 := hM8.below hS
 replace hg25 := hg25.below hS
 clear hS hB42
 clear hb
 go_wp2_with fail
 refine (c88 _).mono ?_
 rintro e w44 ⟨d27, rfl, hd27, hb⟩
 have hS := hb
 have hB44 := hB43.call hS rfl
 replace hst := hst.below hS
 replace hM8 := hM8.below hS
 replace hg25 := hg25.below hS
 replace hp26 := hp26.below hS
 clear hS hB43
 clear hb
 go_wp2_with fail
 refine (aI g25 p26 _ _ hg25 hp26 hst hd27).mono ?_
 rintro e w45 ⟨A9, c9, rfl, hI9, hb⟩
 have hS := hb
 have hB45 := hB44.call hS rfl
 replace hst := hst.below hS
 replace hM8 := hM8.below hS
 replace hg25 := hg25.below hS
 replace hp26 := hp26.below hS
 replace hd27 := hd27.below hS
 clear hS hB44
 clear hb
 clear hg25
 clear hp26
 clear hd27
 go_wp2_with fail
 obtain ⟨w46, hwn⟩ : ∃ V, V = w45.alloc (Obj.cells #[.int .i64 0, .int .i64 1, .int .i64 0, .int .i64 0, .int .i64 100, .int .i64 0] 3) := ⟨_, rfl⟩
 have hbn : Below w45.heap.size w45 w46 := by rw [hwn]; exact (Below.refl _ _).alloc (Nat.le_refl _) _
 obtain ⟨b28, hbq⟩ : ∃ b, b = w45.heap.size := ⟨_, rfl⟩
 have hb28 : RdI w46 (some ⟨b28, 0, none⟩) 6 [0, 1, 0, 0, 100, 0] := by rw [hwn]; exact RdS.of_new (cs := encI [0, 1, 0, 0, 100, 0]) hbq rfl
 have hszb28 : w46.heap.size = b28 + 1 := by rw [hwn, hbq]; simp
 rw [← hbq, ← hwn]
 clear hwn hbq
 have kz := hszb28
 clear hszb28
 have hS := hbn
 have hB46 := hB45.call hS rfl
 replace hst := hst.below hS
 replace hM8 := hM8.below hS
 replace hI9 := hI9.below hS
 clear hS hB45
 have hszb28 := kz
 clear hbn kz
 go_wp2_with fail
 refine (c88 _).mono ?_
 rintro e w47 ⟨d29, rfl, hd29, hb⟩
 have hS := hb
 have hB47 := hB46.call hS rfl
 replace hst := hst.below hS
 replace hM8 := hM8.below hS
 replace hI9 := hI9.below hS
 replace hb28 := hb28.below hS
 clear hS hB46
 clear hb
 obtain ⟨db, doff, xD, aD, capD, heD, hxD, hdbD, hdcD, hrD⟩ := hd29.at (k := 0) (by decide)
 cases heD
 obtain rfl : [0, 5, 0, 0, 7, 9] = xD := by simpa using hxD
 clear hxD
 go_wp2_with fail
 refine (aN1 _ aD _ capD _ hb28 hrD).mono ?_
 rintro e w48 ⟨rfl, hb⟩
 have hS := hb
 have hB48 := hB47.call hS rfl
 replace hst := hst.below hS
 replace hM8 := hM8.below hS
 replace hI9 := hI9.below hS
 replace hb28 := hb28.below hS
 replace hd29 := hd29.below hS
 replace hrD := hrD.below hS
 clear hS hB47
 clear hb
 clear hdbD hdcD
 clear hb28
 clear hd29
 clear hrD
 go_wp2_with fail
 obtain ⟨w49, hwn⟩ : ∃ V, V = w48.alloc (Obj.cells #[.int .i64 1, .int .i64 10, .int .i64 100, .int .i64 1000] 3) := ⟨_, rfl⟩
 have hbn : Below w48.heap.size w48 w49 := by rw [hwn]; exact (Below.refl _ _).alloc (Nat.le_refl _) _
 obtain ⟨b31, hbq⟩ : ∃ b, b = w48.heap.size := ⟨_, rfl⟩
 have hb31 : RdI w49 (some ⟨b31, 0, none⟩) 4 [1, 10, 100, 1000] := by rw [hwn]; exact RdS.of_new (cs := encI [1, 10, 100, 1000]) hbq rfl
 have hszb31 : w49.heap.size = b31 + 1 := by rw [hwn, hbq]; simp
 rw [← hbq, ← hwn]
 clear hwn hbq
 have kz := hszb31
 clear hszb31
 have hS := hbn
 have hB49 := hB48.call hS rfl
 replace hst := hst.below hS
 replace hM8 := hM8.below hS
 replace hI9 := hI9.below hS
 clear hS hB48
 have hszb31 := kz
 clear hbn kz
 obtain ⟨w50, hwn⟩ : ∃ V, V = w49.alloc (Obj.cells #[.int .i64 5, .int .i64 0, .int .i64 7, .int .i64 0] 3) := ⟨_, rfl⟩
 have hbn : Below w49.heap.size w49 w50 := by rw [hwn]; exact (Below.refl _ _).alloc (Nat.le_refl _) _
 obtain ⟨b32, hbq0⟩ : ∃ b, b = b31 + 1 := ⟨_, rfl⟩
 have hbq : b32 = w49.heap.size := by rw [hbq0, hszb31]
 clear hszb31
 have hb32 : RdI w50 (some ⟨b32, 0, none⟩) 4 [5, 0, 7, 0] := by rw [hwn]; exact RdS.of_new (cs := encI [5, 0, 7, 0]) hbq rfl
 have hszb32 : w50.heap.size = b32 + 1 := by rw [hwn, hbq]; simp
 rw [← hbq0, ← hwn]
 clear hwn hbq hbq0
 have kz := hszb32
 clear hszb32
 have hS := hbn
 have hB50 := hB49.call hS rfl
 replace hst := hst.below hS
 replace hM8 := hM8.below hS
 replace hI9 := hI9.below hS
 replace hb31 := hb31.below hS
 clear hS hB49
 have hszb32 := kz
 clear hbn kz
 go_wp2_with fail
 refine (aN2 _ _ _ _ _ hb31 hb32).mono ?_
 rintro e w51 ⟨rfl, hb⟩
 have hS := hb
 have hB51 := hB50.call hS rfl
 replace hst := hst.below hS
 replace hM8 := hM8.below hS
 replace hI9 := hI9.below hS
 replace hb31 := hb31.below hS
 replace hb32 := hb32.below hS
 clear hS hB50
 clear hb
 clear hb31
 clear hb32
 go_wp2_with fail
 refine (c86 _).mono ?_
 rintro e w52 ⟨g33, rfl, hg33, hb⟩
 have hS := hb
 have hB52 := hB51.call hS rfl
 replace hst := hst.below hS
 replace hM8 := hM8.below hS
 replace hI9 := hI9.below hS
 clear hS hB51
 clear hb
 go_wp2_with fail
 refine (c87 3 _).mono ?_
 rintro e w53 ⟨p34, rfl, hp34, hb⟩
 have hS := hb
 have hB53 := hB52.call hS rfl
 replace hst := hst.below hS
 replace hM8 := hM8.below hS
 replace hI9 := hI9.below hS
 replace hg33 := hg33.below hS
 clear hS hB52
 clear hb
 go_wp2_with fail
 obtain ⟨w54, hwn⟩ : ∃ V, V = w53.alloc (Obj.cells #[.int .i64 1, .int .i64 10, .int .i64 100, .int .i64 1000] 3) := ⟨_, rfl⟩
 have hbn : Below w53.heap.size w53 w54 := by rw [hwn]; exact (Below.refl _ _).alloc (Nat.le_refl _) _
 obtain ⟨b35, hbq⟩ : ∃ b, b = w53.heap.size := ⟨_, rfl⟩
 have hb35 : RdI w54 (some ⟨b35, 0, none⟩) 4 [1, 10, 100, 1000] := by rw [hwn]; exact RdS.of_new (cs := encI [1, 10, 100, 1000]) hbq rfl
 have hszb35 : w54.heap.size = b35 + 1 := by rw [hwn, hbq]; simp
 rw [← hbq, ← hwn]
 clear hwn hbq
 have kz := hszb35
 clear hszb35
 have hS := hbn
 have hB54 := hB53.call hS rfl
 replace hst := hst.below hS
 replace hM8 := hM8.below hS
 replace hI9 := hI9.below hS
 replace hg33 := hg33.below hS
 replace hp34 := hp34.below hS
 clear hS hB53
 have hszb35 := kz
 clear hbn kz
 go_wp2_with fail
 refine (c88 _).mono ?_
 rintro e w55 ⟨d36, rfl, hd36, hb⟩
 have hS := hb
 have hB55 := hB54.call hS rfl
 replace hst := hst.below hS
 replace hM8 := hM8.below hS
 replace hI9 := hI9.below hS
 replace hg33 := hg33.below hS
 replace hp34 := hp34.below hS
 replace hb35 := hb35.below hS
 clear hS hB54
 clear hb
 go_wp2_with fail
 refine (aF g33 p34 _ _ _ hg33 hp34 hst hb35 hd36).mono ?_
 rintro e w56 ⟨rfl, hb⟩
 have hS := hb
 have hB56 := hB55.call hS rfl
 replace hst := hst.below hS
 replace hM8 := hM8.below hS
 replace hI9 := hI9.below hS
 replace hg33 := hg33.below hS
 replace hp34 := hp34.below hS
 replace hb35 := hb35.below hS
 replace hd36 := hd36.below hS
 clear hS hB55
 clear hb
 clear hg33
 clear hp34
 clear hb35
 clear hd36
 go_wp2_with fail
 refine (c86 _).mono ?_
 rintro e w57 ⟨g37, rfl, hg37, hb⟩
 have hS := hb
 have hB57 := hB56.call hS rfl
 replace hst := hst.below hS
 replace hM8 := hM8.below hS
 replace hI9 := hI9.below hS
 clear hS hB56
 clear hb
 go_wp2_with fail
 refine (c87 3 _).mono ?_
 rintro e w58 ⟨p38, rfl, hp38, hb⟩
 have hS := hb
 have hB58 := hB57.call hS rfl
 replace hst := hst.below hS
 replace hM8 := hM8.below hS
 replace hI9 := hI9.below hS
 replace hg37 := hg37.below hS
 clear hS hB57
 clear hb
 go_wp2_with fail
 refine (c88 _).mono ?_
 rintro e w59 ⟨d39, rfl, hd39, hb⟩
 have hS := hb
 have hB59 := hB58.call hS rfl
 replace hst := hst.below hS
 replace hM8 := hM8.below hS
 replace hI9 := hI9.below hS
 replace hg37 := hg37.below hS
 replace hp38 := hp38.below hS
 clear hS hB58
 clear hb
 go_wp2_with fail
 obtain ⟨w60, hwn⟩ : ∃ V, V = w59.alloc (Obj.cells #[.int .i64 0, .int .i64 0, .int .i64 0, .int .i64 0, .int .i64 0, .int .i64 9] 3) := ⟨_, rfl⟩
 have hbn : Below w59.heap.size w59 w60 := by rw [hwn]; exact (Below.refl _ _).alloc (Nat.le_refl _) _
 obtain ⟨b40, hbq⟩ : ∃ b, b = w59.heap.size := ⟨_, rfl⟩
 have hb40 : RdI w60 (some ⟨b40, 0, none⟩) 6 [0, 0, 0, 0, 0, 9] := by rw [hwn]; exact RdS.of_new (cs := encI [0, 0, 0, 0, 0, 9]) hbq rfl
 have hszb40 : w60.heap.size = b40 + 1 := by rw [hwn, hbq]; simp
 rw [← hbq, ← hwn]
 clear hwn hbq
 have kz := hszb40
 clear hszb40
 have hS := hbn
 have hB60 := hB59.call hS rfl
 replace hst := hst.below hS
 replace hM8 := hM8.below hS
 replace hI9 := hI9.below hS
 replace hg37 := hg37.below hS
 replace hp38 := hp38.below hS
 replace hd39 := hd39.below hS
 clear hS hB59
 have hszb40 := kz
 clear hbn kz
 have hk41 := Lib.hid hb40
 obtain ⟨w61, hwn⟩ : ∃ V, V = w60.alloc (Obj.cells #[.slice (some ⟨b40, 0, none⟩) 6 6] 22) := ⟨_, rfl⟩
 have hbn : Below w60.heap.size w60 w61 := by rw [hwn]; exact (Below.refl _ _).alloc (Nat.le_refl _) _
 obtain ⟨e41, hbq0⟩ : ∃ b, b = b40 + 1 := ⟨_, rfl⟩
 have hbq : e41 = w60.heap.size := by rw [hbq0, hszb40]
 clear hszb40
 have he41 : RdD w61 (some ⟨e41, 0, none⟩) 1 [[0, 0, 0, 0, 0, 9]] := by rw [hwn]; exact rdD_one hbq hk41.out rfl
 have hsze41 : w61.heap.size = e41 + 1 := by rw [hwn, hbq]; simp
 rw [← hbq0, ← hwn]
 clear hwn hbq hbq0
 have kz := hsze41
 clear hsze41
 have hS := hbn
 have hB61 := hB60.call hS rfl
 replace hst := hst.below hS
 replace hM8 := hM8.below hS
 replace hI9 := hI9.below hS
 replace hg37 := hg37.below hS
 replace hp38 := hp38.below hS
 replace hd39 := hd39.below hS
 replace hb40 := hb40.below hS
 clear hS hB60
 have hsze41 := kz
 clear hbn kz
 go_wp2_with fail
 refine (aB g37 p38 _ _ _ hg37 hp38 hst hd39 he41).mono ?_
 rintro e w62 ⟨rfl, hb⟩
 have hS := hb
 have hB62 := hB61.call hS rfl
 replace hst := hst.below hS
 replace hM8 := hM8.below hS
 replace hI9 := hI9.below hS
 replace hg37 := hg37.below hS
 replace hp38 := hp38.below hS
 replace hd39 := hd39.below hS
 replace hb40 := hb40.below hS
 replace he41 := he41.below hS
 clear hS hB61
 clear hb
 clear hg37
 clear hp38
 clear hd39
 clear hb40
 clear he41
 go_wp2_with fail
 refine (c86 _).mono ?_
 rintro e w63 ⟨g42, rfl, hg42, hb⟩
 have hS := hb
 have hB63 := hB62.call hS rfl
 replace hst := hst.below hS
 replace hM8 := hM8.below hS
 replace hI9 := hI9.below hS
 clear hS hB62
 clear hb
 go_wp2_with fail
 refine (c87 3 _).mono ?_
 rintro e w64 ⟨p43, rfl, hp43, hb⟩
 have hS := hb
 have hB64 := hB63.call hS rfl
 replace hst := hst.below hS
 replace hM8 := hM8.below hS
 replace hI9 := hI9.below hS
 replace hg42 := hg42.below hS
 clear hS hB63
 clear hb
 go_wp2_with fail
 refine (c88 _).mono ?_
 rintro e w65 ⟨d44, rfl, hd44, hb⟩
 have hS := hb
 have hB65 := hB64.call hS rfl
 replace hst := hst.below hS
 replace hM8 := hM8.below hS
 replace hI9 := hI9.below hS
 replace hg42 := hg42.below hS
 replace hp43 := hp43.below hS
 clear hS hB64
 clear hb
 go_wp2_with fail
 refine (aA2 g42 p43 _ _ hg42 hp43 hst hd44).mono ?_
 rintro e w66 ⟨rfl, hb⟩
 have hS := hb
 have hB66 := hB65.call hS rfl
 replace hst := hst.below hS
 replace hM8 := hM8.below hS
 replace hI9 := hI9.below hS
 replace hg42 := hg42.below hS
 replace hp43 := hp43.below hS
 replace hd44 := hd44.below hS
 clear hS hB65
 clear hb
 clear hg42
 clear hp43
 clear hd44
 go_wp2_with fail
 obtain ⟨w67, hwn⟩ : ∃ V, V = w66.alloc (Obj.cells #[.int .i64 7, .int .i64 1] 61) := ⟨_, rfl⟩
 have hbn : Below w66.heap.size w66 w67 := by rw [hwn]; exact (Below.refl _ _).alloc (Nat.le_refl _) _
 obtain ⟨bA, hbq⟩ : ∃ b, b = w66.heap.size := ⟨_, rfl⟩
 have kA : w67.heap[bA]? = some (.cells #[.int .i64 7, .int .i64 1] 61 (0, 0)) := by rw [hwn]; exact heap_new hbq
 have hszbA : w67.heap.size = bA + 1 := by rw [hwn, hbq]; simp
 rw [← hbq, ← hwn]
 clear hwn hbq
 have kz := hszbA
 clear hszbA
 have hS := hbn
 have hB67 := hB66.call hS rfl
 replace hst := hst.below hS
 replace hM8 := hM8.below hS
 replace hI9 := hI9.below hS
 clear hS hB66
 have hszbA := kz
 clear hbn kz
 go_wp2_with fail
 refine (c86 _).mono ?_
 rintro e w68 ⟨g45, rfl, hg45, hb⟩
 have hS := hb
 have hB68 := hB67.call hS rfl
 replace hst := hst.below hS
 replace hM8 := hM8.below hS
 replace hI9 := hI9.below hS
 replace kA := blkb kA hS
 clear hS hB67
 clear hb
 go_wp2_with fail
 refine (c87 3 _).mono ?_
 rintro e w69 ⟨p46, rfl, hp46, hb⟩
 have hS := hb
 have hB69 := hB68.call hS rfl
 replace hst := hst.below hS
 replace hM8 := hM8.below hS
 replace hI9 := hI9.below hS
 replace kA := blkb kA hS
 replace hg45 := hg45.below hS
 clear hS hB68
 clear hb
 go_wp2_with fail
 refine (c88 _).mono ?_
 rintro e w70 ⟨d47, rfl, hd47, hb⟩
 have hS := hb
 have hB70 := hB69.call hS rfl
 replace hst := hst.below hS
 replace hM8 := hM8.below hS
 replace hI9 := hI9.below hS
 replace kA := blkb kA hS
 replace hg45 := hg45.below hS
 replace hp46 := hp46.below hS
 clear hS hB69
 clear hb
 go_wp2_with fail
 refine (aA1 g45 p46 _ _ hg45 hp46 hst hd47).mono ?_
 rintro e w71 ⟨rfl, hb⟩
 have hS := hb
 have hB71 := hB70.call hS rfl
 replace hst := hst.below hS
 replace hM8 := hM8.below hS
 replace hI9 := hI9.below hS
 replace kA := blkb kA hS
 replace hg45 := hg45.below hS
 replace hp46 := hp46.below hS
 replace hd47 := hd47.below hS
 clear hS hB70
 clear hb
 clear hg45
 clear hp46
 clear hd47
 go_wp2_with fail
 obtain ⟨w72, hwn⟩ : ∃ V, V = w71.alloc (Obj.cells #[.int .i64 0, .int .i64 0] 61) := ⟨_, rfl⟩
 have hbn : Below w71.heap.size w71 w72 := by rw [hwn]; exact (Below.refl _ _).alloc (Nat.le_refl _) _
 obtain ⟨bZ, hbq⟩ : ∃ b, b = w71.heap.size := ⟨_, rfl⟩
 have kZ : w72.heap[bZ]? = some (.cells #[.int .i64 0, .int .i64 0] 61 (0, 0)) := by rw [hwn]; exact heap_new hbq
 have hszbZ : w72.heap.size = bZ + 1 := by rw [hwn, hbq]; simp
 rw [← hbq, ← hwn]
 clear hwn hbq
 have kz := hszbZ
 clear hszbZ
 have hS := hbn
 have hB72 := hB71.call hS rfl
 replace hst := hst.below hS
 replace hM8 := hM8.below hS
 replace hI9 := hI9.below hS
 replace kA := blkb kA hS
 clear hS hB71
 have hszbZ := kz
 clear hbn kz
 clear kZ
 obtain ⟨w73, hwn⟩ : ∃ V, V = w72.alloc (Obj.cells #[.int .i64 0, .int .i64 1, .int .i64 0, .int .i64 0, .int .i64 100, .int .i64 0] 3) := ⟨_, rfl⟩
 have hbn : Below w72.heap.size w72 w73 := by rw [hwn]; exact (Below.refl _ _).alloc (Nat.le_refl _) _
 obtain ⟨b48, hbq0⟩ : ∃ b, b = bZ + 1 := ⟨_, rfl⟩
 have hbq : b48 = w72.heap.size := by rw [hbq0, hszbZ]
 clear hszbZ
 have hb48 : RdI w73 (some ⟨b48, 0, none⟩) 6 [0, 1, 0, 0, 100, 0] := by rw [hwn]; exact RdS.of_new (cs := encI [0, 1, 0, 0, 100, 0]) hbq rfl
 have hszb48 : w73.heap.size = b48 + 1 := by rw [hwn, hbq]; simp
 rw [← hbq0, ← hwn]
 clear hwn hbq hbq0
 have kz := hszb48
 clear hszb48
 have hS := hbn
 have hB73 := hB72.call hS rfl
 replace hst := hst.below hS
 replace hM8 := hM8.below hS
 replace hI9 := hI9.below hS
 replace kA := blkb kA hS
 clear hS hB72
 have hszb48 := kz
 clear hbn kz
 have hk49 := Lib.hid hb48
 obtain ⟨w74, hwn⟩ : ∃ V, V = w73.alloc (Obj.cells #[.slice (some ⟨b48, 0, none⟩) 6 6] 22) := ⟨_, rfl⟩
 have hbn : Below w73.heap.size w73 w74 := by rw [hwn]; exact (Below.refl _ _).alloc (Nat.le_refl _) _
 obtain ⟨e49, hbq0⟩ : ∃ b, b = b48 + 1 := ⟨_, rfl⟩
 have hbq : e49 = w73.heap.size := by rw [hbq0, hszb48]
 clear hszb48
 have he49 : RdD w74 (some ⟨e49, 0, none⟩) 1 [[0, 1, 0, 0, 100, 0]] := by rw [hwn]; exact rdD_one hbq hk49.out rfl
 have hsze49 : w74.heap.size = e49 + 1 := by rw [hwn, hbq]; simp
 rw [← hbq0, ← hwn]
 clear hwn hbq hbq0
 have kz := hsze49
 clear hsze49
 have hS := hbn
 have hB74 := hB73.call hS rfl
 replace hst := hst.below hS
 replace hM8 := hM8.below hS
 replace hI9 := hI9.below hS
 replace kA := blkb kA hS
 replace hb48 := hb48.below hS
 clear hS hB73
 have hsze49 := kz
 clear hbn kz
 go_wp2_with fail
 refine (c27 A8 (some ⟨e49, 0, none⟩) 1 1 c8 1 [[0, 1, 0, 0, 100, 0]] [[0, 1, 0, 0, 100, 0]] _ (by decide) (by decide) (by decide) (by decide) hM8 he49).mono ?_
 rintro e w75 ⟨rfl, hb⟩
 have hS := hb
 have hB75 := hB74.call hS rfl
 replace hst := hst.below hS
 replace hM8 := hM8.below hS
 replace hI9 := hI9.below hS
 replace kA := blkb kA hS
 replace hb48 := hb48.below hS
 replace he49 := he49.below hS
 clear hS hB74
 clear hb
 have hdd : decide (([[0, 1, 0, 0, 100, 0]] : List (List Int)) = [[0, 1, 0, 0, 100, 0]]) = true := by decide
 rw [hdd]
 clear hdd
 clear hM8
 clear hb48
 clear he49
 have yA_0 : w75.cell? ⟨bA, 0, none⟩ = some (.int .i64 7) := cell_at kA rfl
 have yA_1 : w75.cell? ⟨bA, 1, none⟩ = some (.int .i64 1) := cell_at kA rfl
 have zlA : bA < w75.heap.size := (Array.getElem?_eq_some_iff.1 kA).1
 have eqA := eqR
 go_wp2_with fail
 obtain ⟨w76, hwn⟩ : ∃ V, V = w75.alloc (Obj.cells #[.int .i64 5, .int .i64 0, .int .i64 7, .int .i64 0] 3) := ⟨_, rfl⟩
 have hbn : Below w75.heap.size w75 w76 := by rw [hwn]; exact (Below.refl _ _).alloc (Nat.le_refl _) _
 obtain ⟨b50, hbq⟩ : ∃ b, b = w75.heap.size := ⟨_, rfl⟩
 have hb50 : RdI w76 (some ⟨b50, 0, none⟩) 4 [5, 0, 7, 0] := by rw [hwn]; exact RdS.of_new (cs := encI [5, 0, 7, 0]) hbq rfl
 have hszb50 : w76.heap.size = b50 + 1 := by rw [hwn, hbq]; simp
 rw [← hbq, ← hwn]
 clear hwn hbq
 have kz := hszb50
 clear hszb50
 have hS := hbn
 have hB76 := hB75.call hS rfl
 replace hst := hst.below hS
 replace hI9 := hI9.below hS
 replace kA := blkb kA hS
 clear hS hB75
 have hszb50 := kz
 clear hbn kz
 clear yA_0 yA_1 zlA
 have yA_0 : w76.cell? ⟨bA, 0, none⟩ = some (.int .i64 7) := cell_at kA rfl
 have yA_1 : w76.cell? ⟨bA, 1, none⟩ = some (.int .i64 1) := cell_at kA rfl
 have zlA : bA < w76.heap.size := (Array.getElem?_eq_some_iff.1 kA).1
 go_wp2_with fail
 refine (c30 A9 (some ⟨b50, 0, none⟩) 4 4 c9 4 [5, 0, 7, 0] [5, 0, 7, 0] _ (by decide) (by decide) hI9 hb50).mono ?_
 rintro e w77 ⟨rfl, hb⟩
 have hS := hb
 have hB77 := hB76.call hS rfl
 replace hst := hst.below hS
 replace hI9 := hI9.below hS
 replace kA := blkb kA hS
 replace hb50 := hb50.below hS
 clear hS hB76
 clear hb
 have hdd : decide (([5, 0, 7, 0] : List Int) = [5, 0, 7, 0]) = true := by decide
 rw [hdd]
 clear hdd
 clear hI9
 clear hb50
 clear yA_0 yA_1 zlA
 have yA_0 : w77.cell? ⟨bA, 0, none⟩ = some (.int .i64 7) := cell_at kA rfl
 have yA_1 : w77.cell? ⟨bA, 1, none⟩ = some (.int .i64 1) := cell_at kA rfl
 have zlA : bA < w77.heap.size := (Array.getElem?_eq_some_iff.1 kA).1
 go_wp2_with fail
 obtain ⟨w78, hwn⟩ : ∃ V, V = w77.alloc (Obj.cells #[.complex .f32 1065353216 0, .complex .f32 1065353216 0, .complex .f32 1065353216 0, .complex .f32 1065353216 0] 84) := ⟨_, rfl⟩
 have hbn : Below w77.heap.size w77 w78 := by rw [hwn]; exact (Below.refl _ _).alloc (Nat.le_refl _) _
 obtain ⟨bP, hbq⟩ : ∃ b, b = w77.heap.size := ⟨_, rfl⟩
 have kP : w78.heap[bP]? = some (.cells #[.complex .f32 1065353216 0, .complex .f32 1065353216 0, .complex .f32 1065353216 0, .complex .f32 1065353216 0] 84 (0, 0)) := by rw [hwn]; exact heap_new hbq
 have hszbP : w78.heap.size = bP + 1 := by rw [hwn, hbq]; simp
 rw [← hbq, ← hwn]
 clear hwn hbq
 have kz := hszbP
 clear hszbP
 have hS := hbn
 have hB78 := hB77.call hS rfl
 replace hst := hst.below hS
 replace kA := blkb kA hS
 clear hS hB77
 have hszbP := kz
 clear hbn kz
 clear yA_0 yA_1 zlA
 clear kA
 go_wp2_with fail
 refine (c45_1 _).mono ?_
 rintro e w79 ⟨rfl, hb⟩
 have hS := hb
 have hB79 := hB78.call hS rfl
 replace hst := hst.below hS
 replace kP := blkb kP hS
 clear hS hB78
 clear hb
 have yP_0 : w79.cell? ⟨bP, 0, none⟩ = some (.complex .f32 1065353216 0) := cell_at kP rfl
 have yP_1 : w79.cell? ⟨bP, 1, none⟩ = some (.complex .f32 1065353216 0) := cell_at kP rfl
 have yP_2 : w79.cell? ⟨bP, 2, none⟩ = some (.complex .f32 1065353216 0) := cell_at kP rfl
 have yP_3 : w79.cell? ⟨bP, 3, none⟩ = some (.complex .f32 1065353216 0) := cell_at kP rfl
 have zlP : bP < w79.heap.size := (Array.getElem?_eq_some_iff.1 kP).1
 go_wp2_with fail
 obtain ⟨w80, hwn⟩ : ∃ V, V = w79.alloc (Obj.cells #[.complex .f32 1065353216 0, .complex .f32 0 3212836864, .complex .f32 3212836864 2147483648, .complex .f32 2147483648 1065353216] 84) := ⟨_, rfl⟩
 have hbn : Below w79.heap.size w79 w80 := by rw [hwn]; exact (Below.refl _ _).alloc (Nat.le_refl _) _
 obtain ⟨bY, hbq⟩ : ∃ b, b = w79.heap.size := ⟨_, rfl⟩
 have kY : w80.heap[bY]? = some (.cells #[.complex .f32 1065353216 0, .complex .f32 0 3212836864, .complex .f32 3212836864 2147483648, .complex .f32 2147483648 1065353216] 84 (0, 0)) := by rw [hwn]; exact heap_new hbq
 have hszbY : w80.heap.size = bY + 1 := by rw [hwn, hbq]; simp
 rw [← hbq, ← hwn]
 clear hwn hbq
 have kz := hszbY
 clear hszbY
 have hS := hbn
 have hB80 := hB79.call hS rfl
 replace hst := hst.below hS
 replace kP := blkb kP hS
 clear hS hB79
 have hszbY := kz
 clear hbn kz
 obtain ⟨w81, hwn⟩ : ∃ V, V = w80.alloc (Obj.cells #[.int .i64 2, .int .i64 3, .int .i64 1, .int .i64 5] 80) := ⟨_, rfl⟩
 have hbn : Below w80.heap.size w80 w81 := by rw [hwn]; exact (Below.refl _ _).alloc (Nat.le_refl _) _
 obtain ⟨bL, hbq0⟩ : ∃ b, b = bY + 1 := ⟨_, rfl⟩
 have hbq : bL = w80.heap.size := by rw [hbq0, hszbY]
 clear hszbY
 have hL : RdY w81 (some ⟨bL, 0, none⟩) 2 [⟨2, 3⟩, ⟨1, 5⟩] := by rw [hwn]; exact RdS.of_new (cs := [.int .i64 2, .int .i64 3, .int .i64 1, .int .i64 5]) hbq rfl
 have hszbL : w81.heap.size = bL + 1 := by rw [hwn, hbq]; simp
 rw [← hbq0, ← hwn]
 clear hwn hbq hbq0
 have kz := hszbL
 clear hszbL
 have hS := hbn
 have hB81 := hB80.call hS rfl
 replace hst := hst.below hS
 replace kP := blkb kP hS
 replace kY := blkb kY hS
 clear hS hB80
 have hszbL := kz
 clear hbn kz
 clear yP_0 yP_1 yP_2 yP_3 zlP
 go_wp2_with fail
 refine (c44_1 bL _ hL).mono ?_
 rintro e w82 ⟨rfl, hb⟩
 have hS := hb
 have hB82 := hB81.call hS rfl
 replace hst := hst.below hS
 replace kP := blkb kP hS
 replace kY := blkb kY hS
 replace hL := hL.below hS
 clear hS hB81
 clear hb
 clear hL
 clear kP
 go_wp2_with fail
 obtain ⟨w83, hwn⟩ : ∃ V, V = w82.alloc (Obj.cells #[.complex .f32 1065353216 0, .complex .f32 2147483648 1065353216, .complex .f32 3212836864 2147483648, .complex .f32 0 3212836864] 84) := ⟨_, rfl⟩
 have hbn : Below w82.heap.size w82 w83 := by rw [hwn]; exact (Below.refl _ _).alloc (Nat.le_refl _) _
 obtain ⟨bW, hbq⟩ : ∃ b, b = w82.heap.size := ⟨_, rfl⟩
 have kW : w83.heap[bW]? = some (.cells #[.complex .f32 1065353216 0, .complex .f32 2147483648 1065353216, .complex .f32 3212836864 2147483648, .complex .f32 0 3212836864] 84 (0, 0)) := by rw [hwn]; exact heap_new hbq
 have hszbW : w83.heap.size = bW + 1 := by rw [hwn, hbq]; simp
 rw [← hbq, ← hwn]
 clear hwn hbq
 have kz := hszbW
 clear hszbW
 have hS := hbn
 have hB83 := hB82.call hS rfl
 replace hst := hst.below hS
 replace kY := blkb kY hS
 clear hS hB82
 have hszbW := kz
 clear hbn kz
 go_wp2_with fail
 refine (c86 _).mono ?_
 rintro e w84 ⟨g52, rfl, hg52, hb⟩
 have hS := hb
 have hB84 := hB83.call hS rfl
 replace hst := hst.below hS
 replace kY := blkb kY hS
 replace kW := blkb kW hS
 clear hS hB83
 clear hb
 go_wp2_with fail
 refine (hpr g52 _ hg52).mono ?_
 rintro e w85 ⟨rfl, hb⟩
 have hS := hb
 have hB85 := hB84.call hS rfl
 replace hst := hst.below hS
 replace kY := blkb kY hS
 replace kW := blkb kW hS
 replace hg52 := hg52.below hS
 clear hS hB84
 clear hb
 clear hg52
 have yY_0 : w85.cell? ⟨bY, 0, none⟩ = some (.complex .f32 1065353216 0) := cell_at kY rfl
 have yY_1 : w85.cell? ⟨bY, 1, none⟩ = some (.complex .f32 0 3212836864) := cell_at kY rfl
 have yY_2 : w85.cell? ⟨bY, 2, none⟩ = some (.complex .f32 3212836864 2147483648) := cell_at kY rfl
 have yY_3 : w85.cell? ⟨bY, 3, none⟩ = some (.complex .f32 2147483648 1065353216) := cell_at kY rfl
 have zlY : bY < w85.heap.size := (Array.getElem?_eq_some_iff.1 kY).1
 have yW_0 : w85.cell? ⟨bW, 0, none⟩ = some (.complex .f32 1065353216 0) := cell_at kW rfl
 have yW_1 : w85.cell? ⟨bW, 1, none⟩ = some (.complex .f32 2147483648 1065353216) := cell_at kW rfl
 have yW_2 : w85.cell? ⟨bW, 2, none⟩ = some (.complex .f32 3212836864 2147483648) := cell_at kW rfl
 have yW_3 : w85.cell? ⟨bW, 3, none⟩ = some (.complex .f32 0 3212836864) := cell_at kW rfl
 have zlW : bW < w85.heap.size := (Array.getElem?_eq_some_iff.1 kW).1
 have eqY := eqYp
 have eqZ := eqZp
 go_wp2_with fail
 go_ret
 exact ⟨rfl, hB85⟩
end Go.Proofs.YtdimmlljjmmdbaaGreatDoor
namespace Go.Proofs.YtdimmlljjmmdbaaGreatDoor
open Go.RowKit Go.Shelf
set_option maxHeartbeats 8000000
set_option maxRecDepth 100000
attribute [local go_sem] Oper.semAt_some
/-- the iterator of slices.Chunk over r rows of c -/
theorem chunk_in (n : Nat) (hn : 1 ≤ n) (lr ps pn b off cap N c r : Nat) (hc1 : 1 ≤ c) (hc : c ≤ 256) (hr : r ≤ 256) (hN : N = r * c) (hcap : N ≤ cap) (J : Nat → World → Prop)
  (hK : ∀ k W, J k W → W.cell? ⟨ps, 0, none⟩ = some (.slice (some ⟨b, off, none⟩) N cap) ∧ W.cell? ⟨pn, 0, none⟩ = some (.int .i64 c))
  (hst : ∀ k W W1, J k W → Below W.heap.size W W1 → J k W1)
  (hY : ∀ k W, k < r → J k W → YieldAt Fence.wide (n - 1) Tryz.prog lr #[.slice (some ⟨b, off + k * c, none⟩) c c] W fun e W' => e = .returned (.bool true) ∧ J (k + 1) W')
  (W : World) (h0 : J 0 W) :
  CallsIn Fence.wide n Tryz.prog 163 #[.func (.yield lr) #[] #[], .pointer (some ⟨ps, 0, none⟩), .pointer (some ⟨pn, 0, none⟩)] W fun e W' => (∃ v, e = .returned v) ∧ J r W' := by
 have HY := Lib.hid hY
 have HST := Lib.hid hst
 have HK := Lib.hid hK
 have HN := Lib.hid hN
 clear hY hst hK hN
 refine callsIn_of_wp Tryz.func163 rfl trivial ?_ rfl
 simp only [Tryz.ntmps163, List.size_toArray, List.length_cons, List.length_nil, Nat.reduceAdd, Nat.reduceSub, Array.replicate_succ, Array.replicate_zero, List.push_toArray, List.append_toArray, List.nil_append, List.cons_append]
 gi_wp2
 gi_loopw [4] (fun x wr => ∃ k : Nat, k ≤ r ∧ x = .int .i64 (k * c : Nat) ∧ J k wr) (fun x _ => N - (intOf x).toNat)
 case atStart => exact ⟨0, by omega, by simp, h0⟩
 case round =>
  obtain ⟨k, hk, rfl, hJ⟩ := hrel
  obtain ⟨k1, k2⟩ := HK.out _ _ hJ
  have l1 := cell_lt k1
  have l2 := cell_lt k2
  have HJ := Lib.hid hJ
  clear hJ
  obtain ⟨i, hi⟩ : ∃ i, i = k * c := ⟨_, rfl⟩
  rw [← hi]
  have HI := Lib.hid hi
  have h256 : r * c ≤ 65536 := Nat.mul_le_mul hr hc
  by_cases hlt : k < r
  ·have hle : i + c ≤ N := by
    rw [hi, HN.out]
    have : (k + 1) * c ≤ r * c := Nat.mul_le_mul hlt (Nat.le_refl _)
    rw [Nat.add_mul] at this
    omega
   have hNs : N ≤ 65536 := by rw [HN.out]; exact h256
   clear hi h256
   have d1 : decide ((i : Int) < (N : Int)) = true := by simp; omega
   have HJ0 := HJ.out
   gi_wp2
   refine wpIn_wide.2 ?_
   refine wp_region_growG (by kernel_rfl) (by kernel_rfl) ?_
   repeat (go_big_quiet_step ((first | fail)))
   refine wpQuiet_nil (gw_out ?_)
   intro w1 hb1
   have hmin : min (c : Int) ((N - i : Nat) : Int) = (c : Int) := by omega
   rw [hmin]
   have k1 := (hb1.cell (p := ⟨ps, 0, none⟩) l1).trans k1
   have k2 := (hb1.cell (p := ⟨pn, 0, none⟩) l2).trans k2
   have HJ1 := Lib.hid (HST.out _ _ _ HJ0 hb1)
   have l1 := cell_lt k1
   have l2 := cell_lt k2
   have hwr : IntKind.i64.wrap ((i : Int) + (c : Int)) = ((i + c : Nat) : Int) := by rw [IntKind.wrap_i64]; omega
   have hle2 : i + c ≤ cap := by omega
   clear hmin hb1 HJ0
   have hdd : ¬ (i + c < i) := by omega
   obtain ⟨fn, tmps, assign, body, hy, hR⟩ := HY.out k _ hlt HJ1.out
   rw [← HI.out] at hy
   go_wp2
   gi_wp2
   refine hR.mono ?_
   rintro e W3 ⟨rfl, hJ3⟩
   obtain ⟨k1, k2⟩ := HK.out _ _ hJ3
   have l1 := cell_lt k1
   have l2 := cell_lt k2
   have HJ3 := Lib.hid hJ3
   clear hJ3 hy hR
   have hi2 : Hid (i + c = (k + 1) * c) := Lib.hid (by rw [HI.out, Nat.add_mul]; omega)
   gi_wp2
   go_roundw
   case rel => exact ⟨k + 1, by omega, by rw [← hi2.out]; first | rfl | go_num, HJ3.out⟩
   case measure => simp [intOf]; omega
  ·obtain rfl : r = k := by omega
   have d1 : ¬ (i < N) := by rw [HI.out, HN.out]; omega
   clear hi
   gi_wp2
   go_end0
   exact ⟨⟨_, rfl⟩, HJ.out⟩
/-- 'for row := range slices.Chunk(l, c)': an invariant of the rows that are done, and one walk of the body -/
theorem wpIn_chunks {ps : Array Tmp} {assign body : Code} {Q : Exit → Act → World → Prop} {a : Act} {w : World} {n : Nat} (hn : 2 ≤ n) {g : Operand} {p1 p2 b off cap N c r : Nat} (hc1 : 1 ≤ c) (hc : c ≤ 256) (hr : r ≤ 256) (hN : N = r * c) (hcap : N ≤ cap)
  (hg : a.eval g = .func (.func 163) #[] #[.pointer (some ⟨p1, 0, none⟩), .pointer (some ⟨p2, 0, none⟩)]) (hps : ps.size = 1)
  (I : Nat → World → Prop)
  (hI : ∀ k, OwnFrom w.heap.size (fun (_ : Unit) => I k))
  (hK : ∀ k W, I k W → W.cell? ⟨p1, 0, none⟩ = some (.slice (some ⟨b, off, none⟩) N cap) ∧ W.cell? ⟨p2, 0, none⟩ = some (.int .i64 c))
  (h0 : I 0 w) (a₁ : Nat → Act)
  (hassign : ∀ (l : Nat) (k : Nat) (W : World) (K : Act → World → Prop), K (a₁ k) W →
   assign.wpIn (Fence.wide.inRound l) (n - 1 - 1) Tryz.prog (Exit.then K (fun _ _ _ => False)) { tmps := (ps.zip #[.slice (some ⟨b, off + k * c, none⟩) c c]).foldl (fun t (p, v) => t.setIfInBounds p v) a.tmps, defers := [] } W)
  (hbody : ∀ (l : Nat) (k : Nat) (W : World), k < r → w.heap.size ≤ W.heap.size → I k W → body.wpIn (Fence.wide.inRound l) (n - 1 - 1) Tryz.prog (NbPost w.heap.size (I (k + 1)) (fun _ => False) .ret W) (a₁ k) W)
  (hdone : ∀ (D : Nat) (W : World), w.heap.size ≤ D → I r W → W.heap[D]? = some (.deferred (some [])) → Q .normal { a with defers := { target := .collected D, args := #[] } :: a.defers } W) :
  (Code.rangeFunc g ps assign body).wpIn Fence.wide n Tryz.prog Q a w := by
 refine wpIn_rangeFunc fun fn hfn => ?_
 obtain ⟨rc, hrc⟩ : ∃ rc : LoopState → Option Code → Loop, rc = fun st pe => { state := st, pending := pe, fn, tmps := a.tmps, params := ps, assign, body, defers := w.heap.size } := ⟨_, rfl⟩
 obtain ⟨W1, hW1⟩ : ∃ W1, W1 = (w.alloc (.deferred (some []))).alloc (.loop (rc .ready none)) := ⟨_, rfl⟩
 have hb1 : Below w.heap.size w W1 := by rw [hW1]; exact below2 _ _ _
 have hrec : LineRec w W1 (rc .ready none) := by
  rw [hW1]
  exact ⟨heap_new (by simp), heap_old (by simp) (heap_new rfl)⟩
 have hgo := chunk_in (n - 1) (by omega) (w.heap.size + 1) p1 p2 b off cap N c r hc1 hc hr hN hcap (fun k W => I k W ∧ LineRec w W (rc .ready none))
  (fun k W h => hK k W h.1)
  (fun k W W2 h hb => ⟨own_grow (hI k) h.1 hb, h.2.grow hb⟩)
  ?hY W1 ⟨own_grow (hI 0) h0 hb1, hrec⟩
 case hY =>
  rintro k W hk ⟨hi1, hr1⟩
  have hy := run_yield (P := Tryz.prog) (args := #[.slice (some ⟨b, off + k * c, none⟩) c c]) hr1.lp (by rw [hrc]; simpa using hps.symm)
  rw [hrc] at hy
  refine ⟨fn, _, assign, body, hy, roundIn_of_wpIn hfn (hassign _ k W _ ⟨_, run_beginRound hr1.lp (by rw [hrc]), ?_⟩)⟩
  have hr2 := hr1.put { rc .ready none with state := .busy }
  have hsz : w.heap.size ≤ (W.putObj (w.heap.size + 1) (.loop { rc .ready none with state := .busy })).heap.size := by
   have := (Array.getElem?_eq_some_iff.1 hr2.lp).1
   omega
  refine wpIn_mono (hbody (w.heap.size + 1) k _ hk hsz (own_put (hI k) hi1 hr1)) ?_
  rintro e a3 W3 hp
  have fin : ∀ (jump : Option Code), KeepsFrom w.heap.size (W.putObj (w.heap.size + 1) (.loop { rc .ready none with state := .busy })) W3 →
    (Instr.endRound (w.heap.size + 1) jump).run Tryz.prog W3 = .ok (.bool jump.isNone) (W3.putObj (w.heap.size + 1) (.loop (rc (if jump.isNone then .ready else .done) jump))) := fun jump hk => by
   have hl3 := (hr2.kept hk).lp
   rw [hrc] at hl3
   have := run_endRound (P := Tryz.prog) jump hl3
   rw [hrc]
   exact this
  cases e with
  | normal =>
   obtain ⟨hk, hi3⟩ := hp
   exact ⟨_, _, fin none hk, rfl, own_put (hI _) hi3 (hr2.kept hk), (hr2.kept hk).put _⟩
  | ret => exact hp.2.2.elim
  | exit id => exact hp.2.2.elim
  | goto t => exact hp.elim
  | panic ch => exact hp.elim
  | outgrown => exact hp.elim
 have hen : (Instr.enterLoop fn a.tmps ps assign body Fence.wide.round).run Tryz.prog w = .ok (w.heap.size + 1, [{ target := .collected w.heap.size, args := #[] }]) W1 := by
  rw [hW1, hrc]; exact run_enterLoop_outer _ _ _ _ _
 refine ⟨w.heap.size + 1, [{ target := .collected w.heap.size, args := #[] }], W1, { target := .fn (.func 163) #[.pointer (some ⟨p1, 0, none⟩), .pointer (some ⟨p2, 0, none⟩)], args := #[.func (.yield (w.heap.size + 1)) #[] #[]] }, W1, 163,
  #[.func (.yield (w.heap.size + 1)) #[] #[]] ++ #[.pointer (some ⟨p1, 0, none⟩), .pointer (some ⟨p2, 0, none⟩)], W1, hen, ?_, fun _ _ => trivial, ?_, fun _ => by omega, ?_⟩
 ·simp only [resolve, hg]
  simp [go_sem]
 ·simp [invoke, go_sem, enters_of Tryz.func163 (by kernel_rfl) rfl]
 refine hgo.mono ?_
 rintro e W2 ⟨⟨v, rfl⟩, hi2, hr2⟩
 exact ⟨none, _, by have := run_endLoop (P := Tryz.prog) hr2.lp (by rw [hrc]; simp); rw [hrc] at this; exact this, hdone _ _ (Nat.le_refl _) (own_put (hI _) hi2 hr2) (hr2.put _).defd⟩
theorem c135 (b off N cap c : Nat) (h1 : 1 ≤ c) (w : World) :
  Calls Tryz.prog 135 #[.slice (some ⟨b, off, none⟩) N cap, .int .i64 c] w fun en w' => en = .returned (.func (.func 163) #[] #[.pointer (some ⟨w.heap.size, 0, none⟩), .pointer (some ⟨w.heap.size + 1, 0, none⟩)]) ∧ w' = (w.alloc (Obj.cells #[.slice (some ⟨b, off, none⟩) N cap] 22)).alloc (Obj.cells #[.int .i64 c] 3) := by
 have hd : decide ((c : Int) < 1) = false := by simp; omega
 go_enter Tryz.func135, Tryz.ntmps135
 go_wp2
 go_ret
 exact ⟨rfl, rfl⟩
end Go.Proofs.YtdimmlljjmmdbaaGreatDoor
/- A region that draws its order, whose last operation waits for all others and may write what they read. -/
namespace Go
open Go.RowKit
section
variable {P : Program} {ops : Array Oper} {md : Region.Mode} {C : World → Prop} {Q : Exit → Act → World → Prop} {L : Nat}
def Region.waitsB (md : Region.Mode) (ops : Array Oper) (L i : Nat) : Bool := match ops[L]? with
 | some o => o.after.any (fun e => Region.binds md e && e.on == i)
 | none => false
def wpAnyL (P : Program) (md : Region.Mode) (ops : Array Oper) (C : World → Prop) (Q : Exit → Act → World → Prop) (L : Nat) : Nat → Array Bool → Act → World → Prop
 | 0, listed, a, w => Region.ready md ops listed = [] ∧ Q .normal a w
 | fuel + 1, listed, a, w =>
  (Region.ready md ops listed = [] → Q .normal a w) ∧
  ∀ i ∈ Region.ready md ops listed, wpOp P ops Q i (fun a' w' => (i ≠ L → C w') ∧ ∀ w'', Below w'.heap.size w' w'' → wpAnyL P md ops C Q L fuel (listed.setIfInBounds i true) a' w'') a w
theorem wpAny_of_L : ∀ (fuel : Nat) (listed : Array Bool) (a : Act) (w : World), wpAnyL P md ops C Q L fuel listed a w → wpAny P md ops Q fuel listed a w
 | 0, _, _, _, h => h
 | fuel + 1, _, _, _, h => ⟨h.1, fun i hi => wpOp_mono (fun a' w' h' => wpAny_of_L fuel _ a' w' (h'.2 w' (Below.refl _ _))) (h.2 i hi)⟩
theorem wpAnyL_first (hCg : ∀ w w', C w → Below w.heap.size w w' → C w') {i : Nat} {oi : Oper} {v : Value} (hi : ops[i]? = some oi) (hsel : ∀ (j : Nat) (o : Oper) cs b, ops[j]? = some o → o.op ≠ .select cs b)
  (hQ : ∀ c a d v w, Q (.panic c) (a.put d v) w → Q (.panic c) a w) (hL : Region.waitsB md ops L i = true) :
  ∀ (fuel : Nat) (listed : Array Bool) (a : Act) (w : World),
   (∀ j oj, ops[j]? = some oj → j ≠ i → listed.getD j true = false → (∀ e ∈ oj.after, Region.binds md e = true → e.on ≠ i) → oi.apart ops oj = true) →
   i ∈ Region.ready md ops listed → SoftIn P ops C oi v a → C w →
   (∀ w', Below w.heap.size w w' → wpAnyL P md ops C Q L fuel (listed.setIfInBounds i true) (a.put oi.dst v) w') → wpAnyL P md ops C Q L (fuel + 1) listed a w := by
 intro fuel
 induction fuel with
 | zero =>
  intro listed a w _ hr hy hC H
  refine ⟨fun h => (by rw [h] at hr; cases hr), fun j hj => ?_⟩
  by_cases hji : j = i
  ·subst hji
   exact hy.wpOp hi hC fun w' hw' => ⟨fun _ => hCg _ _ hC hw', fun w'' hw'' => H w'' (hw'.trans (hw''.mono hw'.size))⟩
  ·have := ready_mono hj hji
   rw [(H w (Below.refl _ _)).1] at this
   cases this
 | succ fuel ih =>
  intro listed a w hfree hr hy hC H
  refine ⟨fun h => (by rw [h] at hr; cases hr), fun j hj => ?_⟩
  by_cases hji : j = i
  ·subst hji
   exact hy.wpOp hi hC fun w' hw' => ⟨fun _ => hCg _ _ hC hw', fun w'' hw'' => H w'' (hw'.trans (hw''.mono hw'.size))⟩
  ·have h1 := (H w (Below.refl _ _)).2 j (ready_mono hj hji)
   obtain ⟨hjun, oj, hoj, hall⟩ := mem_ready.1 hj
   have hnot : ∀ e ∈ oj.after, Region.binds md e = true → e.on ≠ i := fun e he hb heq => by
    have h1 := hall e he hb
    have h0 := (mem_ready.1 hr).1
    rw [heq] at h1
    rcases Nat.lt_or_ge i listed.size with h' | h'
    ·simp [h'] at h0 h1; rw [h0] at h1; cases h1
    ·simp [Array.getElem?_eq_none h'] at h1
   have hjL : j ≠ L := fun e => by
    unfold Region.waitsB at hL
    rw [← e, hoj] at hL
    obtain ⟨x, hx, hxx⟩ := Array.any_eq_true'.1 hL
    rw [Bool.and_eq_true] at hxx
    exact hnot x hx hxx.1 (by simpa using hxx.2)
   have h2 := wpOp_putSoft hoj (hfree j oj hoj hji hjun hnot) (fun cs b => hsel i oi cs b hi) (fun cs b => hsel j oj cs b hoj) hQ hy h1
   have hfree' : ∀ k ok, ops[k]? = some ok → k ≠ i → (listed.setIfInBounds j true).getD k true = false →
     (∀ e ∈ ok.after, Region.binds md e = true → e.on ≠ i) → oi.apart ops ok = true := fun k ok hk hki hun hno => by
    refine hfree k ok hk hki ?_ hno
    by_cases hjk : j = k
    ·subst hjk; exact hjun
    ·rw [getD_set_ne true hjk] at hun; exact hun
   refine wpOp_mono (fun a' w' h3 => ⟨fun _ => h3.2.1 hjL, fun w'' hw'' => ih (listed.setIfInBounds j true) a' w'' hfree' (ready_mono hr (Ne.symm hji)) h3.1 (hCg _ _ (h3.2.1 hjL) hw'') ?_⟩) h2
   intro w3 hw3
   rw [Array.setIfInBounds_comm _ _ hji]
   exact h3.2.2 w3 (hw''.trans (hw3.mono hw''.size))
def Region.planLB (md : Region.Mode) (ops : Array Oper) (L : Nat) : List (Nat × Bool) → Array Bool → Bool
 | [], listed => (Region.ready md ops listed) == [L] && (Region.ready md ops (listed.setIfInBounds L true)).isEmpty
 | (i, true) :: p, listed => (Region.ready md ops listed).contains i && Region.free md ops listed i && Region.waitsB md ops L i && Region.planLB md ops L p (listed.setIfInBounds i true)
 | (i, false) :: p, listed => (Region.ready md ops listed) == [i] && Region.planLB md ops L p (listed.setIfInBounds i true)
def wpPlanL (P : Program) (ops : Array Oper) (C : World → Prop) (Q : Exit → Act → World → Prop) (L : Nat) : List (Nat × Bool) → Act → World → Prop
 | [], a, w => ∃ o, ops[L]? = some o ∧ Region.wanted o (yielded ops a.tmps) = true ∧ o.wp P a w (fun a' w' => ∀ w'', Below w'.heap.size w' w'' → Q .normal a' w'') Q
 | (i, true) :: p, a, w => ∃ o v, ops[i]? = some o ∧ SoftIn P ops C o v a ∧ ∀ w'', Below w.heap.size w w'' → wpPlanL P ops C Q L p (a.put o.dst v) w''
 | (i, false) :: p, a, w => ∃ o, ops[i]? = some o ∧ if Region.wanted o (yielded ops a.tmps) then o.wp P a w (fun a' w' => C w' ∧ ∀ w'', Below w'.heap.size w' w'' → wpPlanL P ops C Q L p a' w'') Q
  else ∀ w'', Below w.heap.size w w'' → wpPlanL P ops C Q L p (a.put o.dst undef) w''
theorem wpAnyL_plan (hCg : ∀ w w', C w → Below w.heap.size w w' → C w') (hs : Region.noSelect ops = true) (hQ : ∀ c a d v w, Q (.panic c) (a.put d v) w → Q (.panic c) a w) :
  ∀ (p : List (Nat × Bool)) (listed : Array Bool) (a : Act) (w : World), C w → Region.planLB md ops L p listed = true → wpPlanL P ops C Q L p a w → wpAnyL P md ops C Q L (p.length + 1) listed a w
 | [], listed, a, w, _, hB, h => by
  obtain ⟨o, ho, hw, h⟩ := h
  simp only [Region.planLB, Bool.and_eq_true, beq_iff_eq] at hB
  obtain ⟨hr, hE⟩ := hB
  refine ⟨fun h => (by rw [hr] at h; cases h), fun j hj => ?_⟩
  rw [hr] at hj
  obtain rfl := List.mem_singleton.1 hj
  unfold wpOp
  rw [ho]
  show if Region.wanted o (yielded ops a.tmps) = true then _ else _
  rw [if_pos hw]
  exact .inl (Oper.wp_mono (fun a' w' h' => ⟨fun hne => absurd rfl hne, fun w'' hw'' => ⟨by simpa using hE, h' w'' hw''⟩⟩) h)
 | (i, true) :: p, listed, a, w, hC, hB, h => by
  obtain ⟨o, v, ho, hy, hK⟩ := h
  simp only [Region.planLB, Bool.and_eq_true] at hB
  obtain ⟨⟨⟨hr, hf⟩, hL⟩, hB'⟩ := hB
  have hr' : i ∈ Region.ready md ops listed := by simpa using hr
  exact wpAnyL_first hCg ho (Region.noSelect_spec hs) hQ hL (p.length + 1) listed a w (Region.free_spec ho hf) hr' hy hC fun w' hw' => wpAnyL_plan hCg hs hQ p _ _ w' (hCg _ _ hC hw') hB' (hK w' hw')
 | (i, false) :: p, listed, a, w, hC, hB, h => by
  obtain ⟨o, ho, h⟩ := h
  simp only [Region.planLB, Bool.and_eq_true, beq_iff_eq] at hB
  obtain ⟨hr, hB'⟩ := hB
  refine ⟨fun h => (by rw [hr] at h; cases h), fun j hj => ?_⟩
  rw [hr] at hj
  obtain rfl := List.mem_singleton.1 hj
  unfold wpOp
  rw [ho]
  show if Region.wanted o (yielded ops a.tmps) = true then _ else _
  split
  ·rename_i hw
   rw [if_pos hw] at h
   exact .inl (Oper.wp_mono (fun a' w' h' => ⟨fun _ => h'.1, fun w'' hw'' => wpAnyL_plan hCg hs hQ p _ a' w'' (hCg _ _ h'.1 hw'') hB' (h'.2 w'' hw'')⟩) h)
  ·rename_i hw
   rw [if_neg hw] at h
   exact ⟨fun _ => hC, fun w'' hw'' => wpAnyL_plan hCg hs hQ p _ _ w'' (hCg _ _ hC hw'') hB' (h w'' hw'')⟩
def wpPlanLA (P : Program) (ops : Array Oper) (C : World → Prop) (Q : Exit → Act → World → Prop) (L : Nat) (p : List (Nat × Bool)) (a : Act) (W0 : World) : Prop :=
 ∀ w'', Below W0.heap.size W0 w'' → wpPlanL P ops C Q L p a w''
theorem wpAny_planL {a : Act} {W : World} (p : List (Nat × Bool)) (B L : Nat)
  (hB : (p.length + 1 == ops.size && Region.noSelect ops && Region.planLB .any ops L p (Array.replicate ops.size false)) = true) (hBW : B ≤ W.heap.size)
  (hQ : ∀ c a d v w, Q (.panic c) (a.put d v) w → Q (.panic c) a w)
  (h : wpPlanLA P ops (Below B W) Q L p a W) : wpAny P .any ops Q ops.size (Array.replicate ops.size false) a { W with drawn := W.drawn + 1 } := by
 simp only [Bool.and_eq_true, beq_iff_eq] at hB
 obtain ⟨⟨hlen, hs⟩, hP⟩ := hB
 have hCg : ∀ w w', Below B W w → Below w.heap.size w w' → Below B W w' := fun w w' h1 h2 => h1.trans (h2.mono (Nat.le_trans hBW h1.size))
 have := wpAnyL_plan (P := P) (Q := Q) (C := Below B W) (md := .any) (ops := ops) hCg hs hQ p (Array.replicate ops.size false) a { W with drawn := W.drawn + 1 } ((Below.refl B W).drew) hP (h _ ((Below.refl _ W).drew))
 rw [hlen] at this
 exact wpAny_of_L _ _ _ _ this
theorem wp_region_planL {id : Nat} {a : Act} {W : World} (p : List (Nat × Bool)) (B L : Nat) (hm : P.follows .mixedOrders = true)
  (hB : (p.length + 1 == ops.size && Region.noSelect ops && Region.planLB .any ops L p (Array.replicate ops.size false)) = true) (hBW : B ≤ W.heap.size)
  (hQ : ∀ c a d v w, Q (.panic c) (a.put d v) w → Q (.panic c) a w)
  (h : wpPlanLA P ops (Below B W) Q L p a W) : (Code.region id ops true).wp P Q a W := wp_region_any hm (wpAny_planL p B L hB hBW hQ h)
theorem wpIn_region_planL {id n lr : Nat} {a : Act} {W : World} (p : List (Nat × Bool)) (B L : Nat) (hm : P.follows .mixedOrders = true)
  (hB : (p.length + 1 == ops.size && Region.noSelect ops && Region.planLB .any ops L p (Array.replicate ops.size false)) = true) (hnd : Region.noDefer ops = true) (hQl : ¬ LetsOut Q) (hBW : B ≤ W.heap.size)
  (hQ : ∀ c a d v w, Q (.panic c) (a.put d v) w → Q (.panic c) a w)
  (h : wpPlanLA P ops (Below B W) Q L p a W) : (Code.region id ops true).wpIn (Fence.wide.inRound lr) n P Q a W := wpIn_region_any hm (wpAnyIn_of hnd hQl _ _ _ _ (wpAny_planL p B L hB hBW hQ h))
theorem wpPlanLA_soft {l : List Oper} {B i : Nat} {W W0 : World} {p : List (Nat × Bool)} {a : Act} (o : Oper) (v : Value) (ho : l[i]? = some o) (hw : Region.wanted o (yielded l.toArray a.tmps) = true)
  (hv : ∀ w, Below B W w → (∀ b o, b < B → w.cell? ⟨b, o, none⟩ = W.cell? ⟨b, o, none⟩) → o.softAt P a w v)
  (h : wpPlanLA P l.toArray (Below B W) Q L p (a.put o.dst v) W0) : wpPlanLA P l.toArray (Below B W) Q L ((i, true) :: p) a W0 :=
 fun w hg => ⟨o, v, by rw [List.getElem?_toArray]; exact ho, .inl ⟨hw, fun w hb => hv w hb (fun b o h => hb.cell (p := ⟨b, o, none⟩) h)⟩, fun w2 hg2 => h w2 (hg.trans (hg2.mono hg.size))⟩
theorem wpPlanLA_hard {l : List Oper} {i : Nat} {p : List (Nat × Bool)} {a : Act} {W0 : World} (o : Oper) (ho : l[i]? = some o) (hw : Region.wanted o (yielded l.toArray a.tmps) = true)
  (h : ∀ w, Below W0.heap.size W0 w → ∀ K : Act → World → Prop, (∀ a w, C w → wpPlanLA P l.toArray C Q L p a w → K a w) → o.wp P a w K Q) : wpPlanLA P l.toArray C Q L ((i, false) :: p) a W0 :=
 fun w hg => ⟨o, by rw [List.getElem?_toArray]; exact ho, by rw [if_pos hw]; exact h w hg _ fun _ _ h1 h2 => ⟨h1, h2⟩⟩
theorem wpPlanLA_last {l : List Oper} {a : Act} {W0 : World} (o : Oper) (ho : l[L]? = some o) (hw : Region.wanted o (yielded l.toArray a.tmps) = true)
  (h : ∀ w, Below W0.heap.size W0 w → ∀ K : Act → World → Prop, (∀ a w, (∀ w'', Below w.heap.size w w'' → Q .normal a w'') → K a w) → o.wp P a w K Q) : wpPlanLA P l.toArray C Q L [] a W0 :=
 fun w hg => ⟨o, by rw [List.getElem?_toArray]; exact ho, hw, h w hg _ fun _ _ h1 => h1⟩
end
end Go
namespace Go.Proofs.YtdimmlljjmmdbaaGreatDoor
open Go.RowKit Go.Shelf
set_option maxHeartbeats 8000000
set_option maxRecDepth 100000
attribute [local go_sem] Oper.semAt_some
/-- a part of a slice -/
theorem RdI.seg {w : World} {b off n : Nat} {l : List Int} (h : RdI w (some ⟨b, off, none⟩) n l) (k m : Nat) (hk : k + m ≤ n) : RdI w (some ⟨b, off + k, none⟩) m ((l.drop k).take m) := by
 have hl := h.len
 refine ⟨by simp [encI]; omega, fun hm => ?_⟩
 obtain ⟨b', off', e, hb, hc⟩ := h.2 (by omega)
 cases e
 refine ⟨b, off + k, rfl, hb, fun j hj => ?_⟩
 have hj2 : j < m := Nat.lt_of_lt_of_le (show j < min m (l.length - k) by simpa [encI] using hj) (Nat.min_le_left _ _)
 have := hc (k + j) (by simp [encI]; omega)
 rw [show off + k + j = off + (k + j) by omega, this]
 simp [encI, hj2]
namespace Im
def rowK (c : Nat) (l : List Int) (k : Nat) : List Int := (l.drop (k * c)).take c
end Im
def prT (f : Int → ByteArray) (c : Nat) (l : List Int) (h : ByteArray) : Nat → ByteArray
 | 0 => h
 | k + 1 => prT f c l h k ++ lineB { data := #[114, 111, 119] } ((Im.rowK c l k).map f)
theorem lens_le (m : Nat) : ∀ (xs : List (List UInt8)), (∀ x ∈ xs, x.length ≤ m) → Lib.lens xs ≤ m * xs.length
 | [], _ => by simp [Lib.lens]
 | x :: xs, h => by
  have h1 := lens_le m xs (fun y hy => h y (List.mem_cons_of_mem _ hy))
  have h2 := h x (List.mem_cons_self ..)
  simp only [Lib.lens, List.map_cons, List.sum_cons, List.length_cons] at h1 ⊢
  rw [Nat.mul_add]; omega
theorem line_len (word : ByteArray) (f : Int → ByteArray) (l : List Int) (hw : word.size ≤ 20) (hl : l.length ≤ 1000) (hf : ∀ x ∈ l, (f x).size ≤ 20) : (Lib.join ((word :: l.map f).map (·.data.toList)) [32]).length ≤ 1000000 := by
 rw [List.map_cons, Lib.join_length]
 have := lens_le 20 (word.data.toList :: (l.map f).map (·.data.toList)) (fun x hx => by
  rcases List.mem_cons.1 hx with rfl | hx
  ·exact hw
  ·simp only [List.map_map, List.mem_map] at hx
   obtain ⟨y, hy, rfl⟩ := hx
   exact hf y hy)
 simp only [List.length_cons, List.length_map, List.length_nil] at this ⊢
 omega
theorem lineB_size (word : ByteArray) (xs : List ByteArray) : (lineB word xs).size = (Lib.join ((word :: xs).map (·.data.toList)) [32]).length + 1 := by
 unfold lineB
 rw [ByteArray.size_append]
 rfl
theorem prT_size (f : Int → ByteArray) (c : Nat) (l : List Int) (h : ByteArray) (hf : ∀ x ∈ l, (f x).size ≤ 20) (hc : c ≤ 1000) : ∀ k, (prT f c l h k).size ≤ h.size + k * 1000001
 | 0 => by simp [prT]
 | k + 1 => by
  have h1 := prT_size f c l h hf hc k
  have h2 := line_len { data := #[114, 111, 119] } f (Im.rowK c l k) (by decide) (by unfold Im.rowK; rw [List.length_take]; omega) (fun x hx => hf x (List.mem_of_mem_drop (List.mem_of_mem_take hx)))
  unfold prT
  rw [ByteArray.size_append, lineB_size]
  omega
theorem c81_ok (c r b off n cap : Nat) (l : List Int) (f : Int → ByteArray) (w : World) (g : Im.Gr c r l) (hc : c ≤ 16) (hr : r ≤ 16) (hcap : n ≤ cap) (H : RdI w (some ⟨b, off, none⟩) n l)
  (hcl : ∀ (W : World) (x : Int), x ∈ (c : Int) :: (r : Int) :: l → Calls Tryz.prog 162 #[.int .i64 x] W fun e w' => e = .returned (.string (f x)) ∧ w' = W) (hf : ∀ x ∈ (c : Int) :: (r : Int) :: l, (f x).size ≤ 20) :
  Calls Tryz.prog 81 #[.agg #[.int .i64 c, .int .i64 r, .slice (some ⟨b, off, none⟩) n cap]] w fun en w' => en = .returned (.tuple #[.string (prT f c l (lineB { data := #[103, 114, 111, 117, 110, 100] } [f c, f r]) r), .int .i64 0]) ∧ Below w.heap.size w w' := by
 have hln := H.len
 have hcl1 := g.c1
 have hlr := g.len
 have h256 : c * r ≤ 256 := Nat.mul_le_mul hc hr
 have hz := Mo.ground_of g hc hr
 obtain ⟨T0, hT00⟩ : ∃ T, T = lineB { data := #[103, 114, 111, 117, 110, 100] } [f c, f r] := ⟨_, rfl⟩
 rw [← hT00]
 have HT00 := Lib.hid hT00
 clear hT00
 refine (callsIn_wide (n := 6)).1 ?_
 refine callsIn_of_wp_marks Tryz.func81 rfl trivial ?_ rfl
 refine wpIn_wide.2 ?_
 simp only [Tryz.ntmps81, List.size_toArray, List.length_cons, List.length_nil, Nat.reduceAdd, Nat.reduceSub, Array.replicate_succ, Array.replicate_zero, List.push_toArray, List.append_toArray, List.nil_append, List.cons_append]
 obtain ⟨w0, hW⟩ : ∃ W, W = w.alloc (Obj.cells #[.int .i64 c, .int .i64 r, .slice (some ⟨b, off, none⟩) n cap] 35) := ⟨_, rfl⟩
 have hT0 : w0.heap[w.heap.size]? = some (.cells #[.int .i64 c, .int .i64 r, .slice (some ⟨b, off, none⟩) n cap] 35 (0, 0)) := by rw [hW]; exact heap_new (by simp)
 have hB0 : Below w.heap.size w w0 := by rw [hW]; exact (Below.refl _ _).alloc (Nat.le_refl _) _
 have H0 := H.below hB0
 have HCL := Lib.hid hcl
 have HF := Lib.hid hf
 have HG := Lib.hid hlr
 have HLN := Lib.hid hln
 have HRD := Lib.hid H
 clear hcl hf hlr H hln
 go_wp2_with fail
 rw [← hW]
 clear hW
 refine (c64 c r (some ⟨b, off, none⟩) n cap l _ (by have := HG.out; have := HLN.out; omega) H0).mono ?_
 rintro e w1 ⟨rfl, hb1⟩
 rw [hz]
 have hB1 := hB0.call hb1 rfl
 have H1 := H0.below hb1
 replace hT0 := blkb hT0 hb1
 have q0 : w1.cell? ⟨w.heap.size, 0, none⟩ = some (.int .i64 c) := cell_at hT0 rfl
 have q1 : w1.cell? ⟨w.heap.size, 1, none⟩ = some (.int .i64 r) := cell_at hT0 rfl
 clear hb1 hB0 H0
 go_wp2_with fail
 obtain ⟨w2, hW⟩ : ∃ W, W = w1.alloc (Obj.cells #[.int .i64 c, .int .i64 r] 3) := ⟨_, rfl⟩
 have hTs : w2.heap[w1.heap.size]? = some (.cells #[.int .i64 c, .int .i64 r] 3 (0, 0)) := by rw [hW]; exact heap_new (by simp)
 have hb2 : Below w1.heap.size w1 w2 := by rw [hW]; exact (Below.refl _ _).alloc (Nat.le_refl _) _
 rw [← hW]
 clear hW
 have hB2 := hB1.call hb2 rfl
 have H2 := H1.below hb2
 replace hT0 := blkb hT0 hb2
 clear hb2 hB1 H1 q0 q1
 have HT := line_len { data := #[103, 114, 111, 117, 110, 100] } f [(c : Int), (r : Int)] (by decide) (by simp) (fun x hx => HF.out x (by simp at hx ⊢; omega))
 refine (c134 { data := #[103, 114, 111, 117, 110, 100] } (some ⟨w1.heap.size, 0, none⟩) 2 2 [(c : Int), (r : Int)] f _ (by omega) (RdS.of_block (cs := encI [(c : Int), (r : Int)]) hTs rfl) (fun W x hx => HCL.out W x (by simp at hx ⊢; omega)) HT).mono ?_
 rintro e w3 ⟨rfl, hb3⟩
 clear hTs
 have hB3 := hB2.call hb3 rfl
 have H3 := H2.below hb3
 replace hT0 := blkb hT0 hb3
 clear hb3 hB2 H2
 have HTS : Hid (T0.size ≤ 1000001) := Lib.hid (by rw [HT00.out, lineB_size]; exact Nat.succ_le_succ HT)
 rw [show lineB { data := #[103, 114, 111, 117, 110, 100] } ([(c : Int), (r : Int)].map f) = T0 from HT00.out.symm]
 clear HT
 have q0 : w3.cell? ⟨w.heap.size, 0, none⟩ = some (.int .i64 c) := cell_at hT0 rfl
 have q2 : w3.cell? ⟨w.heap.size, 2, none⟩ = some (.slice (some ⟨b, off, none⟩) n cap) := cell_at hT0 rfl
 have hlw := cell_lt q0
 go_wp2_with fail
 refine (c135 b off n cap c hcl1 _).mono ?_
 rintro e w4 ⟨rfl, hw4⟩
 obtain ⟨ob, hob⟩ : ∃ b, b = w3.heap.size := ⟨_, rfl⟩
 obtain ⟨p1, hp1⟩ : ∃ b, b = ob + 1 := ⟨_, rfl⟩
 obtain ⟨p2, hp2⟩ : ∃ b, b = ob + 1 + 1 := ⟨_, rfl⟩
 have hs1 : (w3.alloc (Obj.cells #[.string T0] 9)).heap.size = p1 := by simp; omega
 rw [hs1, show p1 + 1 = p2 by omega]
 have k0 : w4.heap[ob]? = some (.cells #[.string T0] 9 (0, 0)) := by rw [hw4]; exact heap_old (by simp; omega) (heap_old (by simp; omega) (heap_new hob))
 have k1 : w4.heap[p1]? = some (.cells #[.slice (some ⟨b, off, none⟩) n cap] 22 (0, 0)) := by rw [hw4]; exact heap_old (by simp; omega) (heap_new hs1.symm)
 have k2 : w4.heap[p2]? = some (.cells #[.int .i64 c] 3 (0, 0)) := by rw [hw4]; exact heap_new (by simp; omega)
 have hb4 : Below w3.heap.size w3 w4 := by rw [hw4]; exact (below2 _ _ _).alloc (by simp; omega) _
 have hB4 := hB3.call hb4 rfl
 have hsz := hB4.size
 have HWO : Hid (w.heap.size ≤ ob) := Lib.hid (by rw [hob]; exact hB3.size)
 obtain ⟨bs, hbs⟩ : ∃ bs : ByteArray → List (Nat × Array Value × TypeId), bs = fun T => [(ob, #[.string T], 9), (p1, #[.slice (some ⟨b, off, none⟩) n cap], 22), (p2, #[.int .i64 c], 3)] := ⟨_, rfl⟩
 have I0 : BI w [] (bs T0) True w4 := by
  refine ⟨Marks.nil _ _, fun x hx => ?_, hB4, trivial⟩
  rw [hbs] at hx
  simp only [List.mem_cons, List.not_mem_nil, or_false] at hx
  rcases hx with rfl | rfl | rfl
  ·exact k0
  ·exact k1
  ·exact k2
 rw [← hob]
 have HBS := Lib.hid hbs
 have HR0 : Hid (RdI w (some ⟨b, off, none⟩) n l) := HRD
 have hob2 := Lib.hid (⟨by omega, by omega⟩ : p1 ≠ ob ∧ p2 ≠ ob)
 have hord := Lib.hid hsz
 clear hw4 hs1 hp1 hp2 hob k0 k1 k2 hb4 hB4 hB3 H3 hT0 q0 q2 hbs
 go_wp2
 have HNR : Hid (n = r * c) := Lib.hid (by rw [← HLN.out, HG.out, Nat.mul_comm])
 refine (wpIn_wide (n := 6)).1 ?_
 refine wpIn_chunks (n := 6) (by omega) (p1 := p1) (p2 := p2) (b := b) (off := off) (cap := cap) (N := n) (c := c) (r := r) hcl1 (by omega) (by omega) HNR.out hcap rfl rfl (fun k W => BI w [] (bs (prT f c l T0 k)) True W)
  (fun k => BI.own hsz (fun _ h => by cases h))
  (fun k W h => ⟨cell_at (h.blk (p1, #[.slice (some ⟨b, off, none⟩) n cap], 22) (by rw [HBS.out]; simp)) rfl, cell_at (h.blk (p2, #[.int .i64 c], 3) (by rw [HBS.out]; simp)) rfl⟩) I0
  (fun k => { tmps := #[.agg #[.int .i64 c, .int .i64 r, .slice (some ⟨b, off, none⟩) n cap], .pointer (some ⟨w.heap.size, 0, none⟩), .string { data := #[] }, .int .i64 0, .int .i64 0, .pointer (some ⟨ob, 0, none⟩), .slice (some ⟨b, off + k * c, none⟩) c c, .agg #[.int .i64 c, .int .i64 r, .slice (some ⟨b, off, none⟩) n cap], .int .i64 0, .int .i64 0, .bool false, undef, .pointer (some ⟨w.heap.size, 0, none⟩), .int .i64 c, .pointer (some ⟨w.heap.size, 1, none⟩), .int .i64 r, .slice (some ⟨w1.heap.size, 0, none⟩) 2 2, .string T0, .pointer (some ⟨w.heap.size, 2, none⟩), .slice (some ⟨b, off, none⟩) n cap, .pointer (some ⟨w.heap.size, 0, none⟩), .int .i64 c, .func (.func 163) #[] #[.pointer (some ⟨p1, 0, none⟩), .pointer (some ⟨p2, 0, none⟩)], .slice (some ⟨b, off + k * c, none⟩) c c, undef, undef, undef, undef, undef], defers := [] }) ?assign ?body ?done
 case assign =>
  intro lr k W K hK
  have HK := Lib.hid hK
  clear hK
  gi_wp2
  exact HK.out
 case done =>
  intro D W hD hI hK
  have k0 : W.heap[ob]? = some (.cells #[.string (prT f c l T0 r)] 9 (0, 0)) := hI.blk (ob, _, _) (by rw [HBS.out]; simp)
  have c0 : W.cell? ⟨ob, 0, none⟩ = some (.string (prT f c l T0 r)) := cell_at k0 rfl
  have hM : Marks w.heap.size [D] W := (Marks.nil _ w).push (Marks.nil _ W) (Nat.le_refl _) (Nat.le_trans hord.out hD) hK
  have HM := Lib.hid hM
  have HI := Lib.hid hI
  clear hI hM hK
  go_wp2
  refine leaves_marks [D] W W HM.out (Aft.refl _ _) rfl (fun w' ha => ?_)
  refine ⟨.tuple #[.string (prT f c l T0 r), .int .i64 0], by simp [results, Tryz.results81, go_sem], ?_⟩
  exact ⟨rfl, ha.2 w HI.out.bel.size HI.out.bel⟩
 case body =>
  intro lr k W hk hsz2 hI
  have k0 : W.heap[ob]? = some (.cells #[.string (prT f c l T0 k)] 9 (0, 0)) := hI.blk (ob, _, _) (by rw [HBS.out]; simp)
  have c0 : W.cell? ⟨ob, 0, none⟩ = some (.string (prT f c l T0 k)) := cell_at k0 rfl
  have f0 := free_at k0 (i := 0)
  have l0 := cell_lt c0
  have HRW := HR0.out.below hI.bel
  have HI := Lib.hid hI
  have HK0 := Lib.hid k0
  obtain ⟨T1, hT1⟩ : ∃ T, T = prT f c l T0 k := ⟨_, rfl⟩
  rw [← hT1] at c0
  have HT1 := Lib.hid hT1
  have hkc : k * c + c ≤ n := by
   rw [HNR.out]
   have : (k + 1) * c ≤ r * c := Nat.mul_le_mul hk (Nat.le_refl _)
   rw [Nat.add_mul] at this
   omega
  have hseg : Hid (RdI W (some ⟨b, off + k * c, none⟩) c (Im.rowK c l k)) := Lib.hid (HRW.seg (k * c) c hkc)
  have hmem : Hid (∀ x ∈ Im.rowK c l k, x ∈ (c : Int) :: (r : Int) :: l) := Lib.hid (fun x hx => by
   have := List.mem_of_mem_drop (List.mem_of_mem_take hx)
   simp [this])
  have HLC : Hid ((Lib.join (({ data := #[114, 111, 119] } :: (Im.rowK c l k).map f).map (·.data.toList)) [32]).length ≤ 1000000) := Lib.hid (line_len _ f _ (by decide) (by have := hseg.out.len; omega) (fun x hx => HF.out x (hmem.out x hx)))
  clear hI k0 hT1 HRW
  gi_wp2
  refine wpIn_region_planL [(0, true), (1, true), (2, false), (3, false)] W.heap.size 4 (by kernel_rfl) (by kernel_rfl) (by kernel_rfl) (fun ⟨_, _, h⟩ => h) (Nat.le_refl _) (fun _ _ d _ _ h => by cases d <;> exact h) ?_
  have hC : Below W.heap.size W W := Below.refl _ _
  repeat (first | (refine wpPlanLA_skip _ rfl (by rfl) ?_; simp only [Act.put, List.setIfInBounds_toArray, List.set_cons_zero, List.set_cons_succ]) | (refine wpPlanLA_soft _ ?_ rfl (by rfl) ?_ ?_; rotate_left; (intro wq hq hcq; go_simp; first | exact rfl | exact ⟨rfl, rfl⟩); simp only [Act.put, List.setIfInBounds_toArray, List.set_cons_zero, List.set_cons_succ]))
  refine wpPlanLA_hard _ rfl (by rfl) (fun w5 hS K hK => ?_)
  replace hC := hC.call hS rfl
  clear hS
  go_simp
  refine (c134 { data := #[114, 111, 119] } (some ⟨b, off + k * c, none⟩) c c (Im.rowK c l k) f _ (by omega) (hseg.out.below hC) (fun W x hx => HCL.out W x (hmem.out x hx)) HLC.out).mono ?_
  rintro e w6 ⟨rfl, hb⟩
  replace hC := hC.call hb rfl
  clear hb
  refine hK _ _ hC ?_
  clear hK K
  try simp only [Act.put, List.setIfInBounds_toArray, List.set_cons_zero, List.set_cons_succ]
  refine wpPlanLA_hard _ rfl (by rfl) (fun w5 hS K hK => ?_)
  replace hC := hC.call hS rfl
  clear hS
  go_simp
  obtain ⟨LN, hLN⟩ : ∃ L, L = lineB { data := #[114, 111, 119] } ((Im.rowK c l k).map f) := ⟨_, rfl⟩
  have hsz7 : ¬ (9223372036854775807 < T1.size + LN.size) := by
   have h1 := prT_size f c l T0 (fun x hx => HF.out x (by simp [hx])) (by omega) k
   have h2 := HLC.out
   have h3 := HTS.out
   rw [hLN, lineB_size, HT1.out]
   omega
  rw [← hLN, if_neg hsz7]
  have HLNE := Lib.hid hLN
  clear hLN hsz7
  dsimp only [Oper.upon]
  refine hK _ _ hC ?_
  clear hK K
  try simp only [Act.put, List.setIfInBounds_toArray, List.set_cons_zero, List.set_cons_succ]
  refine wpPlanLA_last _ rfl (by rfl) (fun w7 hS K hK => ?_)
  replace hC := hC.call hS rfl
  clear hS
  have k7 := blkb HK0.out hC
  have f7 := free_at k7 (i := 0)
  have l7 := cell_lt (cell_at k7 (i := 0) rfl)
  have c7 := cell_at k7 (i := 0) rfl
  have HC := Lib.hid hC
  clear hC
  go_simp
  try dsimp only [Oper.upon]
  refine hK _ _ (fun w8 hb8 => ?_)
  have hkk : KeepsFrom w4.heap.size W w8 := ((keepsF_below HC.out).trans (keepsF_set _ k7)).trans (keepsF_below hb8)
  have h7 := (HI.out.below HC.out).set (b := ob) (bs' := bs (prT f c l T0 (k + 1))) (.string (T1 ++ LN)) HWO.out k7 (fun x hx => by
   rw [HBS.out] at hx ⊢
   simp only [List.mem_cons, List.not_mem_nil, or_false] at hx
   obtain ⟨hn1, hn2⟩ := hob2.out
   rcases hx with rfl | rfl | rfl
   ·exact .inl ⟨rfl, by rw [HT1.out, HLNE.out]; rfl, rfl⟩
   ·exact .inr ⟨hn1, by simp⟩
   ·exact .inr ⟨hn2, by simp⟩)
  exact ⟨hkk, h7.below hb8⟩
end Go.Proofs.YtdimmlljjmmdbaaGreatDoor
namespace Go.Proofs.YtdimmlljjmmdbaaGreatDoor
open Go.RowKit Go.Shelf
set_option maxHeartbeats 8000000
set_option maxRecDepth 100000
theorem gr1234 : Im.Gr 2 2 [1, 2, 3, 4] := by
 refine ⟨by omega, by omega, by decide, fun i hi => ?_, fun i hi => ?_⟩
 ·match i, hi with
  | 0, _ => decide
  | 1, _ => decide
  | 2, _ => decide
  | 3, _ => decide
 ·match i, hi with
  | 0, _ => decide
  | 1, _ => decide
  | 2, _ => decide
  | 3, _ => decide
theorem prints : PrintS := by
 intro g W H
 have := c81_ok 2 2 g 0 4 4 [1, 2, 3, 4] (fun x => ⟨(Lib.decDigits x.toNat).toArray⟩) W gr1234 (by omega) (by omega) (by omega) H (fun W x hx => ?_) (fun x hx => ?_)
 ·refine this.mono (fun e w' h => ⟨?_, h.2⟩)
  rw [h.1]
  congr 5
  decide +kernel
 ·have hx2 : x ∈ ([2, 2, 1, 2, 3, 4] : List Int) := hx
  obtain ⟨i, rfl⟩ : ∃ i : Nat, x = i := ⟨x.toNat, by simp at hx2; omega⟩
  have hi : i < 100 := by simp at hx2; omega
  exact Tryz.strconv_Itoa_small i hi W
 ·have hx2 : x ∈ ([2, 2, 1, 2, 3, 4] : List Int) := hx
  simp at hx2
  rcases hx2 with rfl | rfl | rfl | rfl | rfl <;> exact (by decide +kernel)
theorem c18 (w : World) (hst : Steps w) :
  Calls Tryz.prog 18 #[] w fun en w' => en = .returned (.bool true) ∧ Below w.heap.size w w' := c18_of prints w hst
end Go.Proofs.YtdimmlljjmmdbaaGreatDoor
namespace Go.Proofs.YtdimmlljjmmdbaaGreatDoor
open Go.RowKit Go.Shelf
set_option maxHeartbeats 8000000
set_option maxRecDepth 100000
theorem c20 (c r : Int) (A : Option Addr) (n cap : Nat) (l : List Int) (w : World) (hl : n ≤ 1000000) (H : RdI w A n l) :
  Calls Tryz.prog 20 #[.agg #[.int .i64 c, .int .i64 r, .slice A n cap]] w fun en w' => ∃ B cb, en = .returned (.agg #[.int .i64 c, .int .i64 r, .slice B n cb]) ∧ RdI w' B n l ∧ n ≤ cb ∧ cb ≤ 9223372036854775807 ∧ Below w.heap.size w w' := by
 obtain ⟨w0, hW⟩ : ∃ W, W = (w.alloc (Obj.cells #[.int .i64 c, .int .i64 r, .slice A n cap] 24)).alloc (Obj.cells #[.int .i64 0, .int .i64 0, .slice none 0 0] 35) := ⟨_, rfl⟩
 have hT0 : w0.heap[w.heap.size]? = some (.cells #[.int .i64 c, .int .i64 r, .slice A n cap] 24 (0, 0)) := by rw [hW]; exact heap_old (by simp) (heap_new rfl)
 have hT1 : w0.heap[w.heap.size + 1]? = some (.cells #[.int .i64 0, .int .i64 0, .slice none 0 0] 35 (0, 0)) := by rw [hW]; exact heap_new (by simp)
 have hB0 : Below w.heap.size w w0 := by rw [hW]; exact below2 _ _ _
 have H0 := H.below hB0
 have hsz := hB0.size
 clear H
 go_enter Tryz.func20, Tryz.ntmps20
 go_wp2_with fail
 rw [← hW]
 clear hW
 have q0 : w0.cell? ⟨w.heap.size, 0, none⟩ = some (.int .i64 c) := cell_at hT0 rfl
 have q1 : w0.cell? ⟨w.heap.size, 1, none⟩ = some (.int .i64 r) := cell_at hT0 rfl
 have q2 : w0.cell? ⟨w.heap.size, 2, none⟩ = some (.slice A n cap) := cell_at hT0 rfl
 have z0 := cell_lt q0
 refine wp_region_planL [(0, true), (1, true), (2, true), (3, true), (4, true), (5, true), (6, false), (7, true)] w0.heap.size 8 (by kernel_rfl) (by kernel_rfl) (Nat.le_refl _) (fun _ _ d _ _ h => by cases d <;> exact h) ?_
 have hC : Below w0.heap.size w0 w0 := Below.refl _ _
 repeat (first | (refine wpPlanLA_skip _ rfl (by rfl) ?_; simp only [Act.put, List.setIfInBounds_toArray, List.set_cons_zero, List.set_cons_succ]) | (refine wpPlanLA_soft _ ?_ rfl (by rfl) ?_ ?_; rotate_left; (intro wq hq hcq; go_simp; first | exact rfl | exact ⟨rfl, rfl⟩); simp only [Act.put, List.setIfInBounds_toArray, List.set_cons_zero, List.set_cons_succ]))
 refine wpPlanLA_hard _ rfl (by rfl) (fun w1 hS K hK => ?_)
 replace hC := hC.call hS rfl
 clear hS
 go_simp
 refine (c22 A n cap l _ hl (H0.below hC)).mono ?_
 rintro e w2 ⟨v2, rfl, ho, hb⟩
 have hLO : w.heap.size + 1 < w1.heap.size := Nat.lt_of_lt_of_le (Array.getElem?_eq_some_iff.1 hT1).1 hC.size
 obtain ⟨B, cb, rfl⟩ := own_slice ho
 replace hC := hC.call hb rfl
 clear hb
 refine hK _ _ hC ?_
 clear hK K
 try simp only [Act.put, List.setIfInBounds_toArray, List.set_cons_zero, List.set_cons_succ]
 repeat (first | (refine wpPlanLA_skip _ rfl (by rfl) ?_; simp only [Act.put, List.setIfInBounds_toArray, List.set_cons_zero, List.set_cons_succ]) | (refine wpPlanLA_soft _ ?_ rfl (by rfl) ?_ ?_; rotate_left; (intro wq hq hcq; go_simp; first | exact rfl | exact ⟨rfl, rfl⟩); simp only [Act.put, List.setIfInBounds_toArray, List.set_cons_zero, List.set_cons_succ]))
 refine wpPlanLA_last _ rfl (by rfl) (fun w3 hS K hK => ?_)
 replace hC := hC.call hS rfl
 replace ho := own_below ho hS
 clear hS
 have hT3 := blkb hT1 hC
 refine wp_store_blk 35 _ _ rfl (w.heap.size + 1) _ rfl rfl hT3 ?s1 ?s2 ?s3 ?_
 case s1 => rfl
 case s2 => kernel_rfl
 case s3 => simp [Value.oneCell']
 intro w4 hT4 hg4 hs4
 have o4 := Own.kept ho hg4 hLO
 have hB4 := (hB0.call hC rfl).grown hg4 (hB0.call hC rfl).size (fun j hj => by cases hj; omega)
 refine hK _ _ (fun w5 hS => ?_)
 clear hK K
 replace hT4 := blkb hT4 hS
 have hB5 := hB4.call hS rfl
 obtain ⟨B', cb', e, hr, hcb, hcm, _⟩ := own_form (own_below o4 hS)
 cases e
 have HO : Hid (RdI w5 B n l ∧ n ≤ cb ∧ cb ≤ 9223372036854775807 ∧ Below w.heap.size w w5) := Lib.hid ⟨hr, hcb, hcm, hB5⟩
 clear hS hr hcb hcm hB5 hB4 hs4 o4 hg4 hT3 hC ho
 have c0 := cell_at (i := 0) hT4 rfl
 have c1 := cell_at (i := 1) hT4 rfl
 have c2 := cell_at (i := 2) hT4 rfl
 go_wp2
 obtain ⟨h1, h2, h3, h4⟩ := HO.out
 exact bodyPost_ret (results_blk rfl rfl hT4 _ Tryz.underlying35 rfl (by kernel_rfl)) rfl ⟨B, cb, rfl, h1, h2, h3, h4⟩
end Go.Proofs.YtdimmlljjmmdbaaGreatDoor
namespace Go.Proofs.YtdimmlljjmmdbaaGreatDoor
open Go.RowKit Go.Shelf
set_option maxHeartbeats 8000000
set_option maxRecDepth 100000
theorem c33 (D : Option Addr) (m capd : Nat) (d : List (List Int)) (w : World) (hm : m ≤ 1000000) (hsh : ∀ x, x ∈ d → x.length ≤ 1000000) (HD : RdD w D m d) :
  Calls Tryz.prog 33 #[.slice D m capd] w fun en w' => ∃ B cb, en = .returned (.slice B m cb) ∧ RdD w' B m d ∧ Below w.heap.size w w' := by
 have HDN := Lib.hid HD.len
 have HSH := Lib.hid hsh
 have hst0 : Hid (VR w w.heap.size d [] 0) := Lib.hid ⟨rfl, fun j _ h => absurd h (Nat.not_lt_zero j)⟩
 clear hsh
 go_enter Tryz.func33, Tryz.ntmps33
 go_wp2_with fail
 go_loopw [3, 8] (fun x i wr => ∃ (k : Nat) (us : List Value), k ≤ m ∧ i = .int .i64 k ∧ OwnD wr w.heap.size x k us ∧ Hid (VR wr w.heap.size d us k) ∧ Below w.heap.size w wr) (fun _ i _ => m - (intOf i).toNat)
 case atStart => exact ⟨0, [], Nat.zero_le _, rfl, World.ownsRow_nil _ _ _ _, hst0, Below.refl _ _⟩
 case round =>
  clear hst0
  obtain ⟨k, us, hk, rfl, hown, HVR, hbr3⟩ := hrel
  have HD1 := HD.below hbr3
  by_cases hlt : k < m
  rotate_left
  ·obtain rfl : m = k := by omega
   obtain ⟨AO, capO, rfl, hrdO⟩ := Sl.of_own hown
   have hdO : RdD wr AO m d := by
    have e := HDN.out
    subst e
    exact HVR.out.rd hrdO
   clear hown HVR hrdO hlt hk HD HD1
   go_wp2
   go_ret
   exact ⟨AO, capO, rfl, hdO, hbr3⟩
  ·have hwk : IntKind.i64.wrap ((k : Int) + 1) = ((k + 1 : Nat) : Int) := by rw [wrapI (by omega)]; simp
   obtain ⟨db, doff, y, ya, yc, rfl, hy, hdb, hdc, hry⟩ := HD1.at hlt
   have HYX := Lib.hid hy
   have hyl := HSH.out y (List.mem_of_getElem? hy)
   clear hy HD1
   go_wp2_with fail
   refine (c22 ya y.length yc y _ hyl hry).mono ?_
   rintro e w2 ⟨v2, rfl, ho, hb⟩
   have hszq := hbr3.size
   obtain ⟨B2, cb2, rfl⟩ := own_slice ho
   have hrw : RwM w2 w.heap.size (.slice B2 y.length cb2) y := RwM.lower (RwM.of_own ho) hszq
   have hown' : w2.ownsRow w.heap.size 22 1 _ k us := own_below hown hb
   have HVR2 := Lib.hid (HVR.out.below hb)
   have HBR := Lib.hid (hbr3.call hb rfl)
   have hszn : w.heap.size ≤ w2.heap.size := HBR.out.size
   have HRW := Lib.hid hrw
   obtain ⟨i1, hi, hz0, hz1, hz2⟩ := info_parts infoSl
   clear hrw hb ho hown HVR hbr3 hry
   go_wp2_with (at_builtin; refine wpList_append_own _ rfl _ _ 31 rfl w.heap.size 22 i1 (.slice none 0 0) 1 24 Tryz.underlying31 hi hz0 hz1 hz2 rfl (by decide) _ _ _ rfl (hown'.alloc _) ⟨w2.heap.size, 0, none⟩ 1 1 [.slice B2 y.length cb2] rfl rfl (news_one _ _ (by simp)) (fun x hx => by rw [List.mem_singleton.1 hx]; rfl) (by unfold maxLen; omega) (by omega) (by simp; omega) ?_)
   intro x' wz hown3 hg3 _
   have hal : Below w2.heap.size w2 (w2.alloc (Obj.cells #[.slice B2 y.length cb2] 22)) := (Below.refl _ _).alloc (Nat.le_refl _) _
   have HB3 : Hid (Below w.heap.size w wz) := Lib.hid ((HBR.out.alloc hszn _).grown hg3 (by simp; omega) (fun g hg => (hown'.lt g hg).1))
   have HVR3 : Hid (VR wz w.heap.size d (us ++ [.slice B2 y.length cb2]) (k + 1)) := Lib.hid ((HVR2.out.below hal).push (hown'.alloc _) hg3 HYX.out (HRW.out.below hal))
   have HO : Hid (OwnD wz w.heap.size x' (k + 1) (us ++ [.slice B2 y.length cb2])) := Lib.hid hown3
   clear hown3 hg3 hal hown' hszn hi hz0 hz1 hz2 HD
   go_wp2
   go_roundw
   case rel => exact ⟨k + 1, us ++ [.slice B2 y.length cb2], by omega, by go_num, HO.out, HVR3, HB3.out⟩
   case measure => simp [intOf]; omega
end Go.Proofs.YtdimmlljjmmdbaaGreatDoor
namespace Go.Proofs.YtdimmlljjmmdbaaGreatDoor
open Go.RowKit Go.Shelf
set_option maxHeartbeats 8000000
set_option maxRecDepth 100000
theorem c48s (D : Option Addr) (m capd : Nat) (d : List (List Int)) (w : World) (hd : m ≤ 9223372036854775807) (HD : RdD w D m d) :
  Calls Tryz.prog 48 #[.slice D m capd] w fun en w' => ShP ((m ≤ 5 ∨ m = 17) ∧ ∀ x, x ∈ d → x.length ≤ 45) en ∧ ((m ≤ 5 ∧ ∀ x, x ∈ d → x.length ≤ 45) → en = .returned (.bool true)) ∧ Below w.heap.size w w' := by
 have HDN := Lib.hid HD.len
 go_enter Tryz.func48, Tryz.ntmps48
 go_wp2
 go_loopw [3] (fun i wr => ∃ k : Nat, k ≤ m ∧ i = .int .i64 k ∧ Hid (∀ (j : Nat) (x : List Int), j < k → d[j]? = some x → x.length ≤ 45) ∧ Below w.heap.size w wr) (fun i _ => m - (intOf i).toNat)
 case atStart => exact ⟨0, Nat.zero_le _, rfl, Lib.hid (fun j _ h => absurd h (Nat.not_lt_zero j)), Below.refl _ _⟩
 case round =>
  obtain ⟨k, hk, rfl, HC, hB⟩ := hrel
  by_cases hlt : k < m
  ·have hwk : IntKind.i64.wrap ((k : Int) + 1) = ((k + 1 : Nat) : Int) := by rw [wrapI (by omega)]; simp
   have hkm2 : (k : Int) < (m : Int) := by omega
   have hk02 : (0 : Int) ≤ (k : Int) := by omega
   obtain ⟨db, doff, x, xa, xc, rfl, hx, hdb, hdc, hrx⟩ := (HD.below hB).at hlt
   have HX := Lib.hid hx
   clear hx hrx
   by_cases hx45 : x.length ≤ 45
   ·have hd1 : decide ((45 : Int) < (x.length : Int)) = false := by simp; omega
    have HC2 : Hid (∀ (j : Nat) (y : List Int), j < k + 1 → d[j]? = some y → y.length ≤ 45) := Lib.hid (fun j y hj hy => by
     by_cases h : j = k
     ·subst h; rw [HX.out] at hy; cases hy; exact hx45
     ·exact HC.out j y (by omega) hy)
    go_wp2
    go_roundw
    case rel => exact ⟨k + 1, by omega, rfl, HC2, hB⟩
    case measure => simp [intOf]; omega
   ·have hd1 : decide ((45 : Int) < (x.length : Int)) = true := by simp; omega
    have HXM := Lib.hid (List.mem_of_getElem? HX.out)
    go_wp2
    go_ret
    exact ⟨⟨false, rfl, fun h => by cases h⟩, fun h => absurd (h.2 _ HXM.out) hx45, hB⟩
  ·obtain rfl : m = k := by omega
   have HA : Hid (∀ x, x ∈ d → x.length ≤ 45) := Lib.hid (fun x hx => by
    obtain ⟨j, hj, hxj⟩ := List.getElem_of_mem hx
    exact HC.out j x (by rw [← HDN.out]; exact hj) (by rw [← hxj]; exact List.getElem?_eq_getElem hj))
   by_cases h5 : m ≤ 5
   ·have hd5 : decide ((m : Int) ≤ 5) = true := by simp; omega
    go_wp2
    all_goals go_ret
    all_goals exact ⟨⟨_, rfl, fun _ => ⟨.inl h5, HA.out⟩⟩, fun _ => rfl, hB⟩
   ·have hd5 : decide ((m : Int) ≤ 5) = false := by simp; omega
    by_cases h17 : m = 17
    ·have hd17 : ((m : Int) == 17) = true := by simp; omega
     have H17 := Lib.hid h17
     clear h17
     go_wp2
     all_goals go_ret
     all_goals exact ⟨⟨_, rfl, fun _ => ⟨.inr H17.out, HA.out⟩⟩, fun h => absurd h.1 h5, hB⟩
    ·have hd17 : ((m : Int) == 17) = false := by simp; omega
     go_wp2
     all_goals go_ret
     all_goals exact ⟨⟨_, rfl, fun h => by cases h⟩, fun h => absurd h.1 h5, hB⟩
theorem c31s (D E M : Option Addr) (n m k cd ce cm : Nat) (dl el : List (List Int)) (s f x : Int) (w : World) (hn : n ≤ 9223372036854775807) (hm : m ≤ 9223372036854775807) (HD : RdD w D n dl) (HE : RdD w E m el) :
  Calls Tryz.prog 31 #[.agg #[.slice D n cd, .slice E m ce, .slice M k cm, .int .i64 s, .int .i64 f, .int .i64 x]] w fun en w' => ShP (((n ≤ 5 ∨ n = 17) ∧ ∀ x, x ∈ dl → x.length ≤ 45) ∧ ((m ≤ 5 ∨ m = 17) ∧ ∀ x, x ∈ el → x.length ≤ 45) ∧ k ≤ 30) en ∧ Below w.heap.size w w' := by
 obtain ⟨w0, hW⟩ : ∃ W, W = w.alloc (Obj.cells #[.slice D n cd, .slice E m ce, .slice M k cm, .int .i64 s, .int .i64 f, .int .i64 x] 55) := ⟨_, rfl⟩
 have hT0 : w0.heap[w.heap.size]? = some (.cells #[.slice D n cd, .slice E m ce, .slice M k cm, .int .i64 s, .int .i64 f, .int .i64 x] 55 (0, 0)) := by rw [hW]; exact heap_new (by simp)
 have hB0 : Below w.heap.size w w0 := by rw [hW]; exact (Below.refl _ _).alloc (Nat.le_refl _) _
 have H1 := HD.below hB0
 have H2 := HE.below hB0
 clear HD HE
 go_enter Tryz.func31, Tryz.ntmps31
 go_wp2_with fail
 rw [← hW]
 clear hW
 have q0 : w0.cell? ⟨w.heap.size, 0, none⟩ = some (.slice D n cd) := cell_at hT0 rfl
 have q1 : w0.cell? ⟨w.heap.size, 1, none⟩ = some (.slice E m ce) := cell_at hT0 rfl
 have q2 : w0.cell? ⟨w.heap.size, 2, none⟩ = some (.slice M k cm) := cell_at hT0 rfl
 have z2 := cell_lt q2
 go_wp2_with fail
 refine (c48s D n cd dl _ hn H1).mono ?_
 rintro e w1 ⟨⟨b1, rfl, hP1⟩, _, hb⟩
 have hB1 := hB0.call hb rfl
 replace hT0 := blkb hT0 hb
 replace H2 := H2.below hb
 clear hb q0 q1 q2 z2 hB0
 have q1 : w1.cell? ⟨w.heap.size, 1, none⟩ = some (.slice E m ce) := cell_at hT0 rfl
 have q2 : w1.cell? ⟨w.heap.size, 2, none⟩ = some (.slice M k cm) := cell_at hT0 rfl
 have z2 := cell_lt q2
 have HP1 := Lib.hid hP1
 clear hP1
 cases b1
 ·go_wp2
  go_ret
  exact ⟨⟨_, rfl, fun h => by simp at h⟩, hB1⟩
 go_wp2_with fail
 refine (c48s E m ce el _ hm H2).mono ?_
 rintro e w2 ⟨⟨b2, rfl, hP2⟩, _, hb⟩
 have hB2 := hB1.call hb rfl
 replace hT0 := blkb hT0 hb
 clear hb q1 q2 z2 hB1
 have q2 : w2.cell? ⟨w.heap.size, 2, none⟩ = some (.slice M k cm) := cell_at hT0 rfl
 have z2 := cell_lt q2
 have HP2 := Lib.hid hP2
 clear hP2
 cases b2
 ·go_wp2
  go_ret
  exact ⟨⟨_, rfl, fun h => by simp at h⟩, hB2⟩
 go_wp2
 all_goals go_ret
 all_goals exact ⟨⟨_, rfl, fun h => ⟨HP1.out trivial, HP2.out trivial, by simp at h <;> omega⟩⟩, hB2⟩
/-- the pairs' holes and samples -/
noncomputable def prs (c : Nat) (l : List Int) (un : Int) (ln : Nat) (most : Int) (ps : List Pr) : List (Bool × List Int) := ps.map fun p => (p.h, dlp c l un ln most p)
theorem prs_snd (c : Nat) (l : List Int) (un : Int) (ln : Nat) (most : Int) (ps : List Pr) : (prs c l un ln most ps).map (·.2) = ps.map (dlp c l un ln most) := by simp [prs, Function.comp_def]
theorem prs_traces (c : Nat) (l : List Int) (un : Int) (ln : Nat) (most : Int) (ms : List Int) (ps : List Pr) : Im.traces ln (prs c l un ln most ps) ms = trcs c l un ln most ms ps := by
 unfold Im.traces prs trcs
 rw [List.map_map]
 refine List.map_congr_left fun p _ => ?_
 simp [trc]
theorem at0_mem {l : List Int} {x : Int} (h : x ∈ l) : ∃ k, k < l.length ∧ Im.at0 l k = x := by
 obtain ⟨k, hk, e⟩ := List.getElem_of_mem h
 exact ⟨k, hk, by simp [Im.at0, List.getD_eq_getElem?_getD, hk, e]⟩
theorem dlp_d {c : Nat} {l : List Int} {un : Int} {ln : Nat} {most : Int} {p : Pr} (hln : 1 ≤ ln) : ∀ d, d ∈ dlp c l un ln most p → d < (ln : Int) := by
 intro d hd
 obtain ⟨k, hk, rfl⟩ := at0_mem hd
 rw [dlp_len] at hk
 by_cases h0 : 0 ≤ Im.at0 (dlp c l un ln most p) k
 ·exact dlp_lt hk h0
 ·omega
theorem dlp_h {c : Nat} {l : List Int} {un : Int} {ln : Nat} {most : Int} {p : Pr} (hp : p.h = true) : ∀ d, d ∈ dlp c l un ln most p → d = -1 := by
 intro d hd
 obtain ⟨k, hk, rfl⟩ := at0_mem hd
 rw [dlp_len] at hk
 unfold dlp dlL
 rw [hp, Im.delays_at hk, Im.dly_hole]
theorem fits_of {c : Nat} {l : List Int} {un : Int} {ln : Nat} {most : Int} (hln : 1 ≤ ln) : ∀ {ps : List Pr} {d : List (List Int)}, d.length = ps.length → Mo.Shp ln ps d → Im.Fits ln l.length (prs c l un ln most ps) d
 | [], [], _, _ => trivial
 | [], _ :: _, h, _ => by simp at h
 | _ :: _, [], h, _ => by simp at h
 | p :: ps, x :: d, h, hs => by
  have h0 := hs 0 p x rfl rfl
  refine ⟨dlp_len _ _ _ _ _ _, ?_, fits_of hln (by simpa using h) (fun j q y h1 h2 => hs (j + 1) q y (by simpa using h1) (by simpa using h2))⟩
  unfold Mo.okT at h0
  by_cases hp : p.h = true
  ·rw [if_pos hp] at h0
   simp only [hp, if_true]
   exact ⟨List.length_eq_zero_iff.1 h0, dlp_h hp⟩
  ·rw [if_neg hp] at h0
   have hp' : p.h = false := by simpa using hp
   simp only [hp', Bool.false_eq_true, if_false]
   exact ⟨by omega, dlp_d hln⟩
/-- the traces of a model are valid traces -/
theorem trcs_shp (c : Nat) (l : List Int) (un : Int) (ln : Nat) (most : Int) (ms : List Int) (ps : List Pr) : Mo.Shp ln ps (trcs c l un ln most ms ps) := by
 intro j p x hp hx
 unfold trcs at hx
 rw [List.getElem?_map, hp] at hx
 simp only [Option.map_some, Option.some.injEq] at hx
 subst hx
 unfold Mo.okT trc
 by_cases h : p.h = true
 ·simp [h]
 ·rw [if_neg h, if_neg h, Im.trace_len]
theorem trcs_len (c : Nat) (l : List Int) (un : Int) (ln : Nat) (most : Int) (ms : List Int) (ps : List Pr) : (trcs c l un ln most ms ps).length = ps.length := by simp [trcs]
theorem trc_le {c : Nat} {l : List Int} {un : Int} {ln : Nat} {most : Int} {ms : List Int} {p : Pr} (hl : ms.length = l.length) (h30 : l.length ≤ 30) (hm : ∀ k, k < ms.length → -1000 ≤ Im.at0 ms k ∧ Im.at0 ms k ≤ 1000) : ∀ y, y ∈ trc c l un ln most ms p → -30000 ≤ y ∧ y ≤ 30000 := by
 intro y hy
 unfold trc at hy
 split at hy
 ·simp at hy
 ·obtain ⟨k, hk, rfl⟩ := at0_mem hy
  have hd : (dlp c l un ln most p).length = ms.length := by rw [dlp_len, hl]
  rw [← Im.trk_full (j := ms.length) hd rfl]
  have h := Im.trk_le (len := ln) (B := 1000) (by decide) hm hd ms.length (by omega) k
  omega
theorem trcs_dat {c : Nat} {l : List Int} {un : Int} {ln : Nat} {most : Int} {ms : List Int} {ps : List Pr} (hl : ms.length = l.length) (h30 : l.length ≤ 30) (hm : ∀ k, k < ms.length → -1000 ≤ Im.at0 ms k ∧ Im.at0 ms k ≤ 1000) : Mo.dat ln ps (trcs c l un ln most ms ps) = 0 := by
 rw [Mo.dat_ok (trcs_len _ _ _ _ _ _ _) (trcs_shp _ _ _ _ _ _ _)]
 refine Mo.first_all ?_
 intro e he
 obtain ⟨x, hx, rfl⟩ := List.mem_map.1 he
 obtain ⟨p, _, rfl⟩ := List.mem_map.1 hx
 refine Mo.allw_ok.2 fun y hy => ?_
 have := trc_le hl h30 hm y hy
 omega
end Go.Proofs.YtdimmlljjmmdbaaGreatDoor
namespace Go.Proofs.YtdimmlljjmmdbaaGreatDoor
open Go.RowKit Go.Shelf
set_option maxHeartbeats 8000000
set_option maxRecDepth 100000
theorem c49_ok (c r : Int) (A : Option Addr) (n cap : Nat) (l : List Int) (un len most : Int) (P : Option Addr) (np capp : Nat) (ps : List Pr) (D : Option Addr) (md capd : Nat) (d : List (List Int)) (w : World) (hl : n ≤ 1000000) (hp : np ≤ 1000000) (hd : md ≤ 100) (hdl : ∀ x, x ∈ d → x.length ≤ 1000) (H : RdI w A n l) (HP : RdP w P np ps) (HD : RdD w D md d) (hE : Mo.dta c r l un len most ps d = 0) :
  Calls Tryz.prog 49 #[.agg #[.int .i64 c, .int .i64 r, .slice A n cap], .agg #[.int .i64 un, .int .i64 len, .int .i64 most, .slice P np capp], .slice D md capd] w fun en w' => ∃ F capf, en = .returned (.tuple #[.slice F d.flatten.length capf, .int .i64 0]) ∧ RdI w' F d.flatten.length d.flatten ∧ Below w.heap.size w w' := by
 have HDL := Lib.hid hdl
 have HDL2 : Hid (∀ x, x ∈ d → x.length ≤ 1000000) := Lib.hid (fun x hx => Nat.le_trans (hdl x hx) (by decide))
 obtain ⟨N, hN⟩ : ∃ N, d.flatten.length = N := ⟨_, rfl⟩
 rw [hN]
 have HE : Hid (Mo.first [Mo.surv c r l un len most ps, Mo.dat len ps d] = 0) := Lib.hid hE
 clear hE hdl
 obtain ⟨w0, hW⟩ : ∃ W, W = (w.alloc (Obj.cells #[.int .i64 c, .int .i64 r, .slice A n cap] 35)).alloc (Obj.cells #[.int .i64 un, .int .i64 len, .int .i64 most, .slice P np capp] 39) := ⟨_, rfl⟩
 have hT0 : w0.heap[w.heap.size]? = some (.cells #[.int .i64 c, .int .i64 r, .slice A n cap] 35 (0, 0)) := by rw [hW]; exact heap_old (by simp <;> omega) (heap_new (by simp))
 have hT1 : w0.heap[w.heap.size + 1]? = some (.cells #[.int .i64 un, .int .i64 len, .int .i64 most, .slice P np capp] 39 (0, 0)) := by rw [hW]; exact heap_new (by simp)
 have hB0 : Below w.heap.size w w0 := by rw [hW]; exact (((Below.refl _ _).alloc (by first | omega | (simp <;> omega)) _).alloc (by first | omega | (simp <;> omega)) _)
 replace H := H.below hB0
 replace HP := HP.below hB0
 replace HD := HD.below hB0
 go_enter Tryz.func49, Tryz.ntmps49
 go_wp2_with fail
 rw [← hW]
 clear hW
 have qhT0_0 : w0.cell? ⟨w.heap.size, 0, none⟩ = some (.int .i64 c) := cell_at hT0 rfl
 have qhT0_1 : w0.cell? ⟨w.heap.size, 1, none⟩ = some (.int .i64 r) := cell_at hT0 rfl
 have qhT0_2 : w0.cell? ⟨w.heap.size, 2, none⟩ = some (.slice A n cap) := cell_at hT0 rfl
 have qhT1_0 : w0.cell? ⟨w.heap.size + 1, 0, none⟩ = some (.int .i64 un) := cell_at hT1 rfl
 have qhT1_1 : w0.cell? ⟨w.heap.size + 1, 1, none⟩ = some (.int .i64 len) := cell_at hT1 rfl
 have qhT1_2 : w0.cell? ⟨w.heap.size + 1, 2, none⟩ = some (.int .i64 most) := cell_at hT1 rfl
 have qhT1_3 : w0.cell? ⟨w.heap.size + 1, 3, none⟩ = some (.slice P np capp) := cell_at hT1 rfl
 go_wp2_with fail
 refine (c102 c r A n cap l un len most P np capp ps D md capd d _ hl hp (by omega) HDL2.out HP HD H).mono ?_
 rintro e w1 ⟨rfl, hb⟩
 clear qhT0_0 qhT0_1 qhT0_2 qhT1_0 qhT1_1 qhT1_2 qhT1_3
 have hS := hb
 have hB1 := hB0.call hS rfl
 replace hT0 := blkb hT0 hS
 replace hT1 := blkb hT1 hS
 replace H := H.below hS
 replace HP := HP.below hS
 replace HD := HD.below hS
 clear hS hB0
 have qhT0_0 : w1.cell? ⟨w.heap.size, 0, none⟩ = some (.int .i64 c) := cell_at hT0 rfl
 have qhT0_1 : w1.cell? ⟨w.heap.size, 1, none⟩ = some (.int .i64 r) := cell_at hT0 rfl
 have qhT0_2 : w1.cell? ⟨w.heap.size, 2, none⟩ = some (.slice A n cap) := cell_at hT0 rfl
 have qhT1_0 : w1.cell? ⟨w.heap.size + 1, 0, none⟩ = some (.int .i64 un) := cell_at hT1 rfl
 have qhT1_1 : w1.cell? ⟨w.heap.size + 1, 1, none⟩ = some (.int .i64 len) := cell_at hT1 rfl
 have qhT1_2 : w1.cell? ⟨w.heap.size + 1, 2, none⟩ = some (.int .i64 most) := cell_at hT1 rfl
 have qhT1_3 : w1.cell? ⟨w.heap.size + 1, 3, none⟩ = some (.slice P np capp) := cell_at hT1 rfl
 clear hb
 rw [HE.out]
 go_wp2_with fail
 refine (c106n D md capd d N _ hd HDL.out HD hN).mono ?_
 rintro e w2 ⟨F, capf, rfl, hrf, hb⟩
 clear qhT0_0 qhT0_1 qhT0_2 qhT1_0 qhT1_1 qhT1_2 qhT1_3
 have hS := hb
 have hB2 := hB1.call hS rfl
 replace hT0 := blkb hT0 hS
 replace hT1 := blkb hT1 hS
 replace H := H.below hS
 replace HP := HP.below hS
 replace HD := HD.below hS
 clear hS hB1
 have qhT0_0 : w2.cell? ⟨w.heap.size, 0, none⟩ = some (.int .i64 c) := cell_at hT0 rfl
 have qhT0_1 : w2.cell? ⟨w.heap.size, 1, none⟩ = some (.int .i64 r) := cell_at hT0 rfl
 have qhT0_2 : w2.cell? ⟨w.heap.size, 2, none⟩ = some (.slice A n cap) := cell_at hT0 rfl
 have qhT1_0 : w2.cell? ⟨w.heap.size + 1, 0, none⟩ = some (.int .i64 un) := cell_at hT1 rfl
 have qhT1_1 : w2.cell? ⟨w.heap.size + 1, 1, none⟩ = some (.int .i64 len) := cell_at hT1 rfl
 have qhT1_2 : w2.cell? ⟨w.heap.size + 1, 2, none⟩ = some (.int .i64 most) := cell_at hT1 rfl
 have qhT1_3 : w2.cell? ⟨w.heap.size + 1, 3, none⟩ = some (.slice P np capp) := cell_at hT1 rfl
 clear hb
 go_wp2
 go_ret2
 exact ⟨F, capf, rfl, hrf, hB2⟩
end Go.Proofs.YtdimmlljjmmdbaaGreatDoor
