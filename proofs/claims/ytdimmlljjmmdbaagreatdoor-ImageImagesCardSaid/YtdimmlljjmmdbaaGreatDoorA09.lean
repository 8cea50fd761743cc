/- A part of the proofs about chapter 7 (image): contracts of functions and plain laws (V49). -/
import Derived.Test.YtdimmlljjmmdbaaGreatDoorA08
set_option linter.all false
namespace Go.Proofs.YtdimmlljjmmdbaaGreatDoor
open Go.RowKit
set_option maxHeartbeats 16000000
set_option maxRecDepth 20000

/-- what 'Print' gives of awake's ground -/
abbrev txtS : ByteArray := ⟨#[103, 114, 111, 117, 110, 100, 32, 50, 32, 50, 10, 114, 111, 119, 32, 49, 32, 50, 10, 114, 111, 119, 32, 51, 32, 52, 10]⟩
def PrintS : Prop := ∀ (g : Nat) (W : World), RdI W (some ⟨g, 0, none⟩) 4 [1, 2, 3, 4] → Calls Tryz.prog 81 #[.agg #[.int .i64 2, .int .i64 2, .slice (some ⟨g, 0, none⟩) 4 4]] W fun en w' => en = .returned (.tuple #[.string { data := #[103, 114, 111, 117, 110, 100, 32, 50, 32, 50, 10, 114, 111, 119, 32, 49, 32, 50, 10, 114, 111, 119, 32, 51, 32, 52, 10] }, .int .i64 0]) ∧ Below W.heap.size W w'

theorem eqR (w : World) : (Op.equalIn 10000 61 (.agg #[.int .i64 7, .int .i64 1]) (.agg #[.int .i64 7, .int .i64 1])).run Tryz.prog w = .ok true w := by kernel_rfl
theorem eqYp (w : World) : (Op.equalIn 10000 84 (.agg #[.complex .f32 1065353216 0, .complex .f32 0 3212836864, .complex .f32 3212836864 2147483648, .complex .f32 2147483648 1065353216]) (.agg #[.complex .f32 1065353216 0, .complex .f32 0 3212836864, .complex .f32 3212836864 0, .complex .f32 0 1065353216])).run Tryz.prog w = .ok true w := by kernel_rfl
theorem eqZp (w : World) : (Op.equalIn 10000 84 (.agg #[.complex .f32 1065353216 0, .complex .f32 2147483648 1065353216, .complex .f32 3212836864 2147483648, .complex .f32 0 3212836864]) (.agg #[.complex .f32 1065353216 0, .complex .f32 0 1065353216, .complex .f32 3212836864 0, .complex .f32 0 3212836864])).run Tryz.prog w = .ok true w := by kernel_rfl

theorem rdD_one {w : World} {g b : Nat} {l : List Int} {n : Nat} (hg : g = w.heap.size) (h : RdI w (some ⟨b, 0, none⟩) n l) (hn : l.length = n) : RdD (w.alloc (Obj.cells #[.slice (some ⟨b, 0, none⟩) n n] 22)) (some ⟨g, 0, none⟩) 1 [l] := by
 subst hn
 refine ⟨[.slice (some ⟨b, 0, none⟩) l.length l.length], RdS.of_new (cs := [.slice (some ⟨b, 0, none⟩) l.length l.length]) hg rfl, rfl, fun k x hx => ?_⟩
 match k, hx with
 | 0, hx =>
  obtain rfl : l = x := by simpa using hx
  exact ⟨_, _, rfl, h.below ((Below.refl _ _).alloc (Nat.le_refl _) _)⟩
 | k + 1, hx => simp at hx

theorem c18_of (hpr : PrintS) (w : World) (hst : Steps w) :
  Calls Tryz.prog 18 #[] w fun en w' => en = .returned (.bool true) ∧ Below w.heap.size w w' := by
 go_enter Tryz.func18, Tryz.ntmps18
 obtain ⟨w0, hw0⟩ : ∃ W, W = w := ⟨_, rfl⟩
 subst hw0
 have hB0 : Below w0.heap.size w0 w0 := Below.refl _ _
 go_wp2_with fail
 refine (c86 _).mono ?_
 rintro e w1 ⟨g1, rfl, hg1, hb⟩
 have hS := hb
 have hB1 := hB0.call hS rfl
 replace hst := hst.below hS
 clear hS hB0
 clear hb
 go_wp2_with fail
 refine (aT0 g1 _ hg1 hst).mono ?_
 rintro e w2 ⟨A1, c1, rfl, hA, hb⟩
 have hS := hb
 have hB2 := hB1.call hS rfl
 replace hst := hst.below hS
 replace hg1 := hg1.below hS
 clear hS hB1
 clear hb
 clear hg1
 go_wp2_with fail
 refine (c86 _).mono ?_
 rintro e w3 ⟨g2, rfl, hg2, hb⟩
 have hS := hb
 have hB3 := hB2.call hS rfl
 replace hst := hst.below hS
 replace hA := hA.below hS
 clear hS hB2
 clear hb
 go_wp2_with fail
 refine (aT1 g2 _ hg2 hst).mono ?_
 rintro e w4 ⟨A2, c2, rfl, hBt, hb⟩
 have hS := hb
 have hB4 := hB3.call hS rfl
 replace hst := hst.below hS
 replace hA := hA.below hS
 replace hg2 := hg2.below hS
 clear hS hB3
 clear hb
 clear hg2
 go_wp2_with fail
 refine (c86 _).mono ?_
 rintro e w5 ⟨g3, rfl, hg3, hb⟩
 have hS := hb
 have hB5 := hB4.call hS rfl
 replace hst := hst.below hS
 replace hA := hA.below hS
 replace hBt := hBt.below hS
 clear hS hB4
 clear hb
 go_wp2_with fail
 refine (aP0 g3 _ hg3 hst).mono ?_
 rintro e w6 ⟨A3, c3, rfl, hWy, hb⟩
 have hS := hb
 have hB6 := hB5.call hS rfl
 replace hst := hst.below hS
 replace hA := hA.below hS
 replace hBt := hBt.below hS
 replace hg3 := hg3.below hS
 clear hS hB5
 clear hb
 clear hg3
 go_wp2_with fail
 refine (c86 _).mono ?_
 rintro e w7 ⟨g4, rfl, hg4, hb⟩
 have hS := hb
 have hB7 := hB6.call hS rfl
 replace hst := hst.below hS
 replace hA := hA.below hS
 replace hBt := hBt.below hS
 replace hWy := hWy.below hS
 clear hS hB6
 clear hb
 go_wp2_with fail
 refine (aP1 g4 _ hg4 hst).mono ?_
 rintro e w8 ⟨A4, c4, rfl, hXy, hb⟩
 have hS := hb
 have hB8 := hB7.call hS rfl
 replace hst := hst.below hS
 replace hA := hA.below hS
 replace hBt := hBt.below hS
 replace hWy := hWy.below hS
 replace hg4 := hg4.below hS
 clear hS hB7
 clear hb
 clear hg4
 go_wp2_with fail
 refine (c86 _).mono ?_
 rintro e w9 ⟨g5, rfl, hg5, hb⟩
 have hS := hb
 have hB9 := hB8.call hS rfl
 replace hst := hst.below hS
 replace hA := hA.below hS
 replace hBt := hBt.below hS
 replace hWy := hWy.below hS
 replace hXy := hXy.below hS
 clear hS hB8
 clear hb
 go_wp2_with fail
 obtain ⟨w10, hwn⟩ : ∃ V, V = w9.alloc (Obj.cells #[.int .i64 0, .int .i64 6, .int .i64 8, .int .i64 15] 3) := ⟨_, rfl⟩
 have hbn : Below w9.heap.size w9 w10 := by rw [hwn]; exact (Below.refl _ _).alloc (Nat.le_refl _) _
 obtain ⟨b6, hbq⟩ : ∃ b, b = w9.heap.size := ⟨_, rfl⟩
 have hb6 : RdI w10 (some ⟨b6, 0, none⟩) 4 [0, 6, 8, 15] := by rw [hwn]; exact RdS.of_new (cs := encI [0, 6, 8, 15]) hbq rfl
 have hszb6 : w10.heap.size = b6 + 1 := by rw [hwn, hbq]; simp
 rw [← hbq, ← hwn]
 clear hwn hbq
 have kz := hszb6
 clear hszb6
 have hS := hbn
 have hB10 := hB9.call hS rfl
 replace hst := hst.below hS
 replace hA := hA.below hS
 replace hBt := hBt.below hS
 replace hWy := hWy.below hS
 replace hXy := hXy.below hS
 replace hg5 := hg5.below hS
 clear hS hB9
 have hszb6 := kz
 clear hbn kz
 go_wp2_with fail
 refine (aQA g5 _ _ hg5 hst hb6).mono ?_
 rintro e w11 ⟨rfl, hb⟩
 have hS := hb
 have hB11 := hB10.call hS rfl
 replace hst := hst.below hS
 replace hA := hA.below hS
 replace hBt := hBt.below hS
 replace hWy := hWy.below hS
 replace hXy := hXy.below hS
 replace hg5 := hg5.below hS
 replace hb6 := hb6.below hS
 clear hS hB10
 clear hb
 clear hg5
 clear hb6
 go_wp2_with fail
 refine (c86 _).mono ?_
 rintro e w12 ⟨g7, rfl, hg7, hb⟩
 have hS := hb
 have hB12 := hB11.call hS rfl
 replace hst := hst.below hS
 replace hA := hA.below hS
 replace hBt := hBt.below hS
 replace hWy := hWy.below hS
 replace hXy := hXy.below hS
 clear hS hB11
 clear hb
 go_wp2_with fail
 obtain ⟨w13, hwn⟩ : ∃ V, V = w12.alloc (Obj.cells #[.int .i64 0, .int .i64 6, .int .i64 8, .int .i64 16] 3) := ⟨_, rfl⟩
 have hbn : Below w12.heap.size w12 w13 := by rw [hwn]; exact (Below.refl _ _).alloc (Nat.le_refl _) _
 obtain ⟨b8, hbq⟩ : ∃ b, b = w12.heap.size := ⟨_, rfl⟩
 have hb8 : RdI w13 (some ⟨b8, 0, none⟩) 4 [0, 6, 8, 16] := by rw [hwn]; exact RdS.of_new (cs := encI [0, 6, 8, 16]) hbq rfl
 have hszb8 : w13.heap.size = b8 + 1 := by rw [hwn, hbq]; simp
 rw [← hbq, ← hwn]
 clear hwn hbq
 have kz := hszb8
 clear hszb8
 have hS := hbn
 have hB13 := hB12.call hS rfl
 replace hst := hst.below hS
 replace hA := hA.below hS
 replace hBt := hBt.below hS
 replace hWy := hWy.below hS
 replace hXy := hXy.below hS
 replace hg7 := hg7.below hS
 clear hS hB12
 have hszb8 := kz
 clear hbn kz
 go_wp2_with fail
 refine (aQB g7 _ _ hg7 hst hb8).mono ?_
 rintro e w14 ⟨rfl, hb⟩
 have hS := hb
 have hB14 := hB13.call hS rfl
 replace hst := hst.below hS
 replace hA := hA.below hS
 replace hBt := hBt.below hS
 replace hWy := hWy.below hS
 replace hXy := hXy.below hS
 replace hg7 := hg7.below hS
 replace hb8 := hb8.below hS
 clear hS hB13
 clear hb
 clear hg7
 clear hb8
 go_wp2_with fail
 refine (c86 _).mono ?_
 rintro e w15 ⟨g9, rfl, hg9, hb⟩
 have hS := hb
 have hB15 := hB14.call hS rfl
 replace hst := hst.below hS
 replace hA := hA.below hS
 replace hBt := hBt.below hS
 replace hWy := hWy.below hS
 replace hXy := hXy.below hS
 clear hS hB14
 clear hb
 go_wp2_with fail
 refine (c87 3 _).mono ?_
 rintro e w16 ⟨p10, rfl, hp10, hb⟩
 have hS := hb
 have hB16 := hB15.call hS rfl
 replace hst := hst.below hS
 replace hA := hA.below hS
 replace hBt := hBt.below hS
 replace hWy := hWy.below hS
 replace hXy := hXy.below hS
 replace hg9 := hg9.below hS
 clear hS hB15
 clear hb
 go_wp2_with fail
 refine (aD3 g9 p10 _ hg9 hp10 hst).mono ?_
 rintro e w17 ⟨A5, cA5, rfl, hD3, hb⟩
 have hS := hb
 have hB17 := hB16.call hS rfl
 replace hst := hst.below hS
 replace hA := hA.below hS
 replace hBt := hBt.below hS
 replace hWy := hWy.below hS
 replace hXy := hXy.below hS
 replace hg9 := hg9.below hS
 replace hp10 := hp10.below hS
 clear hS hB16
 clear hb
 clear hg9
 clear hp10
 go_wp2_with fail
 refine (c86 _).mono ?_
 rintro e w18 ⟨g11, rfl, hg11, hb⟩
 have hS := hb
 have hB18 := hB17.call hS rfl
 replace hst := hst.below hS
 replace hA := hA.below hS
 replace hBt := hBt.below hS
 replace hWy := hWy.below hS
 replace hXy := hXy.below hS
 replace hD3 := hD3.below hS
 clear hS hB17
 clear hb
 go_wp2_with fail
 refine (c87 4 _).mono ?_
 rintro e w19 ⟨p12, rfl, hp12, hb⟩
 have hS := hb
 have hB19 := hB18.call hS rfl
 replace hst := hst.below hS
 replace hA := hA.below hS
 replace hBt := hBt.below hS
 replace hWy := hWy.below hS
 replace hXy := hXy.below hS
 replace hD3 := hD3.below hS
 replace hg11 := hg11.below hS
 clear hS hB18
 clear hb
 go_wp2_with fail
 refine (aD4 g11 p12 _ hg11 hp12 hst).mono ?_
 rintro e w20 ⟨A6, cA6, rfl, hD4, hb⟩
 have hS := hb
 have hB20 := hB19.call hS rfl
 replace hst := hst.below hS
 replace hA := hA.below hS
 replace hBt := hBt.below hS
 replace hWy := hWy.below hS
 replace hXy := hXy.below hS
 replace hD3 := hD3.below hS
 replace hg11 := hg11.below hS
 replace hp12 := hp12.below hS
 clear hS hB19
 clear hb
 clear hg11
 clear hp12
 go_wp2_with fail
 refine (c86 _).mono ?_
 rintro e w21 ⟨g13, rfl, hg13, hb⟩
 have hS := hb
 have hB21 := hB20.call hS rfl
 replace hst := hst.below hS
 replace hA := hA.below hS
 replace hBt := hBt.below hS
 replace hWy := hWy.below hS
 replace hXy := hXy.below hS
 replace hD3 := hD3.below hS
 replace hD4 := hD4.below hS
 clear hS hB20
 clear hb
 go_wp2_with fail
 refine (c87 2 _).mono ?_
 rintro e w22 ⟨p14, rfl, hp14, hb⟩
 have hS := hb
 have hB22 := hB21.call hS rfl
 replace hst := hst.below hS
 replace hA := hA.below hS
 replace hBt := hBt.below hS
 replace hWy := hWy.below hS
 replace hXy := hXy.below hS
 replace hD3 := hD3.below hS
 replace hD4 := hD4.below hS
 replace hg13 := hg13.below hS
 clear hS hB21
 clear hb
 go_wp2_with fail
 refine (aD2 g13 p14 _ hg13 hp14 hst).mono ?_
 rintro e w23 ⟨A7, cA7, rfl, hD2, hb⟩
 have hS := hb
 have hB23 := hB22.call hS rfl
 replace hst := hst.below hS
 replace hA := hA.below hS
 replace hBt := hBt.below hS
 replace hWy := hWy.below hS
 replace hXy := hXy.below hS
 replace hD3 := hD3.below hS
 replace hD4 := hD4.below hS
 replace hg13 := hg13.below hS
 replace hp14 := hp14.below hS
 clear hS hB22
 clear hb
 clear hg13
 clear hp14
 go_wp2_with fail
 obtain ⟨w24, hwn⟩ : ∃ V, V = w23.alloc (Obj.cells #[.int .i64 0, .int .i64 6, .int .i64 8, .int .i64 15] 3) := ⟨_, rfl⟩
 have hbn : Below w23.heap.size w23 w24 := by rw [hwn]; exact (Below.refl _ _).alloc (Nat.le_refl _) _
 obtain ⟨b15, hbq⟩ : ∃ b, b = w23.heap.size := ⟨_, rfl⟩
 have hb15 : RdI w24 (some ⟨b15, 0, none⟩) 4 [0, 6, 8, 15] := by rw [hwn]; exact RdS.of_new (cs := encI [0, 6, 8, 15]) hbq rfl
 have hszb15 : w24.heap.size = b15 + 1 := by rw [hwn, hbq]; simp
 rw [← hbq, ← hwn]
 clear hwn hbq
 have kz := hszb15
 clear hszb15
 have hS := hbn
 have hB24 := hB23.call hS rfl
 replace hst := hst.below hS
 replace hA := hA.below hS
 replace hBt := hBt.below hS
 replace hWy := hWy.below hS
 replace hXy := hXy.below hS
 replace hD3 := hD3.below hS
 replace hD4 := hD4.below hS
 replace hD2 := hD2.below hS
 clear hS hB23
 have hszb15 := kz
 clear hbn kz
 go_wp2_with fail
 refine (c30 A1 (some ⟨b15, 0, none⟩) 4 4 c1 4 [0, 6, 8, 15] [0, 6, 8, 15] _ (by decide) (by decide) hA hb15).mono ?_
 rintro e w25 ⟨rfl, hb⟩
 have hS := hb
 have hB25 := hB24.call hS rfl
 replace hst := hst.below hS
 replace hA := hA.below hS
 replace hBt := hBt.below hS
 replace hWy := hWy.below hS
 replace hXy := hXy.below hS
 replace hD3 := hD3.below hS
 replace hD4 := hD4.below hS
 replace hD2 := hD2.below hS
 replace hb15 := hb15.below hS
 clear hS hB24
 clear hb
 have hdd : decide (([0, 6, 8, 15] : List Int) = [0, 6, 8, 15]) = true := by decide
 rw [hdd]
 clear hdd
 clear hA
 clear hb15
 go_wp2_with fail
 obtain ⟨w26, hwn⟩ : ∃ V, V = w25.alloc (Obj.cells #[.int .i64 6, .int .i64 0, .int .i64 14, .int .i64 12] 3) := ⟨_, rfl⟩
 have hbn : Below w25.heap.size w25 w26 := by rw [hwn]; exact (Below.refl _ _).alloc (Nat.le_refl _) _
 obtain ⟨b16, hbq⟩ : ∃ b, b = w25.heap.size := ⟨_, rfl⟩
 have hb16 : RdI w26 (some ⟨b16, 0, none⟩) 4 [6, 0, 14, 12] := by rw [hwn]; exact RdS.of_new (cs := encI [6, 0, 14, 12]) hbq rfl
 have hszb16 : w26.heap.size = b16 + 1 := by rw [hwn, hbq]; simp
 rw [← hbq, ← hwn]
 clear hwn hbq
 have kz := hszb16
 clear hszb16
 have hS := hbn
 have hB26 := hB25.call hS rfl
 replace hst := hst.below hS
 replace hBt := hBt.below hS
 replace hWy := hWy.below hS
 replace hXy := hXy.below hS
 replace hD3 := hD3.below hS
 replace hD4 := hD4.below hS
 replace hD2 := hD2.below hS
 clear hS hB25
 have hszb16 := kz
 clear hbn kz
 go_wp2_with fail
 refine (c30 A2 (some ⟨b16, 0, none⟩) 4 4 c2 4 [6, 0, 14, 12] [6, 0, 14, 12] _ (by decide) (by decide) hBt hb16).mono ?_
 rintro e w27 ⟨rfl, hb⟩
 have hS := hb
 have hB27 := hB26.call hS rfl
 replace hst := hst.below hS
 replace hBt := hBt.below hS
 replace hWy := hWy.below hS
 replace hXy := hXy.below hS
 replace hD3 := hD3.below hS
 replace hD4 := hD4.below hS
 replace hD2 := hD2.below hS
 replace hb16 := hb16.below hS
 clear hS hB26
 clear hb
 have hdd : decide (([6, 0, 14, 12] : List Int) = [6, 0, 14, 12]) = true := by decide
 rw [hdd]
 clear hdd
 clear hBt
 clear hb16
 go_wp2_with fail
 obtain ⟨w28, hwn⟩ : ∃ V, V = w27.alloc (Obj.cells #[.int .i64 0, .int .i64 3] 3) := ⟨_, rfl⟩
 have hbn : Below w27.heap.size w27 w28 := by rw [hwn]; exact (Below.refl _ _).alloc (Nat.le_refl _) _
 obtain ⟨b17, hbq⟩ : ∃ b, b = w27.heap.size := ⟨_, rfl⟩
 have hb17 : RdI w28 (some ⟨b17, 0, none⟩) 2 [0, 3] := by rw [hwn]; exact RdS.of_new (cs := encI [0, 3]) hbq rfl
 have hszb17 : w28.heap.size = b17 + 1 := by rw [hwn, hbq]; simp
 rw [← hbq, ← hwn]
 clear hwn hbq
 have kz := hszb17
 clear hszb17
 have hS := hbn
 have hB28 := hB27.call hS rfl
 replace hst := hst.below hS
 replace hWy := hWy.below hS
 replace hXy := hXy.below hS
 replace hD3 := hD3.below hS
 replace hD4 := hD4.below hS
 replace hD2 := hD2.below hS
 clear hS hB27
 have hszb17 := kz
 clear hbn kz
 go_wp2_with fail
 refine (c30 A3 (some ⟨b17, 0, none⟩) 2 2 c3 2 [0, 3] [0, 3] _ (by decide) (by decide) hWy hb17).mono ?_
 rintro e w29 ⟨rfl, hb⟩
 have hS := hb
 have hB29 := hB28.call hS rfl
 replace hst := hst.below hS
 replace hWy := hWy.below hS
 replace hXy := hXy.below hS
 replace hD3 := hD3.below hS
 replace hD4 := hD4.below hS
 replace hD2 := hD2.below hS
 replace hb17 := hb17.below hS
 clear hS hB28
 clear hb
 have hdd : decide (([0, 3] : List Int) = [0, 3]) = true := by decide
 rw [hdd]
 clear hdd
 clear hWy
 clear hb17
 go_wp2_with fail
 obtain ⟨w30, hwn⟩ : ∃ V, V = w29.alloc (Obj.cells #[.int .i64 1, .int .i64 0, .int .i64 2] 3) := ⟨_, rfl⟩
 have hbn : Below w29.heap.size w29 w30 := by rw [hwn]; exact (Below.refl _ _).alloc (Nat.le_refl _) _
 obtain ⟨b18, hbq⟩ : ∃ b, b = w29.heap.size := ⟨_, rfl⟩
 have hb18 : RdI w30 (some ⟨b18, 0, none⟩) 3 [1, 0, 2] := by rw [hwn]; exact RdS.of_new (cs := encI [1, 0, 2]) hbq rfl
 have hszb18 : w30.heap.size = b18 + 1 := by rw [hwn, hbq]; simp
 rw [← hbq, ← hwn]
 clear hwn hbq
 have kz := hszb18
 clear hszb18
 have hS := hbn
 have hB30 := hB29.call hS rfl
 replace hst := hst.below hS
 replace hXy := hXy.below hS
 replace hD3 := hD3.below hS
 replace hD4 := hD4.below hS
 replace hD2 := hD2.below hS
 clear hS hB29
 have hszb18 := kz
 clear hbn kz
 go_wp2_with fail
 refine (c30 A4 (some ⟨b18, 0, none⟩) 3 3 c4 3 [1, 0, 2] [1, 0, 2] _ (by decide) (by decide) hXy hb18).mono ?_
 rintro e w31 ⟨rfl, hb⟩
 have hS := hb
 have hB31 := hB30.call hS rfl
 replace hst := hst.below hS
 replace hXy := hXy.below hS
 replace hD3 := hD3.below hS
 replace hD4 := hD4.below hS
 replace hD2 := hD2.below hS
 replace hb18 := hb18.below hS
 clear hS hB30
 clear hb
 have hdd : decide (([1, 0, 2] : List Int) = [1, 0, 2]) = true := by decide
 rw [hdd]
 clear hdd
 clear hXy
 clear hb18
 go_wp2_with fail
 obtain ⟨w32, hwn⟩ : ∃ V, V = w31.alloc (Obj.cells #[.int .i64 1, .int .i64 (-1), .int .i64 4, .int .i64 (-1)] 3) := ⟨_, rfl⟩
 have hbn : Below w31.heap.size w31 w32 := by rw [hwn]; exact (Below.refl _ _).alloc (Nat.le_refl _) _
 obtain ⟨b19, hbq⟩ : ∃ b, b = w31.heap.size := ⟨_, rfl⟩
 have hb19 : RdI w32 (some ⟨b19, 0, none⟩) 4 [1, -1, 4, -1] := by rw [hwn]; exact RdS.of_new (cs := encI [1, -1, 4, -1]) hbq rfl
 have hszb19 : w32.heap.size = b19 + 1 := by rw [hwn, hbq]; simp
 rw [← hbq, ← hwn]
 clear hwn hbq
 have kz := hszb19
 clear hszb19
 have hS := hbn
 have hB32 := hB31.call hS rfl
 replace hst := hst.below hS
 replace hD3 := hD3.below hS
 replace hD4 := hD4.below hS
 replace hD2 := hD2.below hS
 clear hS hB31
 have hszb19 := kz
 clear hbn kz
 go_wp2_with fail
 refine (c30 A5 (some ⟨b19, 0, none⟩) 4 4 cA5 4 [1, -1, 4, -1] [1, -1, 4, -1] _ (by decide) (by decide) hD3 hb19).mono ?_
 rintro e w33 ⟨rfl, hb⟩
 have hS := hb
 have hB33 := hB32.call hS rfl
 replace hst := hst.below hS
 replace hD3 := hD3.below hS
 replace hD4 := hD4.below hS
 replace hD2 := hD2.below hS
 replace hb19 := hb19.below hS
 clear hS hB32
 clear hb
 have hdd : decide (([1, -1, 4, -1] : List Int) = [1, -1, 4, -1]) = true := by decide
 rw [hdd]
 clear hdd
 clear hD3
 clear hb19
 go_wp2_with fail
 obtain ⟨w34, hwn⟩ : ∃ V, V = w33.alloc (Obj.cells #[.int .i64 1, .int .i64 1, .int .i64 4, .int .i64 5] 3) := ⟨_, rfl⟩
 have hbn : Below w33.heap.size w33 w34 := by rw [hwn]; exact (Below.refl _ _).alloc (Nat.le_refl _) _
 obtain ⟨b20, hbq⟩ : ∃ b, b = w33.heap.size := ⟨_, rfl⟩
 have hb20 : RdI w34 (some ⟨b20, 0, none⟩) 4 [1, 1, 4, 5] := by rw [hwn]; exact RdS.of_new (cs := encI [1, 1, 4, 5]) hbq rfl
 have hszb20 : w34.heap.size = b20 + 1 := by rw [hwn, hbq]; simp
 rw [← hbq, ← hwn]
 clear hwn hbq
 have kz := hszb20
 clear hszb20
 have hS := hbn
 have hB34 := hB33.call hS rfl
 replace hst := hst.below hS
 replace hD4 := hD4.below hS
 replace hD2 := hD2.below hS
 clear hS hB33
 have hszb20 := kz
 clear hbn kz
 go_wp2_with fail
 refine (c30 A6 (some ⟨b20, 0, none⟩) 4 4 cA6 4 [1, 1, 4, 5] [1, 1, 4, 5] _ (by decide) (by decide) hD4 hb20).mono ?_
 rintro e w35 ⟨rfl, hb⟩
 have hS := hb
 have hB35 := hB34.call hS rfl
 replace hst := hst.below hS
 replace hD4 := hD4.below hS
 replace hD2 := hD2.below hS
 replace hb20 := hb20.below hS
 clear hS hB34
 clear hb
 have hdd : decide (([1, 1, 4, 5] : List Int) = [1, 1, 4, 5]) = true := by decide
 rw [hdd]
 clear hdd
 clear hD4
 clear hb20
 go_wp2_with fail
 obtain ⟨w36, hwn⟩ : ∃ V, V = w35.alloc (Obj.cells #[.int .i64 (-1), .int .i64 (-1), .int .i64 (-1), .int .i64 (-1)] 3) := ⟨_, rfl⟩
 have hbn : Below w35.heap.size w35 w36 := by rw [hwn]; exact (Below.refl _ _).alloc (Nat.le_refl _) _
 obtain ⟨b21, hbq⟩ : ∃ b, b = w35.heap.size := ⟨_, rfl⟩
 have hb21 : RdI w36 (some ⟨b21, 0, none⟩) 4 [-1, -1, -1, -1] := by rw [hwn]; exact RdS.of_new (cs := encI [-1, -1, -1, -1]) hbq rfl
 have hszb21 : w36.heap.size = b21 + 1 := by rw [hwn, hbq]; simp
 rw [← hbq, ← hwn]
 clear hwn hbq
 have kz := hszb21
 clear hszb21
 have hS := hbn
 have hB36 := hB35.call hS rfl
 replace hst := hst.below hS
 replace hD2 := hD2.below hS
 clear hS hB35
 have hszb21 := kz
 clear hbn kz
 go_wp2_with fail
 refine (c30 A7 (some ⟨b21, 0, none⟩) 4 4 cA7 4 [-1, -1, -1, -1] [-1, -1, -1, -1] _ (by decide) (by decide) hD2 hb21).mono ?_
 rintro e w37 ⟨rfl, hb⟩
 have hS := hb
 have hB37 := hB36.call hS rfl
 replace hst := hst.below hS
 replace hD2 := hD2.below hS
 replace hb21 := hb21.below hS
 clear hS hB36
 clear hb
 have hdd : decide (([-1, -1, -1, -1] : List Int) = [-1, -1, -1, -1]) = true := by decide
 rw [hdd]
 clear hdd
 clear hD2
 clear hb21
 go_wp2_with fail
 refine (c86 _).mono ?_
 rintro e w38 ⟨g22, rfl, hg22, hb⟩
 have hS := hb
 have hB38 := hB37.call hS rfl
 replace hst := hst.below hS
 clear hS hB37
 clear hb
 go_wp2_with fail
 refine (c87 3 _).mono ?_
 rintro e w39 ⟨p23, rfl, hp23, hb⟩
 have hS := hb
 have hB39 := hB38.call hS rfl
 replace hst := hst.below hS
 replace hg22 := hg22.below hS
 clear hS hB38
 clear hb
 go_wp2_with fail
 obtain ⟨w40, hwn⟩ : ∃ V, V = w39.alloc (Obj.cells #[.int .i64 1, .int .i64 10, .int .i64 100, .int .i64 1000] 3) := ⟨_, rfl⟩
 have hbn : Below w39.heap.size w39 w40 := by rw [hwn]; exact (Below.refl _ _).alloc (Nat.le_refl _) _
 obtain ⟨b24, hbq⟩ : ∃ b, b = w39.heap.size := ⟨_, rfl⟩
 have hb24 : RdI w40 (some ⟨b24, 0, none⟩) 4 [1, 10, 100, 1000] := by rw [hwn]; exact RdS.of_new (cs := encI [1, 10, 100, 1000]) hbq rfl
 have hszb24 : w40.heap.size = b24 + 1 := by rw [hwn, hbq]; simp
 rw [← hbq, ← hwn]
 clear hwn hbq
 have kz := hszb24
 clear hszb24
 have hS := hbn
 have hB40 := hB39.call hS rfl
 replace hst := hst.below hS
 replace hg22 := hg22.below hS
 replace hp23 := hp23.below hS
 clear hS hB39
 have hszb24 := kz
 clear hbn kz
 go_wp2_with fail
 refine (aM g22 p23 _ _ hg22 hp23 hst hb24).mono ?_
 rintro e w41 ⟨A8, c8, rfl, hM8, hb⟩
 have hS := hb
 have hB41 := hB40.call hS rfl
 replace hst := hst.below hS
 replace hg22 := hg22.below hS
 replace hp23 := hp23.below hS
 replace hb24 := hb24.below hS
 clear hS hB40
 clear hb
 clear hg22
 clear hp23
 clear hb24
 go_wp2_with fail
 refine (c86 _).mono ?_
 rintro e w42 ⟨g25, rfl, hg25, hb⟩
 have hS := hb
 have hB42 := hB41.call hS rfl
 replace hst := hst.below hS
 replace hM8 := hM8.below hS
 clear hS hB41
 clear hb
 go_wp2_with fail
 refine (c87 3 _).mono ?_
 rintro e w43 ⟨p26, rfl, hp26, hb⟩
 have hS := hb
 have hB43 := hB42.call hS rfl
 replace hst := hst.below hS
 replace hM8 := hM8.below hS
 replace hg25 := hg25.below hS
 clear hS hB42
 clear hb
 go_wp2_with fail
 refine (c88 _).mono ?_
 rintro e w44 ⟨d27, rfl, hd27, hb⟩
 have hS := hb
 have hB44 := hB43.call hS rfl
 replace hst := hst.below hS
 replace hM8 := hM8.below hS
 replace hg25 := hg25.below hS
 replace hp26 := hp26.below hS
 clear hS hB43
 clear hb
 go_wp2_with fail
 refine (aI g25 p26 _ _ hg25 hp26 hst hd27).mono ?_
 rintro e w45 ⟨A9, c9, rfl, hI9, hb⟩
 have hS := hb
 have hB45 := hB44.call hS rfl
 replace hst := hst.below hS
 replace hM8 := hM8.below hS
 replace hg25 := hg25.below hS
 replace hp26 := hp26.below hS
 replace hd27 := hd27.below hS
 clear hS hB44
 clear hb
 clear hg25
 clear hp26
 clear hd27
 go_wp2_with fail
 obtain ⟨w46, hwn⟩ : ∃ V, V = w45.alloc (Obj.cells #[.int .i64 0, .int .i64 1, .int .i64 0, .int .i64 0, .int .i64 100, .int .i64 0] 3) := ⟨_, rfl⟩
 have hbn : Below w45.heap.size w45 w46 := by rw [hwn]; exact (Below.refl _ _).alloc (Nat.le_refl _) _
 obtain ⟨b28, hbq⟩ : ∃ b, b = w45.heap.size := ⟨_, rfl⟩
 have hb28 : RdI w46 (some ⟨b28, 0, none⟩) 6 [0, 1, 0, 0, 100, 0] := by rw [hwn]; exact RdS.of_new (cs := encI [0, 1, 0, 0, 100, 0]) hbq rfl
 have hszb28 : w46.heap.size = b28 + 1 := by rw [hwn, hbq]; simp
 rw [← hbq, ← hwn]
 clear hwn hbq
 have kz := hszb28
 clear hszb28
 have hS := hbn
 have hB46 := hB45.call hS rfl
 replace hst := hst.below hS
 replace hM8 := hM8.below hS
 replace hI9 := hI9.below hS
 clear hS hB45
 have hszb28 := kz
 clear hbn kz
 go_wp2_with fail
 refine (c88 _).mono ?_
 rintro e w47 ⟨d29, rfl, hd29, hb⟩
 have hS := hb
 have hB47 := hB46.call hS rfl
 replace hst := hst.below hS
 replace hM8 := hM8.below hS
 replace hI9 := hI9.below hS
 replace hb28 := hb28.below hS
 clear hS hB46
 clear hb
 obtain ⟨db, doff, xD, aD, capD, heD, hxD, hdbD, hdcD, hrD⟩ := hd29.at (k := 0) (by decide)
 cases heD
 obtain rfl : [0, 5, 0, 0, 7, 9] = xD := by simpa using hxD
 clear hxD
 go_wp2_with fail
 refine (aN1 _ aD _ capD _ hb28 hrD).mono ?_
 rintro e w48 ⟨rfl, hb⟩
 have hS := hb
 have hB48 := hB47.call hS rfl
 replace hst := hst.below hS
 replace hM8 := hM8.below hS
 replace hI9 := hI9.below hS
 replace hb28 := hb28.below hS
 replace hd29 := hd29.below hS
 replace hrD := hrD.below hS
 clear hS hB47
 clear hb
 clear hdbD hdcD
 clear hb28
 clear hd29
 clear hrD
 go_wp2_with fail
 obtain ⟨w49, hwn⟩ : ∃ V, V = w48.alloc (Obj.cells #[.int .i64 1, .int .i64 10, .int .i64 100, .int .i64 1000] 3) := ⟨_, rfl⟩
 have hbn : Below w48.heap.size w48 w49 := by rw [hwn]; exact (Below.refl _ _).alloc (Nat.le_refl _) _
 obtain ⟨b31, hbq⟩ : ∃ b, b = w48.heap.size := ⟨_, rfl⟩
 have hb31 : RdI w49 (some ⟨b31, 0, none⟩) 4 [1, 10, 100, 1000] := by rw [hwn]; exact RdS.of_new (cs := encI [1, 10, 100, 1000]) hbq rfl
 have hszb31 : w49.heap.size = b31 + 1 := by rw [hwn, hbq]; simp
 rw [← hbq, ← hwn]
 clear hwn hbq
 have kz := hszb31
 clear hszb31
 have hS := hbn
 have hB49 := hB48.call hS rfl
 replace hst := hst.below hS
 replace hM8 := hM8.below hS
 replace hI9 := hI9.below hS
 clear hS hB48
 have hszb31 := kz
 clear hbn kz
 obtain ⟨w50, hwn⟩ : ∃ V, V = w49.alloc (Obj.cells #[.int .i64 5, .int .i64 0, .int .i64 7, .int .i64 0] 3) := ⟨_, rfl⟩
 have hbn : Below w49.heap.size w49 w50 := by rw [hwn]; exact (Below.refl _ _).alloc (Nat.le_refl _) _
 obtain ⟨b32, hbq0⟩ : ∃ b, b = b31 + 1 := ⟨_, rfl⟩
 have hbq : b32 = w49.heap.size := by rw [hbq0, hszb31]
 clear hszb31
 have hb32 : RdI w50 (some ⟨b32, 0, none⟩) 4 [5, 0, 7, 0] := by rw [hwn]; exact RdS.of_new (cs := encI [5, 0, 7, 0]) hbq rfl
 have hszb32 : w50.heap.size = b32 + 1 := by rw [hwn, hbq]; simp
 rw [← hbq0, ← hwn]
 clear hwn hbq hbq0
 have kz := hszb32
 clear hszb32
 have hS := hbn
 have hB50 := hB49.call hS rfl
 replace hst := hst.below hS
 replace hM8 := hM8.below hS
 replace hI9 := hI9.below hS
 replace hb31 := hb31.below hS
 clear hS hB49
 have hszb32 := kz
 clear hbn kz
 go_wp2_with fail
 refine (aN2 _ _ _ _ _ hb31 hb32).mono ?_
 rintro e w51 ⟨rfl, hb⟩
 have hS := hb
 have hB51 := hB50.call hS rfl
 replace hst := hst.below hS
 replace hM8 := hM8.below hS
 replace hI9 := hI9.below hS
 replace hb31 := hb31.below hS
 replace hb32 := hb32.below hS
 clear hS hB50
 clear hb
 clear hb31
 clear hb32
 go_wp2_with fail
 refine (c86 _).mono ?_
 rintro e w52 ⟨g33, rfl, hg33, hb⟩
 have hS := hb
 have hB52 := hB51.call hS rfl
 replace hst := hst.below hS
 replace hM8 := hM8.below hS
 replace hI9 := hI9.below hS
 clear hS hB51
 clear hb
 go_wp2_with fail
 refine (c87 3 _).mono ?_
 rintro e w53 ⟨p34, rfl, hp34, hb⟩
 have hS := hb
 have hB53 := hB52.call hS rfl
 replace hst := hst.below hS
 replace hM8 := hM8.below hS
 replace hI9 := hI9.below hS
 replace hg33 := hg33.below hS
 clear hS hB52
 clear hb
 go_wp2_with fail
 obtain ⟨w54, hwn⟩ : ∃ V, V = w53.alloc (Obj.cells #[.int .i64 1, .int .i64 10, .int .i64 100, .int .i64 1000] 3) := ⟨_, rfl⟩
 have hbn : Below w53.heap.size w53 w54 := by rw [hwn]; exact (Below.refl _ _).alloc (Nat.le_refl _) _
 obtain ⟨b35, hbq⟩ : ∃ b, b = w53.heap.size := ⟨_, rfl⟩
 have hb35 : RdI w54 (some ⟨b35, 0, none⟩) 4 [1, 10, 100, 1000] := by rw [hwn]; exact RdS.of_new (cs := encI [1, 10, 100, 1000]) hbq rfl
 have hszb35 : w54.heap.size = b35 + 1 := by rw [hwn, hbq]; simp
 rw [← hbq, ← hwn]
 clear hwn hbq
 have kz := hszb35
 clear hszb35
 have hS := hbn
 have hB54 := hB53.call hS rfl
 replace hst := hst.below hS
 replace hM8 := hM8.below hS
 replace hI9 := hI9.below hS
 replace hg33 := hg33.below hS
 replace hp34 := hp34.below hS
 clear hS hB53
 have hszb35 := kz
 clear hbn kz
 go_wp2_with fail
 refine (c88 _).mono ?_
 rintro e w55 ⟨d36, rfl, hd36, hb⟩
 have hS := hb
 have hB55 := hB54.call hS rfl
 replace hst := hst.below hS
 replace hM8 := hM8.below hS
 replace hI9 := hI9.below hS
 replace hg33 := hg33.below hS
 replace hp34 := hp34.below hS
 replace hb35 := hb35.below hS
 clear hS hB54
 clear hb
 go_wp2_with fail
 refine (aF g33 p34 _ _ _ hg33 hp34 hst hb35 hd36).mono ?_
 rintro e w56 ⟨rfl, hb⟩
 have hS := hb
 have hB56 := hB55.call hS rfl
 replace hst := hst.below hS
 replace hM8 := hM8.below hS
 replace hI9 := hI9.below hS
 replace hg33 := hg33.below hS
 replace hp34 := hp34.below hS
 replace hb35 := hb35.below hS
 replace hd36 := hd36.below hS
 clear hS hB55
 clear hb
 clear hg33
 clear hp34
 clear hb35
 clear hd36
 go_wp2_with fail
 refine (c86 _).mono ?_
 rintro e w57 ⟨g37, rfl, hg37, hb⟩
 have hS := hb
 have hB57 := hB56.call hS rfl
 replace hst := hst.below hS
 replace hM8 := hM8.below hS
 replace hI9 := hI9.below hS
 clear hS hB56
 clear hb
 go_wp2_with fail
 refine (c87 3 _).mono ?_
 rintro e w58 ⟨p38, rfl, hp38, hb⟩
 have hS := hb
 have hB58 := hB57.call hS rfl
 replace hst := hst.below hS
 replace hM8 := hM8.below hS
 replace hI9 := hI9.below hS
 replace hg37 := hg37.below hS
 clear hS hB57
 clear hb
 go_wp2_with fail
 refine (c88 _).mono ?_
 rintro e w59 ⟨d39, rfl, hd39, hb⟩
 have hS := hb
 have hB59 := hB58.call hS rfl
 replace hst := hst.below hS
 replace hM8 := hM8.below hS
 replace hI9 := hI9.below hS
 replace hg37 := hg37.below hS
 replace hp38 := hp38.below hS
 clear hS hB58
 clear hb
 go_wp2_with fail
 obtain ⟨w60, hwn⟩ : ∃ V, V = w59.alloc (Obj.cells #[.int .i64 0, .int .i64 0, .int .i64 0, .int .i64 0, .int .i64 0, .int .i64 9] 3) := ⟨_, rfl⟩
 have hbn : Below w59.heap.size w59 w60 := by rw [hwn]; exact (Below.refl _ _).alloc (Nat.le_refl _) _
 obtain ⟨b40, hbq⟩ : ∃ b, b = w59.heap.size := ⟨_, rfl⟩
 have hb40 : RdI w60 (some ⟨b40, 0, none⟩) 6 [0, 0, 0, 0, 0, 9] := by rw [hwn]; exact RdS.of_new (cs := encI [0, 0, 0, 0, 0, 9]) hbq rfl
 have hszb40 : w60.heap.size = b40 + 1 := by rw [hwn, hbq]; simp
 rw [← hbq, ← hwn]
 clear hwn hbq
 have kz := hszb40
 clear hszb40
 have hS := hbn
 have hB60 := hB59.call hS rfl
 replace hst := hst.below hS
 replace hM8 := hM8.below hS
 replace hI9 := hI9.below hS
 replace hg37 := hg37.below hS
 replace hp38 := hp38.below hS
 replace hd39 := hd39.below hS
 clear hS hB59
 have hszb40 := kz
 clear hbn kz
 have hk41 := Lib.hid hb40
 obtain ⟨w61, hwn⟩ : ∃ V, V = w60.alloc (Obj.cells #[.slice (some ⟨b40, 0, none⟩) 6 6] 22) := ⟨_, rfl⟩
 have hbn : Below w60.heap.size w60 w61 := by rw [hwn]; exact (Below.refl _ _).alloc (Nat.le_refl _) _
 obtain ⟨e41, hbq0⟩ : ∃ b, b = b40 + 1 := ⟨_, rfl⟩
 have hbq : e41 = w60.heap.size := by rw [hbq0, hszb40]
 clear hszb40
 have he41 : RdD w61 (some ⟨e41, 0, none⟩) 1 [[0, 0, 0, 0, 0, 9]] := by rw [hwn]; exact rdD_one hbq hk41.out rfl
 have hsze41 : w61.heap.size = e41 + 1 := by rw [hwn, hbq]; simp
 rw [← hbq0, ← hwn]
 clear hwn hbq hbq0
 have kz := hsze41
 clear hsze41
 have hS := hbn
 have hB61 := hB60.call hS rfl
 replace hst := hst.below hS
 replace hM8 := hM8.below hS
 replace hI9 := hI9.below hS
 replace hg37 := hg37.below hS
 replace hp38 := hp38.below hS
 replace hd39 := hd39.below hS
 replace hb40 := hb40.below hS
 clear hS hB60
 have hsze41 := kz
 clear hbn kz
 go_wp2_with fail
 refine (aB g37 p38 _ _ _ hg37 hp38 hst hd39 he41).mono ?_
 rintro e w62 ⟨rfl, hb⟩
 have hS := hb
 have hB62 := hB61.call hS rfl
 replace hst := hst.below hS
 replace hM8 := hM8.below hS
 replace hI9 := hI9.below hS
 replace hg37 := hg37.below hS
 replace hp38 := hp38.below hS
 replace hd39 := hd39.below hS
 replace hb40 := hb40.below hS
 replace he41 := he41.below hS
 clear hS hB61
 clear hb
 clear hg37
 clear hp38
 clear hd39
 clear hb40
 clear he41
 go_wp2_with fail
 refine (c86 _).mono ?_
 rintro e w63 ⟨g42, rfl, hg42, hb⟩
 have hS := hb
 have hB63 := hB62.call hS rfl
 replace hst := hst.below hS
 replace hM8 := hM8.below hS
 replace hI9 := hI9.below hS
 clear hS hB62
 clear hb
 go_wp2_with fail
 refine (c87 3 _).mono ?_
 rintro e w64 ⟨p43, rfl, hp43, hb⟩
 have hS := hb
 have hB64 := hB63.call hS rfl
 replace hst := hst.below hS
 replace hM8 := hM8.below hS
 replace hI9 := hI9.below hS
 replace hg42 := hg42.below hS
 clear hS hB63
 clear hb
 go_wp2_with fail
 refine (c88 _).mono ?_
 rintro e w65 ⟨d44, rfl, hd44, hb⟩
 have hS := hb
 have hB65 := hB64.call hS rfl
 replace hst := hst.below hS
 replace hM8 := hM8.below hS
 replace hI9 := hI9.below hS
 replace hg42 := hg42.below hS
 replace hp43 := hp43.below hS
 clear hS hB64
 clear hb
 go_wp2_with fail
 refine (aA2 g42 p43 _ _ hg42 hp43 hst hd44).mono ?_
 rintro e w66 ⟨rfl, hb⟩
 have hS := hb
 have hB66 := hB65.call hS rfl
 replace hst := hst.below hS
 replace hM8 := hM8.below hS
 replace hI9 := hI9.below hS
 replace hg42 := hg42.below hS
 replace hp43 := hp43.below hS
 replace hd44 := hd44.below hS
 clear hS hB65
 clear hb
 clear hg42
 clear hp43
 clear hd44
 go_wp2_with fail
 obtain ⟨w67, hwn⟩ : ∃ V, V = w66.alloc (Obj.cells #[.int .i64 7, .int .i64 1] 61) := ⟨_, rfl⟩
 have hbn : Below w66.heap.size w66 w67 := by rw [hwn]; exact (Below.refl _ _).alloc (Nat.le_refl _) _
 obtain ⟨bA, hbq⟩ : ∃ b, b = w66.heap.size := ⟨_, rfl⟩
 have kA : w67.heap[bA]? = some (.cells #[.int .i64 7, .int .i64 1] 61 (0, 0)) := by rw [hwn]; exact heap_new hbq
 have hszbA : w67.heap.size = bA + 1 := by rw [hwn, hbq]; simp
 rw [← hbq, ← hwn]
 clear hwn hbq
 have kz := hszbA
 clear hszbA
 have hS := hbn
 have hB67 := hB66.call hS rfl
 replace hst := hst.below hS
 replace hM8 := hM8.below hS
 replace hI9 := hI9.below hS
 clear hS hB66
 have hszbA := kz
 clear hbn kz
 go_wp2_with fail
 refine (c86 _).mono ?_
 rintro e w68 ⟨g45, rfl, hg45, hb⟩
 have hS := hb
 have hB68 := hB67.call hS rfl
 replace hst := hst.below hS
 replace hM8 := hM8.below hS
 replace hI9 := hI9.below hS
 replace kA := blkb kA hS
 clear hS hB67
 clear hb
 go_wp2_with fail
 refine (c87 3 _).mono ?_
 rintro e w69 ⟨p46, rfl, hp46, hb⟩
 have hS := hb
 have hB69 := hB68.call hS rfl
 replace hst := hst.below hS
 replace hM8 := hM8.below hS
 replace hI9 := hI9.below hS
 replace kA := blkb kA hS
 replace hg45 := hg45.below hS
 clear hS hB68
 clear hb
 go_wp2_with fail
 refine (c88 _).mono ?_
 rintro e w70 ⟨d47, rfl, hd47, hb⟩
 have hS := hb
 have hB70 := hB69.call hS rfl
 replace hst := hst.below hS
 replace hM8 := hM8.below hS
 replace hI9 := hI9.below hS
 replace kA := blkb kA hS
 replace hg45 := hg45.below hS
 replace hp46 := hp46.below hS
 clear hS hB69
 clear hb
 go_wp2_with fail
 refine (aA1 g45 p46 _ _ hg45 hp46 hst hd47).mono ?_
 rintro e w71 ⟨rfl, hb⟩
 have hS := hb
 have hB71 := hB70.call hS rfl
 replace hst := hst.below hS
 replace hM8 := hM8.below hS
 replace hI9 := hI9.below hS
 replace kA := blkb kA hS
 replace hg45 := hg45.below hS
 replace hp46 := hp46.below hS
 replace hd47 := hd47.below hS
 clear hS hB70
 clear hb
 clear hg45
 clear hp46
 clear hd47
 go_wp2_with fail
 obtain ⟨w72, hwn⟩ : ∃ V, V = w71.alloc (Obj.cells #[.int .i64 0, .int .i64 0] 61) := ⟨_, rfl⟩
 have hbn : Below w71.heap.size w71 w72 := by rw [hwn]; exact (Below.refl _ _).alloc (Nat.le_refl _) _
 obtain ⟨bZ, hbq⟩ : ∃ b, b = w71.heap.size := ⟨_, rfl⟩
 have kZ : w72.heap[bZ]? = some (.cells #[.int .i64 0, .int .i64 0] 61 (0, 0)) := by rw [hwn]; exact heap_new hbq
 have hszbZ : w72.heap.size = bZ + 1 := by rw [hwn, hbq]; simp
 rw [← hbq, ← hwn]
 clear hwn hbq
 have kz := hszbZ
 clear hszbZ
 have hS := hbn
 have hB72 := hB71.call hS rfl
 replace hst := hst.below hS
 replace hM8 := hM8.below hS
 replace hI9 := hI9.below hS
 replace kA := blkb kA hS
 clear hS hB71
 have hszbZ := kz
 clear hbn kz
 clear kZ
 obtain ⟨w73, hwn⟩ : ∃ V, V = w72.alloc (Obj.cells #[.int .i64 0, .int .i64 1, .int .i64 0, .int .i64 0, .int .i64 100, .int .i64 0] 3) := ⟨_, rfl⟩
 have hbn : Below w72.heap.size w72 w73 := by rw [hwn]; exact (Below.refl _ _).alloc (Nat.le_refl _) _
 obtain ⟨b48, hbq0⟩ : ∃ b, b = bZ + 1 := ⟨_, rfl⟩
 have hbq : b48 = w72.heap.size := by rw [hbq0, hszbZ]
 clear hszbZ
 have hb48 : RdI w73 (some ⟨b48, 0, none⟩) 6 [0, 1, 0, 0, 100, 0] := by rw [hwn]; exact RdS.of_new (cs := encI [0, 1, 0, 0, 100, 0]) hbq rfl
 have hszb48 : w73.heap.size = b48 + 1 := by rw [hwn, hbq]; simp
 rw [← hbq0, ← hwn]
 clear hwn hbq hbq0
 have kz := hszb48
 clear hszb48
 have hS := hbn
 have hB73 := hB72.call hS rfl
 replace hst := hst.below hS
 replace hM8 := hM8.below hS
 replace hI9 := hI9.below hS
 replace kA := blkb kA hS
 clear hS hB72
 have hszb48 := kz
 clear hbn kz
 have hk49 := Lib.hid hb48
 obtain ⟨w74, hwn⟩ : ∃ V, V = w73.alloc (Obj.cells #[.slice (some ⟨b48, 0, none⟩) 6 6] 22) := ⟨_, rfl⟩
 have hbn : Below w73.heap.size w73 w74 := by rw [hwn]; exact (Below.refl _ _).alloc (Nat.le_refl _) _
 obtain ⟨e49, hbq0⟩ : ∃ b, b = b48 + 1 := ⟨_, rfl⟩
 have hbq : e49 = w73.heap.size := by rw [hbq0, hszb48]
 clear hszb48
 have he49 : RdD w74 (some ⟨e49, 0, none⟩) 1 [[0, 1, 0, 0, 100, 0]] := by rw [hwn]; exact rdD_one hbq hk49.out rfl
 have hsze49 : w74.heap.size = e49 + 1 := by rw [hwn, hbq]; simp
 rw [← hbq0, ← hwn]
 clear hwn hbq hbq0
 have kz := hsze49
 clear hsze49
 have hS := hbn
 have hB74 := hB73.call hS rfl
 replace hst := hst.below hS
 replace hM8 := hM8.below hS
 replace hI9 := hI9.below hS
 replace kA := blkb kA hS
 replace hb48 := hb48.below hS
 clear hS hB73
 have hsze49 := kz
 clear hbn kz
 go_wp2_with fail
 refine (c27 A8 (some ⟨e49, 0, none⟩) 1 1 c8 1 [[0, 1, 0, 0, 100, 0]] [[0, 1, 0, 0, 100, 0]] _ (by decide) (by decide) (by decide) (by decide) hM8 he49).mono ?_
 rintro e w75 ⟨rfl, hb⟩
 have hS := hb
 have hB75 := hB74.call hS rfl
 replace hst := hst.below hS
 replace hM8 := hM8.below hS
 replace hI9 := hI9.below hS
 replace kA := blkb kA hS
 replace hb48 := hb48.below hS
 replace he49 := he49.below hS
 clear hS hB74
 clear hb
 have hdd : decide (([[0, 1, 0, 0, 100, 0]] : List (List Int)) = [[0, 1, 0, 0, 100, 0]]) = true := by decide
 rw [hdd]
 clear hdd
 clear hM8
 clear hb48
 clear he49
 have yA_0 : w75.cell? ⟨bA, 0, none⟩ = some (.int .i64 7) := cell_at kA rfl
 have yA_1 : w75.cell? ⟨bA, 1, none⟩ = some (.int .i64 1) := cell_at kA rfl
 have zlA : bA < w75.heap.size := (Array.getElem?_eq_some_iff.1 kA).1
 have eqA := eqR
 go_wp2_with fail
 obtain ⟨w76, hwn⟩ : ∃ V, V = w75.alloc (Obj.cells #[.int .i64 5, .int .i64 0, .int .i64 7, .int .i64 0] 3) := ⟨_, rfl⟩
 have hbn : Below w75.heap.size w75 w76 := by rw [hwn]; exact (Below.refl _ _).alloc (Nat.le_refl _) _
 obtain ⟨b50, hbq⟩ : ∃ b, b = w75.heap.size := ⟨_, rfl⟩
 have hb50 : RdI w76 (some ⟨b50, 0, none⟩) 4 [5, 0, 7, 0] := by rw [hwn]; exact RdS.of_new (cs := encI [5, 0, 7, 0]) hbq rfl
 have hszb50 : w76.heap.size = b50 + 1 := by rw [hwn, hbq]; simp
 rw [← hbq, ← hwn]
 clear hwn hbq
 have kz := hszb50
 clear hszb50
 have hS := hbn
 have hB76 := hB75.call hS rfl
 replace hst := hst.below hS
 replace hI9 := hI9.below hS
 replace kA := blkb kA hS
 clear hS hB75
 have hszb50 := kz
 clear hbn kz
 clear yA_0 yA_1 zlA
 have yA_0 : w76.cell? ⟨bA, 0, none⟩ = some (.int .i64 7) := cell_at kA rfl
 have yA_1 : w76.cell? ⟨bA, 1, none⟩ = some (.int .i64 1) := cell_at kA rfl
 have zlA : bA < w76.heap.size := (Array.getElem?_eq_some_iff.1 kA).1
 go_wp2_with fail
 refine (c30 A9 (some ⟨b50, 0, none⟩) 4 4 c9 4 [5, 0, 7, 0] [5, 0, 7, 0] _ (by decide) (by decide) hI9 hb50).mono ?_
 rintro e w77 ⟨rfl, hb⟩
 have hS := hb
 have hB77 := hB76.call hS rfl
 replace hst := hst.below hS
 replace hI9 := hI9.below hS
 replace kA := blkb kA hS
 replace hb50 := hb50.below hS
 clear hS hB76
 clear hb
 have hdd : decide (([5, 0, 7, 0] : List Int) = [5, 0, 7, 0]) = true := by decide
 rw [hdd]
 clear hdd
 clear hI9
 clear hb50
 clear yA_0 yA_1 zlA
 have yA_0 : w77.cell? ⟨bA, 0, none⟩ = some (.int .i64 7) := cell_at kA rfl
 have yA_1 : w77.cell? ⟨bA, 1, none⟩ = some (.int .i64 1) := cell_at kA rfl
 have zlA : bA < w77.heap.size := (Array.getElem?_eq_some_iff.1 kA).1
 go_wp2_with fail
 obtain ⟨w78, hwn⟩ : ∃ V, V = w77.alloc (Obj.cells #[.complex .f32 1065353216 0, .complex .f32 1065353216 0, .complex .f32 1065353216 0, .complex .f32 1065353216 0] 84) := ⟨_, rfl⟩
 have hbn : Below w77.heap.size w77 w78 := by rw [hwn]; exact (Below.refl _ _).alloc (Nat.le_refl _) _
 obtain ⟨bP, hbq⟩ : ∃ b, b = w77.heap.size := ⟨_, rfl⟩
 have kP : w78.heap[bP]? = some (.cells #[.complex .f32 1065353216 0, .complex .f32 1065353216 0, .complex .f32 1065353216 0, .complex .f32 1065353216 0] 84 (0, 0)) := by rw [hwn]; exact heap_new hbq
 have hszbP : w78.heap.size = bP + 1 := by rw [hwn, hbq]; simp
 rw [← hbq, ← hwn]
 clear hwn hbq
 have kz := hszbP
 clear hszbP
 have hS := hbn
 have hB78 := hB77.call hS rfl
 replace hst := hst.below hS
 replace kA := blkb kA hS
 clear hS hB77
 have hszbP := kz
 clear hbn kz
 clear yA_0 yA_1 zlA
 clear kA
 go_wp2_with fail
 refine (c45_1 _).mono ?_
 rintro e w79 ⟨rfl, hb⟩
 have hS := hb
 have hB79 := hB78.call hS rfl
 replace hst := hst.below hS
 replace kP := blkb kP hS
 clear hS hB78
 clear hb
 have yP_0 : w79.cell? ⟨bP, 0, none⟩ = some (.complex .f32 1065353216 0) := cell_at kP rfl
 have yP_1 : w79.cell? ⟨bP, 1, none⟩ = some (.complex .f32 1065353216 0) := cell_at kP rfl
 have yP_2 : w79.cell? ⟨bP, 2, none⟩ = some (.complex .f32 1065353216 0) := cell_at kP rfl
 have yP_3 : w79.cell? ⟨bP, 3, none⟩ = some (.complex .f32 1065353216 0) := cell_at kP rfl
 have zlP : bP < w79.heap.size := (Array.getElem?_eq_some_iff.1 kP).1
 go_wp2_with fail
 obtain ⟨w80, hwn⟩ : ∃ V, V = w79.alloc (Obj.cells #[.complex .f32 1065353216 0, .complex .f32 0 3212836864, .complex .f32 3212836864 2147483648, .complex .f32 2147483648 1065353216] 84) := ⟨_, rfl⟩
 have hbn : Below w79.heap.size w79 w80 := by rw [hwn]; exact (Below.refl _ _).alloc (Nat.le_refl _) _
 obtain ⟨bY, hbq⟩ : ∃ b, b = w79.heap.size := ⟨_, rfl⟩
 have kY : w80.heap[bY]? = some (.cells #[.complex .f32 1065353216 0, .complex .f32 0 3212836864, .complex .f32 3212836864 2147483648, .complex .f32 2147483648 1065353216] 84 (0, 0)) := by rw [hwn]; exact heap_new hbq
 have hszbY : w80.heap.size = bY + 1 := by rw [hwn, hbq]; simp
 rw [← hbq, ← hwn]
 clear hwn hbq
 have kz := hszbY
 clear hszbY
 have hS := hbn
 have hB80 := hB79.call hS rfl
 replace hst := hst.below hS
 replace kP := blkb kP hS
 clear hS hB79
 have hszbY := kz
 clear hbn kz
 obtain ⟨w81, hwn⟩ : ∃ V, V = w80.alloc (Obj.cells #[.int .i64 2, .int .i64 3, .int .i64 1, .int .i64 5] 80) := ⟨_, rfl⟩
 have hbn : Below w80.heap.size w80 w81 := by rw [hwn]; exact (Below.refl _ _).alloc (Nat.le_refl _) _
 obtain ⟨bL, hbq0⟩ : ∃ b, b = bY + 1 := ⟨_, rfl⟩
 have hbq : bL = w80.heap.size := by rw [hbq0, hszbY]
 clear hszbY
 have hL : RdY w81 (some ⟨bL, 0, none⟩) 2 [⟨2, 3⟩, ⟨1, 5⟩] := by rw [hwn]; exact RdS.of_new (cs := [.int .i64 2, .int .i64 3, .int .i64 1, .int .i64 5]) hbq rfl
 have hszbL : w81.heap.size = bL + 1 := by rw [hwn, hbq]; simp
 rw [← hbq0, ← hwn]
 clear hwn hbq hbq0
 have kz := hszbL
 clear hszbL
 have hS := hbn
 have hB81 := hB80.call hS rfl
 replace hst := hst.below hS
 replace kP := blkb kP hS
 replace kY := blkb kY hS
 clear hS hB80
 have hszbL := kz
 clear hbn kz
 clear yP_0 yP_1 yP_2 yP_3 zlP
 go_wp2_with fail
 refine (c44_1 bL _ hL).mono ?_
 rintro e w82 ⟨rfl, hb⟩
 have hS := hb
 have hB82 := hB81.call hS rfl
 replace hst := hst.below hS
 replace kP := blkb kP hS
 replace kY := blkb kY hS
 replace hL := hL.below hS
 clear hS hB81
 clear hb
 clear hL
 clear kP
 go_wp2_with fail
 obtain ⟨w83, hwn⟩ : ∃ V, V = w82.alloc (Obj.cells #[.complex .f32 1065353216 0, .complex .f32 2147483648 1065353216, .complex .f32 3212836864 2147483648, .complex .f32 0 3212836864] 84) := ⟨_, rfl⟩
 have hbn : Below w82.heap.size w82 w83 := by rw [hwn]; exact (Below.refl _ _).alloc (Nat.le_refl _) _
 obtain ⟨bW, hbq⟩ : ∃ b, b = w82.heap.size := ⟨_, rfl⟩
 have kW : w83.heap[bW]? = some (.cells #[.complex .f32 1065353216 0, .complex .f32 2147483648 1065353216, .complex .f32 3212836864 2147483648, .complex .f32 0 3212836864] 84 (0, 0)) := by rw [hwn]; exact heap_new hbq
 have hszbW : w83.heap.size = bW + 1 := by rw [hwn, hbq]; simp
 rw [← hbq, ← hwn]
 clear hwn hbq
 have kz := hszbW
 clear hszbW
 have hS := hbn
 have hB83 := hB82.call hS rfl
 replace hst := hst.below hS
 replace kY := blkb kY hS
 clear hS hB82
 have hszbW := kz
 clear hbn kz
 go_wp2_with fail
 refine (c86 _).mono ?_
 rintro e w84 ⟨g52, rfl, hg52, hb⟩
 have hS := hb
 have hB84 := hB83.call hS rfl
 replace hst := hst.below hS
 replace kY := blkb kY hS
 replace kW := blkb kW hS
 clear hS hB83
 clear hb
 go_wp2_with fail
 refine (hpr g52 _ hg52).mono ?_
 rintro e w85 ⟨rfl, hb⟩
 have hS := hb
 have hB85 := hB84.call hS rfl
 replace hst := hst.below hS
 replace kY := blkb kY hS
 replace kW := blkb kW hS
 replace hg52 := hg52.below hS
 clear hS hB84
 clear hb
 clear hg52
 have yY_0 : w85.cell? ⟨bY, 0, none⟩ = some (.complex .f32 1065353216 0) := cell_at kY rfl
 have yY_1 : w85.cell? ⟨bY, 1, none⟩ = some (.complex .f32 0 3212836864) := cell_at kY rfl
 have yY_2 : w85.cell? ⟨bY, 2, none⟩ = some (.complex .f32 3212836864 2147483648) := cell_at kY rfl
 have yY_3 : w85.cell? ⟨bY, 3, none⟩ = some (.complex .f32 2147483648 1065353216) := cell_at kY rfl
 have zlY : bY < w85.heap.size := (Array.getElem?_eq_some_iff.1 kY).1
 have yW_0 : w85.cell? ⟨bW, 0, none⟩ = some (.complex .f32 1065353216 0) := cell_at kW rfl
 have yW_1 : w85.cell? ⟨bW, 1, none⟩ = some (.complex .f32 2147483648 1065353216) := cell_at kW rfl
 have yW_2 : w85.cell? ⟨bW, 2, none⟩ = some (.complex .f32 3212836864 2147483648) := cell_at kW rfl
 have yW_3 : w85.cell? ⟨bW, 3, none⟩ = some (.complex .f32 0 3212836864) := cell_at kW rfl
 have zlW : bW < w85.heap.size := (Array.getElem?_eq_some_iff.1 kW).1
 have eqY := eqYp
 have eqZ := eqZp
 go_wp2_with fail
 go_ret
 exact ⟨rfl, hB85⟩

end Go.Proofs.YtdimmlljjmmdbaaGreatDoor
