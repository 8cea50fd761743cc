/- A part of the proofs about chapter 7 (image): contracts of functions and plain laws (V44, V45, ShelfA, V46, V47, V48). -/
import Derived.Shelf.Strings.Builder1
import Derived.Shelf.Strings.Builder2
import Derived.Shelf.Strings.OnBuilder
import Derived.Shelf.Small.Strs
import Derived.Shelf.Small.Wraps
import Derived.Shelf.Strings.BuilderF
import Derived.Shelf.Strings.BuilderK
import Derived.Shelf.Utf8.RuneCount
import Derived.Shelf.Strings.Builder2Cap
import Derived.Shelf.Strconv.Itoa0
import Derived.Shelf.Strconv.Itoa1
import Derived.Shelf.LaysM
import Derived.Shelf.Strconv.Itoa2
import Derived.Shelf.Strconv.Itoa3
import Derived.Shelf.Strings.Search1
import Derived.Shelf.Strings.Search2
import Derived.Shelf.Strings.Search3
import Derived.Shelf.Strings.Count
import Derived.Shelf.Strings.Shaped
import Derived.Shelf.Strings.Prefix
import Derived.Shelf.Strings.Split
import Derived.Shelf.Strings.SplitShaped
import Derived.Shelf.Unicode.Decode
import Derived.Shelf.Strings.RuneCount
import Derived.Shelf.Strings.Explode
import Derived.Shelf.Bits.Mul64
import Derived.Shelf.Unicode.DecodeSlow
import Derived.Shelf.Unicode.DecodeAny
import Derived.Shelf.Slices.Equal
import Derived.Ground.Names2Prog
import Derived.Shelf.Slices.Clone
import Derived.Shelf.Slices.SearchI
import Derived.Shelf.Slices.Empties2
import Derived.Ground.SlgnProg
import Derived.Shelf.SlicesE.Clone
import Derived.Test.YtdimmlljjmmdbaaGreatDoorProg
import Derived.Test.YtdimmlljjmmdbaaGreatDoorZ09g
import Derived.Test.YtdimmlljjmmdbaaGreatDoorZ09h
set_option linter.all false
namespace Go.Proofs.YtdimmlljjmmdbaaGreatDoor
open Go.RowKit
set_option maxHeartbeats 4000000
set_option maxRecDepth 20000
theorem run_store_complex {P : Program} {w : World} {a : Addr} {m : Mode} (k : FloatKind) (x y : Nat) : (store a (.complex k x y) m).run P w = stored P w a (.complex k x y) m := run_store P w a _ m rfl
attribute [go_sem] run_store_complex
/-- floats and complex numbers of the panel of ones -/
theorem fo1 : FloatKind.f32.format.order 1065353216 3313500160 = some .gt := by kernel_rfl
theorem fo2 : FloatKind.f32.format.order 1065353216 1166016512 = some .lt := by kernel_rfl
theorem fo3 : FloatKind.f32.format.order 0 3313500160 = some .gt := by kernel_rfl
theorem fo4 : FloatKind.f32.format.order 0 1166016512 = some .lt := by kernel_rfl
theorem fo5 : FloatKind.f32.format.order 1098907648 1098907648 = some .eq := by kernel_rfl
theorem fo6 : FloatKind.f32.format.order 0 0 = some .eq := by kernel_rfl
theorem fm1 (w : World) : (binOp .mul 81 (.float .f32 1098907648) (.float .f32 1065353216)).run Tryz.prog w = .ok (.float .f32 1098907648) w := by kernel_rfl
theorem fm0 (w : World) : (binOp .mul 81 (.float .f32 1098907648) (.float .f32 0)).run Tryz.prog w = .ok (.float .f32 0) w := by kernel_rfl
theorem fn1 (w : World) : (binOp .neq 81 (.float .f32 1098907648) (.float .f32 1098907648)).run Tryz.prog w = .ok (.bool false) w := by kernel_rfl
theorem fn0 (w : World) : (binOp .neq 81 (.float .f32 0) (.float .f32 0)).run Tryz.prog w = .ok (.bool false) w := by kernel_rfl
theorem fc1 (w : World) : (convert 81 3 (.float .f32 1098907648)).run Tryz.prog w = .ok (.int .i64 16) w := by kernel_rfl
theorem fc0 (w : World) : (convert 81 3 (.float .f32 0)).run Tryz.prog w = .ok (.int .i64 0) w := by kernel_rfl
theorem fi1 (w : World) : (convert 3 81 (.int .i64 16)).run Tryz.prog w = .ok (.float .f32 1098907648) w := by kernel_rfl
theorem fi0 (w : World) : (convert 3 81 (.int .i64 0)).run Tryz.prog w = .ok (.float .f32 0) w := by kernel_rfl
theorem cs1 (w : World) : (binOp .sub 83 (.complex .f32 1065353216 0) (.complex .f32 1065353216 0)).run Tryz.prog w = .ok (.complex .f32 0 0) w := by kernel_rfl
theorem cn0 (w : World) : (binOp .neq 83 (.complex .f32 0 0) (.complex .f32 0 0)).run Tryz.prog w = .ok (.bool false) w := by kernel_rfl
theorem c153_1 (w : World) : Calls Tryz.prog 153 #[.float .f32 1065353216] w fun en w' => en = .returned (.int .i64 0) ∧ w = w' := by
 have o1 := fo1; have o2 := fo2; have o5 := fo5; have m1 := fm1; have n1 := fn1; have a1 := fc1; have b1 := fi1
 go_enter Tryz.func153, Tryz.ntmps153
 go_wp2_with (go_at_call 94; refine (c94 false 3 _).mono ?_; rintro e w' ⟨rfl, rfl⟩)
 go_ret
 exact ⟨rfl, rfl⟩
theorem c153_0 (w : World) : Calls Tryz.prog 153 #[.float .f32 0] w fun en w' => en = .returned (.int .i64 0) ∧ w = w' := by
 have o1 := fo3; have o2 := fo4; have o5 := fo6; have m1 := fm0; have n1 := fn0; have a1 := fc0; have b1 := fi0
 go_enter Tryz.func153, Tryz.ntmps153
 go_wp2_with (go_at_call 94; refine (c94 false 3 _).mono ?_; rintro e w' ⟨rfl, rfl⟩)
 go_ret
 exact ⟨rfl, rfl⟩
theorem c152_1 (w : World) : Calls Tryz.prog 152 #[.complex .f32 1065353216 0] w fun en w' => en = .returned (.int .i64 0) ∧ Below w.heap.size w w' := by
 have s1 := cs1; have n0 := cn0
 go_enter Tryz.func152, Tryz.ntmps152
 go_wp2_with fail
 refine (c94 false 1 _).mono ?_
 rintro e w' ⟨rfl, rfl⟩
 go_wp2_with fail
 refine (c153_1 _).mono ?_
 rintro e w' ⟨rfl, rfl⟩
 go_wp2_with fail
 refine (c153_0 _).mono ?_
 rintro e w' ⟨rfl, rfl⟩
 go_wp2_with fail
 refine (c89 _ 3 3 [Mo.when false 1, 0, 0] _ rfl (by omega) (RdS.of_new (cs := encI [Mo.when false 1, 0, 0]) rfl rfl)).mono ?_
 rintro e w' ⟨rfl, rfl⟩
 have hf : Mo.first [Mo.when false 1, 0, 0] = 0 := rfl
 rw [hf]
 have hB := (Below.refl w.heap.size w).alloc (Nat.le_refl _) (Obj.cells (encI [Mo.when false 1, 0, 0]).toArray 32)
 go_wp2
 go_ret
 exact ⟨rfl, hB⟩
/-- the block of a panel of ones -/
def Ones (w : World) (b : Nat) : Prop := ∀ k, k < 4 → w.cell? ⟨b, k, none⟩ = some (.complex .f32 1065353216 0)
theorem Ones.below {w w' : World} {b : Nat} (h : Ones w b) (hb : Below w.heap.size w w') : Ones w' b := fun k hk => by
 have h1 := h k hk
 exact (hb.cell (p := ⟨b, k, none⟩) (cell_lt h1)).trans h1
theorem c151_1 (b : Nat) (w : World) (H : Ones w b) :
  Calls Tryz.prog 151 #[.slice (some ⟨b, 0, none⟩) 4 4, .func (.func 152) #[] #[]] w fun en w' => ∃ A' cap', en = .returned (.slice A' 4 cap') ∧ RdI w' A' 4 [0, 0, 0, 0] ∧ Below w.heap.size w w' := by
 obtain ⟨i0, hi, hz0, hz1, hz2⟩ := info_parts info32
 have HH := Lib.hid H
 clear H
 go_enter Tryz.func151, Tryz.ntmps151
 go_wp2
 go_loopw [5, 10] (fun x i wr => ∃ k : Nat, k ≤ 4 ∧ i = .int .i64 k ∧ wr.ownsRow w.heap.size 32 1 x k (List.replicate k (.int .i64 0)) ∧ Below w.heap.size w wr) (fun _ i _ => 4 - (intOf i).toNat)
 case atStart => exact ⟨0, Nat.zero_le _, rfl, World.ownsRow_nil _ _ _ _, Below.refl _ _⟩
 case round =>
  obtain ⟨k, hk, rfl, hown, hB⟩ := hrel
  by_cases hlt : k < 4
  ·have hc := (HH.out.below hB) k hlt
   have hbl := cell_lt hc
   have hk4 : (k : Int) < 4 := by omega
   have hk0 : (0 : Int) ≤ (k : Int) := by omega
   go_wp2_with fail
   refine (c152_1 _).mono ?_
   rintro e w2 ⟨rfl, hb2⟩
   have hown2 := own_below hown hb2
   have hB2 := fin0 hB hb2
   have hsz := hB2.size
   go_wp2_with (at_builtin; refine wpList_append_own _ rfl _ _ 152 rfl w.heap.size 32 i0 (.int .i64 0) 1 8 Tryz.underlying152 hi hz0 hz1 hz2 rfl (by decide) _ _ _ rfl (hown2.alloc _) ⟨w2.heap.size, 0, none⟩ 1 1 [Value.int .i64 0] rfl rfl (news_one _ _ rfl) (fun x hx => by rw [List.mem_singleton.1 hx]; rfl) (by unfold maxLen; omega) (by omega) (by simp; omega) ?_)
   intro x' w3 hown3 hg3 _
   have hB3 : Below w.heap.size w w3 := (hB2.alloc hsz _).grown hg3 (by simp; omega) (fun g hg => (hown2.lt g hg).1)
   have HO : Hid (w3.ownsRow w.heap.size 32 1 x' (k + 1) (List.replicate (k + 1) (.int .i64 0))) := Lib.hid (by rw [List.replicate_succ']; exact hown3)
   clear hown3 hg3 hown2 hown
   go_wp2
   go_roundw
   case rel => exact ⟨k + 1, by omega, by go_num, HO.out, hB3⟩
   case measure => simp [intOf]; omega
  ·obtain rfl : k = 4 := by omega
   have HO := Lib.hid hown
   clear hown
   go_wp2
   go_ret
   obtain ⟨A', cap', rfl, hr⟩ := Sl.of_own HO.out
   exact ⟨A', cap', rfl, hr, hB⟩
theorem pe1 (w : World) : (Op.equalIn 10000 84 (.agg #[.complex .f32 1065353216 0, .complex .f32 1065353216 0, .complex .f32 1065353216 0, .complex .f32 1065353216 0]) (.agg #[.complex .f32 0 0, .complex .f32 0 0, .complex .f32 0 0, .complex .f32 0 0])).run Tryz.prog w = .ok false w := by kernel_rfl
theorem c120_1 (w : World) : Calls Tryz.prog 120 #[.agg #[.complex .f32 1065353216 0, .complex .f32 1065353216 0, .complex .f32 1065353216 0, .complex .f32 1065353216 0]] w fun en w' => en = .returned (.int .i64 0) ∧ Below w.heap.size w w' := by
 have p1 := pe1
 obtain ⟨w0, hW⟩ : ∃ W, W = w.alloc (Obj.cells #[.complex .f32 1065353216 0, .complex .f32 1065353216 0, .complex .f32 1065353216 0, .complex .f32 1065353216 0] 84) := ⟨_, rfl⟩
 have hT0 : w0.heap[w.heap.size]? = some (.cells #[.complex .f32 1065353216 0, .complex .f32 1065353216 0, .complex .f32 1065353216 0, .complex .f32 1065353216 0] 84 (0, 0)) := by rw [hW]; exact heap_new rfl
 have hB0 : Below w.heap.size w w0 := by rw [hW]; exact (Below.refl _ _).alloc (Nat.le_refl _) _
 have hon : Ones w0 w.heap.size := fun k hk => by
  have h4 : k = 0 ∨ k = 1 ∨ k = 2 ∨ k = 3 := by omega
  rcases h4 with rfl | rfl | rfl | rfl <;> exact cell_at hT0 rfl
 go_enter Tryz.func120, Tryz.ntmps120
 go_wp2_with fail
 rw [← hW]
 refine (c151_1 _ _ hon).mono ?_
 rintro e w1 ⟨A1, cap1, rfl, hr1, hb1⟩
 have hB1 := hB0.call hb1 rfl
 clear hon hT0 hW hb1
 go_wp2_with fail
 refine (c89 A1 4 cap1 _ _ hr1.len (by omega) hr1).mono ?_
 rintro e w' ⟨rfl, rfl⟩
 have hf : Mo.first [0, 0, 0, 0] = 0 := rfl
 rw [hf]
 go_wp2
 go_ret
 exact ⟨rfl, hB1⟩
theorem px0 (W : World) : (Instr.index 84 (.agg #[.complex .f32 1065353216 0, .complex .f32 1065353216 0, .complex .f32 1065353216 0, .complex .f32 1065353216 0]) (.int .i64 0)).run Tryz.prog W = .ok (.complex .f32 1065353216 0) W := by kernel_rfl
theorem px1 (W : World) : (Instr.index 84 (.agg #[.complex .f32 1065353216 0, .complex .f32 1065353216 0, .complex .f32 1065353216 0, .complex .f32 1065353216 0]) (.int .i64 1)).run Tryz.prog W = .ok (.complex .f32 1065353216 0) W := by kernel_rfl
theorem px2 (W : World) : (Instr.index 84 (.agg #[.complex .f32 1065353216 0, .complex .f32 1065353216 0, .complex .f32 1065353216 0, .complex .f32 1065353216 0]) (.int .i64 2)).run Tryz.prog W = .ok (.complex .f32 1065353216 0) W := by kernel_rfl
theorem px3 (W : World) : (Instr.index 84 (.agg #[.complex .f32 1065353216 0, .complex .f32 1065353216 0, .complex .f32 1065353216 0, .complex .f32 1065353216 0]) (.int .i64 3)).run Tryz.prog W = .ok (.complex .f32 1065353216 0) W := by kernel_rfl
theorem ng1 (w : World) : (Op.unary UnOp.neg (.float .f32 1065353216)).run Tryz.prog w = .ok (.float .f32 3212836864) w := by kernel_rfl
theorem ng0 (w : World) : (Op.unary UnOp.neg (.float .f32 0)).run Tryz.prog w = .ok (.float .f32 2147483648) w := by kernel_rfl
theorem ngc (w : World) : (Op.unary UnOp.neg (.complex .f32 1065353216 0)).run Tryz.prog w = .ok (.complex .f32 3212836864 2147483648) w := by kernel_rfl
theorem bt1 : bits BinOp.and IntKind.i64 1 3 = 1 := by kernel_rfl
theorem bt11 : bits BinOp.and IntKind.i64 11 3 = 3 := by kernel_rfl
theorem bt0 : bits BinOp.and IntKind.i64 0 3 = 0 := by kernel_rfl
theorem bt2 : bits BinOp.and IntKind.i64 2 3 = 2 := by kernel_rfl
theorem bt3 : bits BinOp.and IntKind.i64 3 3 = 3 := by kernel_rfl
theorem bt6 : bits BinOp.and IntKind.i64 6 3 = 2 := by kernel_rfl
theorem bt9 : bits BinOp.and IntKind.i64 9 3 = 1 := by kernel_rfl
theorem wp0 : wrap64 0 = 0 := by kernel_rfl
theorem wp1 : wrap64 1 = 1 := by kernel_rfl
theorem wp2 : wrap64 2 = 2 := by kernel_rfl
theorem wp3 : wrap64 3 = 3 := by kernel_rfl
theorem wp6 : wrap64 6 = 6 := by kernel_rfl
theorem wp9 : wrap64 9 = 9 := by kernel_rfl
def pan1 (k : Nat) : Array Value := if k = 0 then #[.complex .f32 1065353216 0, .complex .f32 1065353216 0, .complex .f32 1065353216 0, .complex .f32 1065353216 0] else if k = 1 then #[.complex .f32 1065353216 0, .complex .f32 1065353216 0, .complex .f32 1065353216 0, .complex .f32 1065353216 0] else if k = 2 then #[.complex .f32 1065353216 0, .complex .f32 0 3212836864, .complex .f32 1065353216 0, .complex .f32 1065353216 0] else if k = 3 then #[.complex .f32 1065353216 0, .complex .f32 0 3212836864, .complex .f32 3212836864 2147483648, .complex .f32 1065353216 0] else #[.complex .f32 1065353216 0, .complex .f32 0 3212836864, .complex .f32 3212836864 2147483648, .complex .f32 2147483648 1065353216]
theorem c123_1 (w : World) : Calls Tryz.prog 123 #[.agg #[.complex .f32 1065353216 0, .complex .f32 1065353216 0, .complex .f32 1065353216 0, .complex .f32 1065353216 0], .int .i64 1] w fun en w' => en = .returned (.agg #[.complex .f32 1065353216 0, .complex .f32 0 3212836864, .complex .f32 3212836864 2147483648, .complex .f32 2147483648 1065353216]) ∧ Below w.heap.size w w' := by
 obtain ⟨w0, hW⟩ : ∃ W, W = ((w.alloc (Obj.cells #[.complex .f32 1065353216 0, .complex .f32 1065353216 0, .complex .f32 1065353216 0, .complex .f32 1065353216 0] 84)).alloc (Obj.cells #[.complex .f32 0 0, .complex .f32 0 0, .complex .f32 0 0, .complex .f32 0 0] 84)).alloc (Obj.cells #[.complex .f32 1065353216 0, .complex .f32 1065353216 0, .complex .f32 1065353216 0, .complex .f32 1065353216 0] 84) := ⟨_, rfl⟩
 have hT1 : w0.heap[w.heap.size + 1]? = some (.cells #[.complex .f32 0 0, .complex .f32 0 0, .complex .f32 0 0, .complex .f32 0 0] 84 (0, 0)) := by rw [hW]; exact heap_old (by simp) (heap_new (by simp))
 have hT2 : w0.heap[w.heap.size + 1 + 1]? = some (.cells #[.complex .f32 1065353216 0, .complex .f32 1065353216 0, .complex .f32 1065353216 0, .complex .f32 1065353216 0] 84 (0, 0)) := by rw [hW]; exact heap_new (by simp)
 have hB0 : Below w.heap.size w w0 := by rw [hW]; exact (below2 _ _ _).alloc (by simp; omega) _
 have hst0 : Hid (w0.heap[w.heap.size + 1 + 1]? = some (.cells (pan1 0) 84 (0, 0))) := Lib.hid hT2
 have HT1 := Lib.hid hT1
 have HB0 := Lib.hid hB0
 have t1 := bt1
 have t11 := bt11
 have t0 := bt0
 have t2 := bt2
 have t3 := bt3
 have t6 := bt6
 have t9 := bt9
 have v0 := wp0
 have v1 := wp1
 have v2 := wp2
 have v3 := wp3
 have v6 := wp6
 have v9 := wp9
 have g1 := ng1
 have g0 := ng0
 have gc := ngc
 go_enter Tryz.func123, Tryz.ntmps123
 go_wp2_with fail
 rw [← hW]
 clear hW hT1 hT2 hB0
 go_loopw [10] (fun i wr => ∃ (k : Nat) (z : Int), k ≤ 4 ∧ z = (k : Int) ∧ i = .int .i64 z ∧ Hid (wr.heap[w.heap.size + 1 + 1]? = some (.cells (pan1 k) 84 (0, 0))) ∧ Hid (wr.heap[w.heap.size + 1]? = some (.cells #[.complex .f32 0 0, .complex .f32 0 0, .complex .f32 0 0, .complex .f32 0 0] 84 (0, 0))) ∧ Hid (Below w.heap.size w wr)) (fun i _ => 4 - (intOf i).toNat)
 case atStart => exact ⟨0, 0, Nat.zero_le _, rfl, rfl, hst0, HT1, HB0⟩
 case round =>
  clear hst0 HT1 HB0
  obtain ⟨k, z, hk, hz, rfl, HP, HZ, HB⟩ := hrel
  have h5 : k = 0 ∨ k = 1 ∨ k = 2 ∨ k = 3 ∨ k = 4 := by omega
  rcases h5 with rfl | rfl | rfl | rfl | rfl
  ·obtain rfl : z = 0 := hz
   have ix := px0
   go_wp2
   go_roundw
   case rel => exact ⟨1, 1, by omega, rfl, rfl, HP, HZ, HB⟩
   case measure => simp [intOf]
  ·obtain rfl : z = 1 := hz
   have ix := px1
   have qc : wr.cell? ⟨w.heap.size + 1 + 1, 1, none⟩ = some (.complex .f32 1065353216 0) := cell_at HP.out rfl
   have qf : wr.frozen? ⟨w.heap.size + 1 + 1, 1, none⟩ = false := free_at HP.out
   have HP2 : Hid ((wr.setCell ⟨w.heap.size + 1 + 1, 1, none⟩ (.complex .f32 0 3212836864)).heap[w.heap.size + 1 + 1]? = some (.cells (pan1 2) 84 (0, 0))) := Lib.hid (set_blk (i := 1) HP.out _)
   have HZ2 : Hid ((wr.setCell ⟨w.heap.size + 1 + 1, 1, none⟩ (.complex .f32 0 3212836864)).heap[w.heap.size + 1]? = some (.cells #[.complex .f32 0 0, .complex .f32 0 0, .complex .f32 0 0, .complex .f32 0 0] 84 (0, 0))) := Lib.hid ((set_far (p := ⟨w.heap.size + 1 + 1, 1, none⟩) _ (by show w.heap.size + 1 ≠ w.heap.size + 1 + 1; omega)).trans HZ.out)
   have HB2 : Hid (Below w.heap.size w (wr.setCell ⟨w.heap.size + 1 + 1, 1, none⟩ (.complex .f32 0 3212836864))) := Lib.hid (HB.out.setCell (p := ⟨w.heap.size + 1 + 1, 1, none⟩) (by show _ ≤ w.heap.size + 1 + 1; omega) _)
   go_wp2
   go_roundw
   case rel => exact ⟨2, 2, by omega, rfl, rfl, HP2, HZ2, HB2⟩
   case measure => simp [intOf]
  ·obtain rfl : z = 2 := hz
   have ix := px2
   have qc : wr.cell? ⟨w.heap.size + 1 + 1, 2, none⟩ = some (.complex .f32 1065353216 0) := cell_at HP.out rfl
   have qf : wr.frozen? ⟨w.heap.size + 1 + 1, 2, none⟩ = false := free_at HP.out
   have HP2 : Hid ((wr.setCell ⟨w.heap.size + 1 + 1, 2, none⟩ (.complex .f32 3212836864 2147483648)).heap[w.heap.size + 1 + 1]? = some (.cells (pan1 3) 84 (0, 0))) := Lib.hid (set_blk (i := 2) HP.out _)
   have HZ2 : Hid ((wr.setCell ⟨w.heap.size + 1 + 1, 2, none⟩ (.complex .f32 3212836864 2147483648)).heap[w.heap.size + 1]? = some (.cells #[.complex .f32 0 0, .complex .f32 0 0, .complex .f32 0 0, .complex .f32 0 0] 84 (0, 0))) := Lib.hid ((set_far (p := ⟨w.heap.size + 1 + 1, 2, none⟩) _ (by show w.heap.size + 1 ≠ w.heap.size + 1 + 1; omega)).trans HZ.out)
   have HB2 : Hid (Below w.heap.size w (wr.setCell ⟨w.heap.size + 1 + 1, 2, none⟩ (.complex .f32 3212836864 2147483648))) := Lib.hid (HB.out.setCell (p := ⟨w.heap.size + 1 + 1, 2, none⟩) (by show _ ≤ w.heap.size + 1 + 1; omega) _)
   go_wp2
   go_roundw
   case rel => exact ⟨3, 3, by omega, rfl, rfl, HP2, HZ2, HB2⟩
   case measure => simp [intOf]
  ·obtain rfl : z = 3 := hz
   have ix := px3
   have qc : wr.cell? ⟨w.heap.size + 1 + 1, 3, none⟩ = some (.complex .f32 1065353216 0) := cell_at HP.out rfl
   have qf : wr.frozen? ⟨w.heap.size + 1 + 1, 3, none⟩ = false := free_at HP.out
   have HP2 : Hid ((wr.setCell ⟨w.heap.size + 1 + 1, 3, none⟩ (.complex .f32 2147483648 1065353216)).heap[w.heap.size + 1 + 1]? = some (.cells (pan1 4) 84 (0, 0))) := Lib.hid (set_blk (i := 3) HP.out _)
   have HZ2 : Hid ((wr.setCell ⟨w.heap.size + 1 + 1, 3, none⟩ (.complex .f32 2147483648 1065353216)).heap[w.heap.size + 1]? = some (.cells #[.complex .f32 0 0, .complex .f32 0 0, .complex .f32 0 0, .complex .f32 0 0] 84 (0, 0))) := Lib.hid ((set_far (p := ⟨w.heap.size + 1 + 1, 3, none⟩) _ (by show w.heap.size + 1 ≠ w.heap.size + 1 + 1; omega)).trans HZ.out)
   have HB2 : Hid (Below w.heap.size w (wr.setCell ⟨w.heap.size + 1 + 1, 3, none⟩ (.complex .f32 2147483648 1065353216))) := Lib.hid (HB.out.setCell (p := ⟨w.heap.size + 1 + 1, 3, none⟩) (by show _ ≤ w.heap.size + 1 + 1; omega) _)
   go_wp2
   go_roundw
   case rel => exact ⟨4, 4, by omega, rfl, rfl, HP2, HZ2, HB2⟩
   case measure => simp [intOf]
  ·obtain rfl : z = 4 := hz
   have c0 : wr.cell? ⟨w.heap.size + 1 + 1, 0, none⟩ = some (.complex .f32 1065353216 0) := cell_at HP.out rfl
   have c1 : wr.cell? ⟨w.heap.size + 1 + 1, 1, none⟩ = some (.complex .f32 0 3212836864) := cell_at HP.out rfl
   have c2 : wr.cell? ⟨w.heap.size + 1 + 1, 2, none⟩ = some (.complex .f32 3212836864 2147483648) := cell_at HP.out rfl
   have c3 : wr.cell? ⟨w.heap.size + 1 + 1, 3, none⟩ = some (.complex .f32 2147483648 1065353216) := cell_at HP.out rfl
   have z0 : wr.cell? ⟨w.heap.size + 1, 0, none⟩ = some (.complex .f32 0 0) := cell_at HZ.out rfl
   have z1 : wr.cell? ⟨w.heap.size + 1, 1, none⟩ = some (.complex .f32 0 0) := cell_at HZ.out rfl
   have z2 : wr.cell? ⟨w.heap.size + 1, 2, none⟩ = some (.complex .f32 0 0) := cell_at HZ.out rfl
   have z3 : wr.cell? ⟨w.heap.size + 1, 3, none⟩ = some (.complex .f32 0 0) := cell_at HZ.out rfl
   have f0 : wr.frozen? ⟨w.heap.size + 1, 0, none⟩ = false := free_at HZ.out
   have f1 : wr.frozen? ⟨w.heap.size + 1, 1, none⟩ = false := free_at HZ.out
   have f2 : wr.frozen? ⟨w.heap.size + 1, 2, none⟩ = false := free_at HZ.out
   have f3 : wr.frozen? ⟨w.heap.size + 1, 3, none⟩ = false := free_at HZ.out
   have hT := set_blk (i := 3) (set_blk (i := 2) (set_blk (i := 1) (set_blk (i := 0) HZ.out (.complex .f32 1065353216 0)) (.complex .f32 0 3212836864)) (.complex .f32 3212836864 2147483648)) (.complex .f32 2147483648 1065353216)
   have hbf := (((HB.out.setCell (p := ⟨w.heap.size + 1, 0, none⟩) (by show _ ≤ w.heap.size + 1; omega) (.complex .f32 1065353216 0)).setCell (p := ⟨w.heap.size + 1, 1, none⟩) (by show _ ≤ w.heap.size + 1; omega) (.complex .f32 0 3212836864)).setCell (p := ⟨w.heap.size + 1, 2, none⟩) (by show _ ≤ w.heap.size + 1; omega) (.complex .f32 3212836864 2147483648)).setCell (p := ⟨w.heap.size + 1, 3, none⟩) (by show _ ≤ w.heap.size + 1; omega) (.complex .f32 2147483648 1065353216)
   have HTF := Lib.hid hT
   have HBF := Lib.hid hbf
   clear hT hbf
   go_wp2_with fail
   exact bodyPost_ret (results_blk rfl rfl HTF.out _ Tryz.underlying84 rfl (by kernel_rfl)) rfl ⟨rfl, HBF.out⟩
def pan11 (k : Nat) : Array Value := if k = 0 then #[.complex .f32 1065353216 0, .complex .f32 1065353216 0, .complex .f32 1065353216 0, .complex .f32 1065353216 0] else if k = 1 then #[.complex .f32 1065353216 0, .complex .f32 1065353216 0, .complex .f32 1065353216 0, .complex .f32 1065353216 0] else if k = 2 then #[.complex .f32 1065353216 0, .complex .f32 2147483648 1065353216, .complex .f32 1065353216 0, .complex .f32 1065353216 0] else if k = 3 then #[.complex .f32 1065353216 0, .complex .f32 2147483648 1065353216, .complex .f32 3212836864 2147483648, .complex .f32 1065353216 0] else #[.complex .f32 1065353216 0, .complex .f32 2147483648 1065353216, .complex .f32 3212836864 2147483648, .complex .f32 0 3212836864]
theorem c123_11 (w : World) : Calls Tryz.prog 123 #[.agg #[.complex .f32 1065353216 0, .complex .f32 1065353216 0, .complex .f32 1065353216 0, .complex .f32 1065353216 0], .int .i64 11] w fun en w' => en = .returned (.agg #[.complex .f32 1065353216 0, .complex .f32 2147483648 1065353216, .complex .f32 3212836864 2147483648, .complex .f32 0 3212836864]) ∧ Below w.heap.size w w' := by
 obtain ⟨w0, hW⟩ : ∃ W, W = ((w.alloc (Obj.cells #[.complex .f32 1065353216 0, .complex .f32 1065353216 0, .complex .f32 1065353216 0, .complex .f32 1065353216 0] 84)).alloc (Obj.cells #[.complex .f32 0 0, .complex .f32 0 0, .complex .f32 0 0, .complex .f32 0 0] 84)).alloc (Obj.cells #[.complex .f32 1065353216 0, .complex .f32 1065353216 0, .complex .f32 1065353216 0, .complex .f32 1065353216 0] 84) := ⟨_, rfl⟩
 have hT1 : w0.heap[w.heap.size + 1]? = some (.cells #[.complex .f32 0 0, .complex .f32 0 0, .complex .f32 0 0, .complex .f32 0 0] 84 (0, 0)) := by rw [hW]; exact heap_old (by simp) (heap_new (by simp))
 have hT2 : w0.heap[w.heap.size + 1 + 1]? = some (.cells #[.complex .f32 1065353216 0, .complex .f32 1065353216 0, .complex .f32 1065353216 0, .complex .f32 1065353216 0] 84 (0, 0)) := by rw [hW]; exact heap_new (by simp)
 have hB0 : Below w.heap.size w w0 := by rw [hW]; exact (below2 _ _ _).alloc (by simp; omega) _
 have hst0 : Hid (w0.heap[w.heap.size + 1 + 1]? = some (.cells (pan11 0) 84 (0, 0))) := Lib.hid hT2
 have HT1 := Lib.hid hT1
 have HB0 := Lib.hid hB0
 have t1 := bt1
 have t11 := bt11
 have t0 := bt0
 have t2 := bt2
 have t3 := bt3
 have t6 := bt6
 have t9 := bt9
 have v0 := wp0
 have v1 := wp1
 have v2 := wp2
 have v3 := wp3
 have v6 := wp6
 have v9 := wp9
 have g1 := ng1
 have g0 := ng0
 have gc := ngc
 go_enter Tryz.func123, Tryz.ntmps123
 go_wp2_with fail
 rw [← hW]
 clear hW hT1 hT2 hB0
 go_loopw [10] (fun i wr => ∃ (k : Nat) (z : Int), k ≤ 4 ∧ z = (k : Int) ∧ i = .int .i64 z ∧ Hid (wr.heap[w.heap.size + 1 + 1]? = some (.cells (pan11 k) 84 (0, 0))) ∧ Hid (wr.heap[w.heap.size + 1]? = some (.cells #[.complex .f32 0 0, .complex .f32 0 0, .complex .f32 0 0, .complex .f32 0 0] 84 (0, 0))) ∧ Hid (Below w.heap.size w wr)) (fun i _ => 4 - (intOf i).toNat)
 case atStart => exact ⟨0, 0, Nat.zero_le _, rfl, rfl, hst0, HT1, HB0⟩
 case round =>
  clear hst0 HT1 HB0
  obtain ⟨k, z, hk, hz, rfl, HP, HZ, HB⟩ := hrel
  have h5 : k = 0 ∨ k = 1 ∨ k = 2 ∨ k = 3 ∨ k = 4 := by omega
  rcases h5 with rfl | rfl | rfl | rfl | rfl
  ·obtain rfl : z = 0 := hz
   have ix := px0
   go_wp2
   go_roundw
   case rel => exact ⟨1, 1, by omega, rfl, rfl, HP, HZ, HB⟩
   case measure => simp [intOf]
  ·obtain rfl : z = 1 := hz
   have ix := px1
   have qc : wr.cell? ⟨w.heap.size + 1 + 1, 1, none⟩ = some (.complex .f32 1065353216 0) := cell_at HP.out rfl
   have qf : wr.frozen? ⟨w.heap.size + 1 + 1, 1, none⟩ = false := free_at HP.out
   have HP2 : Hid ((wr.setCell ⟨w.heap.size + 1 + 1, 1, none⟩ (.complex .f32 2147483648 1065353216)).heap[w.heap.size + 1 + 1]? = some (.cells (pan11 2) 84 (0, 0))) := Lib.hid (set_blk (i := 1) HP.out _)
   have HZ2 : Hid ((wr.setCell ⟨w.heap.size + 1 + 1, 1, none⟩ (.complex .f32 2147483648 1065353216)).heap[w.heap.size + 1]? = some (.cells #[.complex .f32 0 0, .complex .f32 0 0, .complex .f32 0 0, .complex .f32 0 0] 84 (0, 0))) := Lib.hid ((set_far (p := ⟨w.heap.size + 1 + 1, 1, none⟩) _ (by show w.heap.size + 1 ≠ w.heap.size + 1 + 1; omega)).trans HZ.out)
   have HB2 : Hid (Below w.heap.size w (wr.setCell ⟨w.heap.size + 1 + 1, 1, none⟩ (.complex .f32 2147483648 1065353216))) := Lib.hid (HB.out.setCell (p := ⟨w.heap.size + 1 + 1, 1, none⟩) (by show _ ≤ w.heap.size + 1 + 1; omega) _)
   go_wp2
   go_roundw
   case rel => exact ⟨2, 2, by omega, rfl, rfl, HP2, HZ2, HB2⟩
   case measure => simp [intOf]
  ·obtain rfl : z = 2 := hz
   have ix := px2
   have qc : wr.cell? ⟨w.heap.size + 1 + 1, 2, none⟩ = some (.complex .f32 1065353216 0) := cell_at HP.out rfl
   have qf : wr.frozen? ⟨w.heap.size + 1 + 1, 2, none⟩ = false := free_at HP.out
   have HP2 : Hid ((wr.setCell ⟨w.heap.size + 1 + 1, 2, none⟩ (.complex .f32 3212836864 2147483648)).heap[w.heap.size + 1 + 1]? = some (.cells (pan11 3) 84 (0, 0))) := Lib.hid (set_blk (i := 2) HP.out _)
   have HZ2 : Hid ((wr.setCell ⟨w.heap.size + 1 + 1, 2, none⟩ (.complex .f32 3212836864 2147483648)).heap[w.heap.size + 1]? = some (.cells #[.complex .f32 0 0, .complex .f32 0 0, .complex .f32 0 0, .complex .f32 0 0] 84 (0, 0))) := Lib.hid ((set_far (p := ⟨w.heap.size + 1 + 1, 2, none⟩) _ (by show w.heap.size + 1 ≠ w.heap.size + 1 + 1; omega)).trans HZ.out)
   have HB2 : Hid (Below w.heap.size w (wr.setCell ⟨w.heap.size + 1 + 1, 2, none⟩ (.complex .f32 3212836864 2147483648))) := Lib.hid (HB.out.setCell (p := ⟨w.heap.size + 1 + 1, 2, none⟩) (by show _ ≤ w.heap.size + 1 + 1; omega) _)
   go_wp2
   go_roundw
   case rel => exact ⟨3, 3, by omega, rfl, rfl, HP2, HZ2, HB2⟩
   case measure => simp [intOf]
  ·obtain rfl : z = 3 := hz
   have ix := px3
   have qc : wr.cell? ⟨w.heap.size + 1 + 1, 3, none⟩ = some (.complex .f32 1065353216 0) := cell_at HP.out rfl
   have qf : wr.frozen? ⟨w.heap.size + 1 + 1, 3, none⟩ = false := free_at HP.out
   have HP2 : Hid ((wr.setCell ⟨w.heap.size + 1 + 1, 3, none⟩ (.complex .f32 0 3212836864)).heap[w.heap.size + 1 + 1]? = some (.cells (pan11 4) 84 (0, 0))) := Lib.hid (set_blk (i := 3) HP.out _)
   have HZ2 : Hid ((wr.setCell ⟨w.heap.size + 1 + 1, 3, none⟩ (.complex .f32 0 3212836864)).heap[w.heap.size + 1]? = some (.cells #[.complex .f32 0 0, .complex .f32 0 0, .complex .f32 0 0, .complex .f32 0 0] 84 (0, 0))) := Lib.hid ((set_far (p := ⟨w.heap.size + 1 + 1, 3, none⟩) _ (by show w.heap.size + 1 ≠ w.heap.size + 1 + 1; omega)).trans HZ.out)
   have HB2 : Hid (Below w.heap.size w (wr.setCell ⟨w.heap.size + 1 + 1, 3, none⟩ (.complex .f32 0 3212836864))) := Lib.hid (HB.out.setCell (p := ⟨w.heap.size + 1 + 1, 3, none⟩) (by show _ ≤ w.heap.size + 1 + 1; omega) _)
   go_wp2
   go_roundw
   case rel => exact ⟨4, 4, by omega, rfl, rfl, HP2, HZ2, HB2⟩
   case measure => simp [intOf]
  ·obtain rfl : z = 4 := hz
   have c0 : wr.cell? ⟨w.heap.size + 1 + 1, 0, none⟩ = some (.complex .f32 1065353216 0) := cell_at HP.out rfl
   have c1 : wr.cell? ⟨w.heap.size + 1 + 1, 1, none⟩ = some (.complex .f32 2147483648 1065353216) := cell_at HP.out rfl
   have c2 : wr.cell? ⟨w.heap.size + 1 + 1, 2, none⟩ = some (.complex .f32 3212836864 2147483648) := cell_at HP.out rfl
   have c3 : wr.cell? ⟨w.heap.size + 1 + 1, 3, none⟩ = some (.complex .f32 0 3212836864) := cell_at HP.out rfl
   have z0 : wr.cell? ⟨w.heap.size + 1, 0, none⟩ = some (.complex .f32 0 0) := cell_at HZ.out rfl
   have z1 : wr.cell? ⟨w.heap.size + 1, 1, none⟩ = some (.complex .f32 0 0) := cell_at HZ.out rfl
   have z2 : wr.cell? ⟨w.heap.size + 1, 2, none⟩ = some (.complex .f32 0 0) := cell_at HZ.out rfl
   have z3 : wr.cell? ⟨w.heap.size + 1, 3, none⟩ = some (.complex .f32 0 0) := cell_at HZ.out rfl
   have f0 : wr.frozen? ⟨w.heap.size + 1, 0, none⟩ = false := free_at HZ.out
   have f1 : wr.frozen? ⟨w.heap.size + 1, 1, none⟩ = false := free_at HZ.out
   have f2 : wr.frozen? ⟨w.heap.size + 1, 2, none⟩ = false := free_at HZ.out
   have f3 : wr.frozen? ⟨w.heap.size + 1, 3, none⟩ = false := free_at HZ.out
   have hT := set_blk (i := 3) (set_blk (i := 2) (set_blk (i := 1) (set_blk (i := 0) HZ.out (.complex .f32 1065353216 0)) (.complex .f32 2147483648 1065353216)) (.complex .f32 3212836864 2147483648)) (.complex .f32 0 3212836864)
   have hbf := (((HB.out.setCell (p := ⟨w.heap.size + 1, 0, none⟩) (by show _ ≤ w.heap.size + 1; omega) (.complex .f32 1065353216 0)).setCell (p := ⟨w.heap.size + 1, 1, none⟩) (by show _ ≤ w.heap.size + 1; omega) (.complex .f32 2147483648 1065353216)).setCell (p := ⟨w.heap.size + 1, 2, none⟩) (by show _ ≤ w.heap.size + 1; omega) (.complex .f32 3212836864 2147483648)).setCell (p := ⟨w.heap.size + 1, 3, none⟩) (by show _ ≤ w.heap.size + 1; omega) (.complex .f32 0 3212836864)
   have HTF := Lib.hid hT
   have HBF := Lib.hid hbf
   clear hT hbf
   go_wp2_with fail
   exact bodyPost_ret (results_blk rfl rfl HTF.out _ Tryz.underlying84 rfl (by kernel_rfl)) rfl ⟨rfl, HBF.out⟩
end Go.Proofs.YtdimmlljjmmdbaaGreatDoor
namespace Go.Proofs.YtdimmlljjmmdbaaGreatDoor
open Go.RowKit
set_option maxHeartbeats 4000000
set_option maxRecDepth 20000
/-- a layer -/
structure Ly where
 t : Int
 s : Int
def Ly.enc (x : Ly) : List Value := [.int .i64 x.t, .int .i64 x.s]
theorem Ly.len (x : Ly) : x.enc.length = 2 := rfl
def RdY (w : World) (A : Option Addr) (n : Nat) (l : List Ly) : Prop := RdS w 2 A n (l.flatMap Ly.enc)
theorem RdY.below {w w' : World} {A : Option Addr} {n : Nat} {l : List Ly} (h : RdY w A n l) (hb : Below w.heap.size w w') : RdY w' A n l := RdS.below h hb
theorem RdY.len {w : World} {A : Option Addr} {n : Nat} {l : List Ly} (h : RdY w A n l) : l.length = n := by
 have := h.1
 rw [flat_len Ly.len] at this
 omega
theorem RdY.at {w : World} {A : Option Addr} {n : Nat} {l : List Ly} (h : RdY w A n l) {k : Nat} (hk : k < n) :
  ∃ b off x, A = some ⟨b, off, none⟩ ∧ l[k]? = some x ∧ b < w.heap.size ∧ w.cell? ⟨b, off + k * 2, none⟩ = some (.int .i64 x.t) ∧ w.cell? ⟨b, off + k * 2 + 1, none⟩ = some (.int .i64 x.s) := by
 have hn := h.len
 have h' : RdL w 2 Ly.enc A l := by unfold RdL; rw [hn]; exact h
 obtain ⟨b, off, x, hA, hx, hb, hc⟩ := h'.at Ly.len (by rw [hn]; exact hk)
 exact ⟨b, off, x, hA, hx, hb, hc 0 (by omega), hc 1 (by omega)⟩
def Mo.lay (x : Ly) : Int := Mo.first [Mo.range x.t 0 1000, Mo.range x.s 1 100]
theorem c122 (x : Ly) (w : World) :
  Calls Tryz.prog 122 #[.agg #[.int .i64 x.t, .int .i64 x.s]] w fun en w' => en = .returned (.int .i64 (Mo.lay x)) ∧ Below w.heap.size w w' := by
 obtain ⟨w0, hW⟩ : ∃ W, W = w.alloc (Obj.cells #[.int .i64 x.t, .int .i64 x.s] 80) := ⟨_, rfl⟩
 have hT0 : w0.heap[w.heap.size]? = some (.cells #[.int .i64 x.t, .int .i64 x.s] 80 (0, 0)) := by rw [hW]; exact heap_new (by simp)
 have hB0 : Below w.heap.size w w0 := by rw [hW]; exact ((Below.refl _ _).alloc (by first | omega | (simp <;> omega)) _)
 go_enter Tryz.func122, Tryz.ntmps122
 go_wp2_with fail
 rw [← hW]
 clear hW
 have qhT0_0 : w0.cell? ⟨w.heap.size, 0, none⟩ = some (.int .i64 x.t) := cell_at hT0 rfl
 have qhT0_1 : w0.cell? ⟨w.heap.size, 1, none⟩ = some (.int .i64 x.s) := cell_at hT0 rfl
 refine wp_region_plan [(0, true), (1, true), (3, true), (4, true), (2, false), (5, false), (6, false), (7, false), (8, true)] w0.heap.size (by kernel_rfl) (by kernel_rfl) (Nat.le_refl _) (fun _ _ d _ _ h => by cases d <;> exact h) ?_
 have hC : Below w0.heap.size w0 w0 := Below.refl _ _
 have zhT0 : w.heap.size < w0.heap.size := (Array.getElem?_eq_some_iff.1 hT0).1
 repeat (first | (refine wpPlanA_skip _ rfl (by rfl) ?_; simp only [Act.put, List.setIfInBounds_toArray, List.set_cons_zero, List.set_cons_succ]) | (refine wpPlanA_soft _ ?_ rfl (by rfl) ?_ ?_; rotate_left; (intro wq hq hcq; go_simp; first | exact rfl | exact ⟨rfl, rfl⟩); simp only [Act.put, List.setIfInBounds_toArray, List.set_cons_zero, List.set_cons_succ]))
 refine wpPlanA_hard _ rfl (by rfl) (fun w1 hS K hK => ?_)
 have hB1 := hB0.call hS rfl
 replace hC := hC.call hS rfl
 replace hT0 := blkb hT0 hS
 clear hS hB0
 go_simp
 refine (c93 x.t 0 1000 _).mono ?_
 rintro e w' ⟨rfl, rfl⟩
 refine hK _ _ hC ?_
 clear hK K
 try simp only [Act.put, List.setIfInBounds_toArray, List.set_cons_zero, List.set_cons_succ]
 refine wpPlanA_hard _ rfl (by rfl) (fun w2 hS K hK => ?_)
 have hB2 := hB1.call hS rfl
 replace hC := hC.call hS rfl
 replace hT0 := blkb hT0 hS
 clear hS hB1
 go_simp
 refine (c93 x.s 1 100 _).mono ?_
 rintro e w' ⟨rfl, rfl⟩
 refine hK _ _ hC ?_
 clear hK K
 try simp only [Act.put, List.setIfInBounds_toArray, List.set_cons_zero, List.set_cons_succ]
 refine wpPlanA_hard _ rfl (by rfl) (fun w3 hS K hK => ?_)
 have hB3 := hB2.call hS rfl
 replace hC := hC.call hS rfl
 replace hT0 := blkb hT0 hS
 clear hS hB2
 go_simp
 have hb : Below w3.heap.size w3 (w3.alloc (Obj.cells #[.int .i64 (Mo.range x.t 0 1000), .int .i64 (Mo.range x.s 1 100)] 32)) := (Below.refl _ _).alloc (Nat.le_refl _) _
 have k1 : (w3.alloc (Obj.cells #[.int .i64 (Mo.range x.t 0 1000), .int .i64 (Mo.range x.s 1 100)] 32)).heap[w3.heap.size]? = some (Obj.cells #[.int .i64 (Mo.range x.t 0 1000), .int .i64 (Mo.range x.s 1 100)] 32) := heap_new rfl
 refine hK _ _ (hC.alloc hC.size _) ?_
 clear hK K
 replace hC := hC.call hb rfl
 have hB4 := hB3.call hb rfl
 replace hT0 := blkb hT0 hb
 clear hb hB3
 generalize hWn : w3.alloc (Obj.cells #[.int .i64 (Mo.range x.t 0 1000), .int .i64 (Mo.range x.s 1 100)] 32) = w4 at k1 hC hB4 hT0 ⊢
 clear hWn
 generalize hWn : w3.heap.size = bk1 at k1 ⊢
 clear hWn
 try simp only [Act.put, List.setIfInBounds_toArray, List.set_cons_zero, List.set_cons_succ]
 refine wpPlanA_hard _ rfl (by rfl) (fun w5 hS K hK => ?_)
 have hB5 := hB4.call hS rfl
 replace hC := hC.call hS rfl
 replace hT0 := blkb hT0 hS
 replace k1 := blkb k1 hS
 clear hS hB4
 go_simp
 refine (c89 _ 2 2 [Mo.range x.t 0 1000, Mo.range x.s 1 100] _ rfl (by omega) (RdS.of_block (cs := encI [Mo.range x.t 0 1000, Mo.range x.s 1 100]) k1 rfl)).mono ?_
 rintro e w' ⟨rfl, rfl⟩
 refine hK _ _ hC ?_
 clear hK K
 try simp only [Act.put, List.setIfInBounds_toArray, List.set_cons_zero, List.set_cons_succ]
 repeat (first | (refine wpPlanA_skip _ rfl (by rfl) ?_; simp only [Act.put, List.setIfInBounds_toArray, List.set_cons_zero, List.set_cons_succ]) | (refine wpPlanA_soft _ ?_ rfl (by rfl) ?_ ?_; rotate_left; (intro wq hq hcq; go_simp; first | exact rfl | exact ⟨rfl, rfl⟩); simp only [Act.put, List.setIfInBounds_toArray, List.set_cons_zero, List.set_cons_succ]))
 clear k1
 clear qhT0_0 qhT0_1
 refine wpPlanA_nil (fun w6 hS => ?_)
 clear hC zhT0
 have hB6 := hB5.call hS rfl
 replace hT0 := blkb hT0 hS
 clear hS hB5
 have qhT0_0 : w6.cell? ⟨w.heap.size, 0, none⟩ = some (.int .i64 x.t) := cell_at hT0 rfl
 have qhT0_1 : w6.cell? ⟨w.heap.size, 1, none⟩ = some (.int .i64 x.s) := cell_at hT0 rfl
 go_wp2
 go_ret
 exact ⟨rfl, hB6⟩
theorem c121 (A : Option Addr) (n cap : Nat) (l : List Ly) (f : Ly → Int) (w : World) (hl : n ≤ 1000000) (H : RdY w A n l)
  (hcl : ∀ (W : World) (x : Ly), x ∈ l → Below w.heap.size w W →
   Calls Tryz.prog 122 #[.agg #[.int .i64 x.t, .int .i64 x.s]] W fun e w' => e = .returned (Value.int .i64 (f x)) ∧ Below W.heap.size W w') :
  Calls Tryz.prog 121 #[.slice A n cap, .func (.func 122) #[] #[]] w fun en w' => ∃ A' cap', en = .returned (.slice A' n cap') ∧ RdI w' A' n (l.map f) ∧ Below w.heap.size w w' := by
 have Hn := Lib.hid H.len
 have Hcl := Lib.hid hcl
 have hmm : encI (l.map f) = l.map fun x => Value.int .i64 (f x) := by simp [encI]
 have Hm := Lib.hid hmm
 clear hcl hmm
 obtain ⟨i0, hi, hz0, hz1, hz2⟩ := info_parts info32
 go_enter Tryz.func121, Tryz.ntmps121
 go_wp2
 go_loopw [5, 10] (fun x i wr => ∃ k : Nat, k ≤ n ∧ i = .int .i64 k ∧ wr.ownsRow w.heap.size 32 1 x k ((l.map fun x => Value.int .i64 (f x)).take k) ∧ Below w.heap.size w wr) (fun _ i _ => n - (intOf i).toNat)
 case atStart => exact ⟨0, Nat.zero_le _, rfl, World.ownsRow_nil _ _ _ _, Below.refl _ _⟩
 case round =>
  obtain ⟨k, hk, rfl, hown, hB⟩ := hrel
  by_cases hlt : k < n
  ·obtain ⟨b, off, x, rfl, hx, hb, h0, h1⟩ := (H.below hB).at hlt
   have Hx := Lib.hid hx
   have htk : (l.map fun x => Value.int .i64 (f x)).take (k + 1) = (l.map fun x => Value.int .i64 (f x)).take k ++ [Value.int .i64 (f x)] := by rw [List.take_succ, List.getElem?_map, hx]; simp
   have HTK := Lib.hid htk
   clear hx htk
   go_wp2_with fail
   refine (Hcl.out _ x (List.mem_of_getElem? Hx.out) (hB.alloc hB.size _)).mono ?_
   rintro e w2 ⟨rfl, hb2⟩
   have hown2 := own_below (hown.alloc (Obj.cells #[.int .i64 x.t, .int .i64 x.s] 80)) hb2
   have hB2 := (hB.alloc hB.size (Obj.cells #[.int .i64 x.t, .int .i64 x.s] 80)).call hb2 rfl
   have hsz := hB2.size
   go_wp2_with (at_builtin; refine wpList_append_own _ rfl _ _ 152 rfl w.heap.size 32 i0 (.int .i64 0) 1 8 Tryz.underlying152 hi hz0 hz1 hz2 rfl (by decide) _ _ _ rfl (hown2.alloc _) ⟨w2.heap.size, 0, none⟩ 1 1 [Value.int .i64 (f x)] rfl rfl ?c1 ?c2 ?c3 ?c4 ?c5 ?_)
   case c1 => exact news_one _ _ rfl
   case c2 => intro x hx; simp at hx; subst hx; rfl
   case c3 => unfold maxLen; omega
   case c4 => omega
   case c5 => simp; omega
   intro x' w3 hown3 hg3 _
   have hB3 : Below w.heap.size w w3 := (hB2.alloc hsz _).grown hg3 (by simp; omega) (fun g hg => (hown2.lt g hg).1)
   rw [← HTK.out] at hown3
   have HO := Lib.hid hown3
   clear hown3 hg3 hown2 hown
   go_wp2
   go_roundw
   case rel => exact ⟨k + 1, by omega, by go_num, HO.out, hB3⟩
   case measure => simp [intOf]; omega
  ·obtain rfl : k = n := by omega
   rw [List.take_of_length_le (by rw [List.length_map, Hn.out]; exact Nat.le_refl _)] at hown
   have HO := Lib.hid hown
   clear hown
   go_wp2
   go_ret
   obtain ⟨A', cap', rfl, hr⟩ := Sl.of_own HO.out
   exact ⟨A', cap', rfl, by unfold RdI; rw [Hm.out]; exact hr, hB⟩
theorem c45_1 (w : World) :
  Calls Tryz.prog 45 #[.agg #[.complex .f32 1065353216 0, .complex .f32 1065353216 0, .complex .f32 1065353216 0, .complex .f32 1065353216 0], .int .i64 1] w fun en w' => en = .returned (.tuple #[.agg #[.complex .f32 1065353216 0, .complex .f32 0 3212836864, .complex .f32 3212836864 2147483648, .complex .f32 2147483648 1065353216], .int .i64 0]) ∧ Below w.heap.size w w' := by
 obtain ⟨w0, hW⟩ : ∃ W, W = (w.alloc (Obj.cells #[.complex .f32 1065353216 0, .complex .f32 1065353216 0, .complex .f32 1065353216 0, .complex .f32 1065353216 0] 84)).alloc (Obj.cells #[.complex .f32 0 0, .complex .f32 0 0, .complex .f32 0 0, .complex .f32 0 0] 84) := ⟨_, rfl⟩
 have hT0 : w0.heap[w.heap.size]? = some (.cells #[.complex .f32 1065353216 0, .complex .f32 1065353216 0, .complex .f32 1065353216 0, .complex .f32 1065353216 0] 84 (0, 0)) := by rw [hW]; exact heap_old (by simp <;> omega) (heap_new (by simp))
 have hT1 : w0.heap[w.heap.size + 1]? = some (.cells #[.complex .f32 0 0, .complex .f32 0 0, .complex .f32 0 0, .complex .f32 0 0] 84 (0, 0)) := by rw [hW]; exact heap_new (by simp)
 have hB0 : Below w.heap.size w w0 := by rw [hW]; exact (((Below.refl _ _).alloc (by first | omega | (simp <;> omega)) _).alloc (by first | omega | (simp <;> omega)) _)
 go_enter Tryz.func45, Tryz.ntmps45
 go_wp2_with fail
 rw [← hW]
 clear hW
 have qhT0_0 : w0.cell? ⟨w.heap.size, 0, none⟩ = some (.complex .f32 1065353216 0) := cell_at hT0 rfl
 have qhT0_1 : w0.cell? ⟨w.heap.size, 1, none⟩ = some (.complex .f32 1065353216 0) := cell_at hT0 rfl
 have qhT0_2 : w0.cell? ⟨w.heap.size, 2, none⟩ = some (.complex .f32 1065353216 0) := cell_at hT0 rfl
 have qhT0_3 : w0.cell? ⟨w.heap.size, 3, none⟩ = some (.complex .f32 1065353216 0) := cell_at hT0 rfl
 have qhT1_0 : w0.cell? ⟨w.heap.size + 1, 0, none⟩ = some (.complex .f32 0 0) := cell_at hT1 rfl
 have qhT1_1 : w0.cell? ⟨w.heap.size + 1, 1, none⟩ = some (.complex .f32 0 0) := cell_at hT1 rfl
 have qhT1_2 : w0.cell? ⟨w.heap.size + 1, 2, none⟩ = some (.complex .f32 0 0) := cell_at hT1 rfl
 have qhT1_3 : w0.cell? ⟨w.heap.size + 1, 3, none⟩ = some (.complex .f32 0 0) := cell_at hT1 rfl
 go_wp2_with fail
 refine (c120_1 _).mono ?_
 rintro e w1 ⟨rfl, hb⟩
 clear qhT0_0 qhT0_1 qhT0_2 qhT0_3 qhT1_0 qhT1_1 qhT1_2 qhT1_3
 have hS := hb
 have hB1 := hB0.call hS rfl
 replace hT0 := blkb hT0 hS
 replace hT1 := blkb hT1 hS
 clear hS hB0
 have qhT0_0 : w1.cell? ⟨w.heap.size, 0, none⟩ = some (.complex .f32 1065353216 0) := cell_at hT0 rfl
 have qhT0_1 : w1.cell? ⟨w.heap.size, 1, none⟩ = some (.complex .f32 1065353216 0) := cell_at hT0 rfl
 have qhT0_2 : w1.cell? ⟨w.heap.size, 2, none⟩ = some (.complex .f32 1065353216 0) := cell_at hT0 rfl
 have qhT0_3 : w1.cell? ⟨w.heap.size, 3, none⟩ = some (.complex .f32 1065353216 0) := cell_at hT0 rfl
 have qhT1_0 : w1.cell? ⟨w.heap.size + 1, 0, none⟩ = some (.complex .f32 0 0) := cell_at hT1 rfl
 have qhT1_1 : w1.cell? ⟨w.heap.size + 1, 1, none⟩ = some (.complex .f32 0 0) := cell_at hT1 rfl
 have qhT1_2 : w1.cell? ⟨w.heap.size + 1, 2, none⟩ = some (.complex .f32 0 0) := cell_at hT1 rfl
 have qhT1_3 : w1.cell? ⟨w.heap.size + 1, 3, none⟩ = some (.complex .f32 0 0) := cell_at hT1 rfl
 clear hb
 go_wp2_with fail
 refine (c93 1 (-100000) 100000 _).mono ?_
 rintro e w' ⟨rfl, rfl⟩
 have hr1 : Mo.range 1 (-100000) 100000 = 0 := rfl
 rw [hr1]
 clear hr1
 go_wp2_with fail
 refine (c89 _ 2 2 [0, 0] _ rfl (by omega) (RdS.of_new (cs := encI [0, 0]) rfl rfl)).mono ?_
 rintro e w' ⟨rfl, rfl⟩
 obtain ⟨w2, hwn⟩ : ∃ V, V = w1.alloc (Obj.cells (encI [0, 0]).toArray 32) := ⟨_, rfl⟩
 have hbn : Below w1.heap.size w1 w2 := by rw [hwn]; exact (Below.refl _ _).alloc (Nat.le_refl _) _
 try rw [← hwn]
 clear hwn
 clear qhT0_0 qhT0_1 qhT0_2 qhT0_3 qhT1_0 qhT1_1 qhT1_2 qhT1_3
 have hS := hbn
 have hB2 := hB1.call hS rfl
 replace hT0 := blkb hT0 hS
 replace hT1 := blkb hT1 hS
 clear hS hB1
 have qhT0_0 : w2.cell? ⟨w.heap.size, 0, none⟩ = some (.complex .f32 1065353216 0) := cell_at hT0 rfl
 have qhT0_1 : w2.cell? ⟨w.heap.size, 1, none⟩ = some (.complex .f32 1065353216 0) := cell_at hT0 rfl
 have qhT0_2 : w2.cell? ⟨w.heap.size, 2, none⟩ = some (.complex .f32 1065353216 0) := cell_at hT0 rfl
 have qhT0_3 : w2.cell? ⟨w.heap.size, 3, none⟩ = some (.complex .f32 1065353216 0) := cell_at hT0 rfl
 have qhT1_0 : w2.cell? ⟨w.heap.size + 1, 0, none⟩ = some (.complex .f32 0 0) := cell_at hT1 rfl
 have qhT1_1 : w2.cell? ⟨w.heap.size + 1, 1, none⟩ = some (.complex .f32 0 0) := cell_at hT1 rfl
 have qhT1_2 : w2.cell? ⟨w.heap.size + 1, 2, none⟩ = some (.complex .f32 0 0) := cell_at hT1 rfl
 have qhT1_3 : w2.cell? ⟨w.heap.size + 1, 3, none⟩ = some (.complex .f32 0 0) := cell_at hT1 rfl
 clear hbn
 have hf2 : Mo.first [0, 0] = 0 := rfl
 rw [hf2]
 clear hf2
 go_wp2_with fail
 go_wp2_with fail
 refine (c123_1 _).mono ?_
 rintro e w3 ⟨rfl, hb⟩
 clear qhT0_0 qhT0_1 qhT0_2 qhT0_3 qhT1_0 qhT1_1 qhT1_2 qhT1_3
 have hS := hb
 have hB3 := hB2.call hS rfl
 replace hT0 := blkb hT0 hS
 replace hT1 := blkb hT1 hS
 clear hS hB2
 have qhT0_0 : w3.cell? ⟨w.heap.size, 0, none⟩ = some (.complex .f32 1065353216 0) := cell_at hT0 rfl
 have qhT0_1 : w3.cell? ⟨w.heap.size, 1, none⟩ = some (.complex .f32 1065353216 0) := cell_at hT0 rfl
 have qhT0_2 : w3.cell? ⟨w.heap.size, 2, none⟩ = some (.complex .f32 1065353216 0) := cell_at hT0 rfl
 have qhT0_3 : w3.cell? ⟨w.heap.size, 3, none⟩ = some (.complex .f32 1065353216 0) := cell_at hT0 rfl
 have qhT1_0 : w3.cell? ⟨w.heap.size + 1, 0, none⟩ = some (.complex .f32 0 0) := cell_at hT1 rfl
 have qhT1_1 : w3.cell? ⟨w.heap.size + 1, 1, none⟩ = some (.complex .f32 0 0) := cell_at hT1 rfl
 have qhT1_2 : w3.cell? ⟨w.heap.size + 1, 2, none⟩ = some (.complex .f32 0 0) := cell_at hT1 rfl
 have qhT1_3 : w3.cell? ⟨w.heap.size + 1, 3, none⟩ = some (.complex .f32 0 0) := cell_at hT1 rfl
 clear hb
 clear qhT0_0 qhT0_1 qhT0_2 qhT0_3 qhT1_0 qhT1_1 qhT1_2 qhT1_3
 have sc0 : w3.cell? ⟨w.heap.size + 1, 0, none⟩ = some (.complex .f32 0 0) := cell_at hT1 rfl
 have sf0 : w3.frozen? ⟨w.heap.size + 1, 0, none⟩ = false := free_at hT1
 have sc1 : w3.cell? ⟨w.heap.size + 1, 1, none⟩ = some (.complex .f32 0 0) := cell_at hT1 rfl
 have sf1 : w3.frozen? ⟨w.heap.size + 1, 1, none⟩ = false := free_at hT1
 have sc2 : w3.cell? ⟨w.heap.size + 1, 2, none⟩ = some (.complex .f32 0 0) := cell_at hT1 rfl
 have sf2 : w3.frozen? ⟨w.heap.size + 1, 2, none⟩ = false := free_at hT1
 have sc3 : w3.cell? ⟨w.heap.size + 1, 3, none⟩ = some (.complex .f32 0 0) := cell_at hT1 rfl
 have sf3 : w3.frozen? ⟨w.heap.size + 1, 3, none⟩ = false := free_at hT1
 have hTs := set_blk (i := 3) (set_blk (i := 2) (set_blk (i := 1) (set_blk (i := 0) hT1 (.complex .f32 1065353216 0)) (.complex .f32 0 3212836864)) (.complex .f32 3212836864 2147483648)) (.complex .f32 2147483648 1065353216)
 have hbs := ((((hB3.setCell (p := ⟨w.heap.size + 1, 0, none⟩) (by show _ ≤ w.heap.size + 1; omega) (.complex .f32 1065353216 0)).setCell (p := ⟨w.heap.size + 1, 1, none⟩) (by show _ ≤ w.heap.size + 1; omega) (.complex .f32 0 3212836864)).setCell (p := ⟨w.heap.size + 1, 2, none⟩) (by show _ ≤ w.heap.size + 1; omega) (.complex .f32 3212836864 2147483648)).setCell (p := ⟨w.heap.size + 1, 3, none⟩) (by show _ ≤ w.heap.size + 1; omega) (.complex .f32 2147483648 1065353216))
 have HTS := Lib.hid hTs
 have HBS := Lib.hid hbs
 clear hTs hbs
 go_wp2_with fail
 exact bodyPost_ret (results_blk_tmp rfl rfl HTS.out _ Tryz.underlying84 rfl (by kernel_rfl)) rfl ⟨rfl, HBS.out⟩
theorem c44_1 (b : Nat) (w : World) (HL : RdY w (some ⟨b, 0, none⟩) 2 [⟨2, 3⟩, ⟨1, 5⟩]) :
  Calls Tryz.prog 44 #[.agg #[.complex .f32 1065353216 0, .complex .f32 1065353216 0, .complex .f32 1065353216 0, .complex .f32 1065353216 0], .slice (some ⟨b, 0, none⟩) 2 2, .bool false] w fun en w' => en = .returned (.tuple #[.agg #[.complex .f32 1065353216 0, .complex .f32 2147483648 1065353216, .complex .f32 3212836864 2147483648, .complex .f32 0 3212836864], .int .i64 0]) ∧ Below w.heap.size w w' := by
 obtain ⟨w0, hW⟩ : ∃ W, W = (w.alloc (Obj.cells #[.complex .f32 1065353216 0, .complex .f32 1065353216 0, .complex .f32 1065353216 0, .complex .f32 1065353216 0] 84)).alloc (Obj.cells #[.complex .f32 0 0, .complex .f32 0 0, .complex .f32 0 0, .complex .f32 0 0] 84) := ⟨_, rfl⟩
 have hT0 : w0.heap[w.heap.size]? = some (.cells #[.complex .f32 1065353216 0, .complex .f32 1065353216 0, .complex .f32 1065353216 0, .complex .f32 1065353216 0] 84 (0, 0)) := by rw [hW]; exact heap_old (by simp <;> omega) (heap_new (by simp))
 have hT1 : w0.heap[w.heap.size + 1]? = some (.cells #[.complex .f32 0 0, .complex .f32 0 0, .complex .f32 0 0, .complex .f32 0 0] 84 (0, 0)) := by rw [hW]; exact heap_new (by simp)
 have hB0 : Below w.heap.size w w0 := by rw [hW]; exact (((Below.refl _ _).alloc (by first | omega | (simp <;> omega)) _).alloc (by first | omega | (simp <;> omega)) _)
 replace HL := HL.below hB0
 go_enter Tryz.func44, Tryz.ntmps44
 go_wp2_with fail
 rw [← hW]
 clear hW
 have qhT0_0 : w0.cell? ⟨w.heap.size, 0, none⟩ = some (.complex .f32 1065353216 0) := cell_at hT0 rfl
 have qhT0_1 : w0.cell? ⟨w.heap.size, 1, none⟩ = some (.complex .f32 1065353216 0) := cell_at hT0 rfl
 have qhT0_2 : w0.cell? ⟨w.heap.size, 2, none⟩ = some (.complex .f32 1065353216 0) := cell_at hT0 rfl
 have qhT0_3 : w0.cell? ⟨w.heap.size, 3, none⟩ = some (.complex .f32 1065353216 0) := cell_at hT0 rfl
 have qhT1_0 : w0.cell? ⟨w.heap.size + 1, 0, none⟩ = some (.complex .f32 0 0) := cell_at hT1 rfl
 have qhT1_1 : w0.cell? ⟨w.heap.size + 1, 1, none⟩ = some (.complex .f32 0 0) := cell_at hT1 rfl
 have qhT1_2 : w0.cell? ⟨w.heap.size + 1, 2, none⟩ = some (.complex .f32 0 0) := cell_at hT1 rfl
 have qhT1_3 : w0.cell? ⟨w.heap.size + 1, 3, none⟩ = some (.complex .f32 0 0) := cell_at hT1 rfl
 go_wp2_with fail
 refine (c120_1 _).mono ?_
 rintro e w1 ⟨rfl, hb⟩
 clear qhT0_0 qhT0_1 qhT0_2 qhT0_3 qhT1_0 qhT1_1 qhT1_2 qhT1_3
 have hS := hb
 have hB1 := hB0.call hS rfl
 replace hT0 := blkb hT0 hS
 replace hT1 := blkb hT1 hS
 replace HL := HL.below hS
 clear hS hB0
 have qhT0_0 : w1.cell? ⟨w.heap.size, 0, none⟩ = some (.complex .f32 1065353216 0) := cell_at hT0 rfl
 have qhT0_1 : w1.cell? ⟨w.heap.size, 1, none⟩ = some (.complex .f32 1065353216 0) := cell_at hT0 rfl
 have qhT0_2 : w1.cell? ⟨w.heap.size, 2, none⟩ = some (.complex .f32 1065353216 0) := cell_at hT0 rfl
 have qhT0_3 : w1.cell? ⟨w.heap.size, 3, none⟩ = some (.complex .f32 1065353216 0) := cell_at hT0 rfl
 have qhT1_0 : w1.cell? ⟨w.heap.size + 1, 0, none⟩ = some (.complex .f32 0 0) := cell_at hT1 rfl
 have qhT1_1 : w1.cell? ⟨w.heap.size + 1, 1, none⟩ = some (.complex .f32 0 0) := cell_at hT1 rfl
 have qhT1_2 : w1.cell? ⟨w.heap.size + 1, 2, none⟩ = some (.complex .f32 0 0) := cell_at hT1 rfl
 have qhT1_3 : w1.cell? ⟨w.heap.size + 1, 3, none⟩ = some (.complex .f32 0 0) := cell_at hT1 rfl
 clear hb
 go_wp2_with fail
 refine (c94 false 5 _).mono ?_
 rintro e w' ⟨rfl, rfl⟩
 have hr1 : Mo.when false 5 = 0 := rfl
 rw [hr1]
 clear hr1
 go_wp2_with fail
 refine (c89 _ 2 2 [0, 0] _ rfl (by omega) (RdS.of_new (cs := encI [0, 0]) rfl rfl)).mono ?_
 rintro e w' ⟨rfl, rfl⟩
 obtain ⟨w2, hwn⟩ : ∃ V, V = w1.alloc (Obj.cells (encI [0, 0]).toArray 32) := ⟨_, rfl⟩
 have hbn : Below w1.heap.size w1 w2 := by rw [hwn]; exact (Below.refl _ _).alloc (Nat.le_refl _) _
 try rw [← hwn]
 clear hwn
 clear qhT0_0 qhT0_1 qhT0_2 qhT0_3 qhT1_0 qhT1_1 qhT1_2 qhT1_3
 have hS := hbn
 have hB2 := hB1.call hS rfl
 replace hT0 := blkb hT0 hS
 replace hT1 := blkb hT1 hS
 replace HL := HL.below hS
 clear hS hB1
 have qhT0_0 : w2.cell? ⟨w.heap.size, 0, none⟩ = some (.complex .f32 1065353216 0) := cell_at hT0 rfl
 have qhT0_1 : w2.cell? ⟨w.heap.size, 1, none⟩ = some (.complex .f32 1065353216 0) := cell_at hT0 rfl
 have qhT0_2 : w2.cell? ⟨w.heap.size, 2, none⟩ = some (.complex .f32 1065353216 0) := cell_at hT0 rfl
 have qhT0_3 : w2.cell? ⟨w.heap.size, 3, none⟩ = some (.complex .f32 1065353216 0) := cell_at hT0 rfl
 have qhT1_0 : w2.cell? ⟨w.heap.size + 1, 0, none⟩ = some (.complex .f32 0 0) := cell_at hT1 rfl
 have qhT1_1 : w2.cell? ⟨w.heap.size + 1, 1, none⟩ = some (.complex .f32 0 0) := cell_at hT1 rfl
 have qhT1_2 : w2.cell? ⟨w.heap.size + 1, 2, none⟩ = some (.complex .f32 0 0) := cell_at hT1 rfl
 have qhT1_3 : w2.cell? ⟨w.heap.size + 1, 3, none⟩ = some (.complex .f32 0 0) := cell_at hT1 rfl
 clear hbn
 have hf2 : Mo.first [0, 0] = 0 := rfl
 rw [hf2]
 clear hf2
 go_wp2_with fail
 go_wp2_with fail
 refine (c121 (some ⟨b, 0, none⟩) 2 2 [⟨2, 3⟩, ⟨1, 5⟩] Mo.lay _ (by omega) HL (fun W x _ _ => c122 x W)).mono ?_
 rintro e w3 ⟨A1, cap1, rfl, hr1, hb⟩
 clear qhT0_0 qhT0_1 qhT0_2 qhT0_3 qhT1_0 qhT1_1 qhT1_2 qhT1_3
 have hS := hb
 have hB3 := hB2.call hS rfl
 replace hT0 := blkb hT0 hS
 replace hT1 := blkb hT1 hS
 replace HL := HL.below hS
 clear hS hB2
 have qhT0_0 : w3.cell? ⟨w.heap.size, 0, none⟩ = some (.complex .f32 1065353216 0) := cell_at hT0 rfl
 have qhT0_1 : w3.cell? ⟨w.heap.size, 1, none⟩ = some (.complex .f32 1065353216 0) := cell_at hT0 rfl
 have qhT0_2 : w3.cell? ⟨w.heap.size, 2, none⟩ = some (.complex .f32 1065353216 0) := cell_at hT0 rfl
 have qhT0_3 : w3.cell? ⟨w.heap.size, 3, none⟩ = some (.complex .f32 1065353216 0) := cell_at hT0 rfl
 have qhT1_0 : w3.cell? ⟨w.heap.size + 1, 0, none⟩ = some (.complex .f32 0 0) := cell_at hT1 rfl
 have qhT1_1 : w3.cell? ⟨w.heap.size + 1, 1, none⟩ = some (.complex .f32 0 0) := cell_at hT1 rfl
 have qhT1_2 : w3.cell? ⟨w.heap.size + 1, 2, none⟩ = some (.complex .f32 0 0) := cell_at hT1 rfl
 have qhT1_3 : w3.cell? ⟨w.heap.size + 1, 3, none⟩ = some (.complex .f32 0 0) := cell_at hT1 rfl
 clear hb
 go_wp2_with fail
 refine (c89 A1 2 cap1 _ _ hr1.len (by omega) hr1).mono ?_
 rintro e w' ⟨rfl, rfl⟩
 have hf2 : Mo.first (List.map Mo.lay [⟨2, 3⟩, ⟨1, 5⟩]) = 0 := rfl
 rw [hf2]
 clear hf2 hr1
 go_wp2_with fail
 go_loopw [10, 34] (fun S i wr => ∃ (k : Nat) (z : Int), k ≤ 2 ∧ z = (k : Int) ∧ i = .int .i64 z ∧ S = .int .i64 (if k = 0 then 0 else if k = 1 then 6 else 11) ∧ Below w3.heap.size w3 wr) (fun _ i _ => 2 - (intOf i).toNat)
 case atStart => exact ⟨0, 0, Nat.zero_le _, rfl, rfl, rfl, Below.refl _ _⟩
 case round =>
  obtain ⟨k, z, hk, hz, rfl, rfl, hbr⟩ := hrel
  obtain ⟨w4, hww⟩ : ∃ W, W = wr := ⟨_, rfl⟩
  subst hww
  have hB4 := hB3.call hbr rfl
  replace hT0 := blkb hT0 hbr
  replace hT1 := blkb hT1 hbr
  replace HL := HL.below hbr
  clear hB3
  have qhT0_0 : w4.cell? ⟨w.heap.size, 0, none⟩ = some (.complex .f32 1065353216 0) := cell_at hT0 rfl
  have qhT0_1 : w4.cell? ⟨w.heap.size, 1, none⟩ = some (.complex .f32 1065353216 0) := cell_at hT0 rfl
  have qhT0_2 : w4.cell? ⟨w.heap.size, 2, none⟩ = some (.complex .f32 1065353216 0) := cell_at hT0 rfl
  have qhT0_3 : w4.cell? ⟨w.heap.size, 3, none⟩ = some (.complex .f32 1065353216 0) := cell_at hT0 rfl
  have qhT1_0 : w4.cell? ⟨w.heap.size + 1, 0, none⟩ = some (.complex .f32 0 0) := cell_at hT1 rfl
  have qhT1_1 : w4.cell? ⟨w.heap.size + 1, 1, none⟩ = some (.complex .f32 0 0) := cell_at hT1 rfl
  have qhT1_2 : w4.cell? ⟨w.heap.size + 1, 2, none⟩ = some (.complex .f32 0 0) := cell_at hT1 rfl
  have qhT1_3 : w4.cell? ⟨w.heap.size + 1, 3, none⟩ = some (.complex .f32 0 0) := cell_at hT1 rfl
  clear qhT0_0 qhT0_1 qhT0_2 qhT0_3 qhT1_0 qhT1_1 qhT1_2 qhT1_3
  have h0 := HL.2 (by omega)
  obtain ⟨b', off', he, hbl, hcl⟩ := h0
  cases he
  have c0 : w4.cell? ⟨b, 0, none⟩ = some (.int .i64 2) := hcl 0 (by decide)
  have c1 : w4.cell? ⟨b, 1, none⟩ = some (.int .i64 3) := hcl 1 (by decide)
  have c2 : w4.cell? ⟨b, 2, none⟩ = some (.int .i64 1) := hcl 2 (by decide)
  have c3 : w4.cell? ⟨b, 3, none⟩ = some (.int .i64 5) := hcl 3 (by decide)
  clear hcl HL
  have h5 : k = 0 ∨ k = 1 ∨ k = 2 := by omega
  rcases h5 with rfl | rfl | rfl
  ·obtain rfl : z = 0 := hz
   have HN : Hid (Below w3.heap.size w3 (w4.alloc (Obj.cells #[.int .i64 2, .int .i64 3] 80))) := Lib.hid (hbr.alloc hbr.size _)
   clear hbr
   go_wp2
   go_roundw
   case rel => exact ⟨1, 1, by omega, rfl, rfl, rfl, HN.out⟩
   case measure => simp [intOf]
  ·obtain rfl : z = 1 := hz
   have HN : Hid (Below w3.heap.size w3 (w4.alloc (Obj.cells #[.int .i64 1, .int .i64 5] 80))) := Lib.hid (hbr.alloc hbr.size _)
   clear hbr
   go_wp2
   go_roundw
   case rel => exact ⟨2, 2, by omega, rfl, rfl, rfl, HN.out⟩
   case measure => simp [intOf]
  obtain rfl : z = 2 := hz
  clear c0 c1 c2 c3
  have q0_0 : w4.cell? ⟨w.heap.size, 0, none⟩ = some (.complex .f32 1065353216 0) := cell_at hT0 rfl
  have q0_1 : w4.cell? ⟨w.heap.size, 1, none⟩ = some (.complex .f32 1065353216 0) := cell_at hT0 rfl
  have q0_2 : w4.cell? ⟨w.heap.size, 2, none⟩ = some (.complex .f32 1065353216 0) := cell_at hT0 rfl
  have q0_3 : w4.cell? ⟨w.heap.size, 3, none⟩ = some (.complex .f32 1065353216 0) := cell_at hT0 rfl
  go_wp2_with fail
  refine (c123_11 _).mono ?_
  rintro e w5 ⟨rfl, hb⟩
  have hS := hb
  have hB5 := hB4.call hS rfl
  replace hT0 := blkb hT0 hS
  replace hT1 := blkb hT1 hS
  replace hbr := hbr.call hS rfl
  clear hS hB4
  have qhT0_0 : w5.cell? ⟨w.heap.size, 0, none⟩ = some (.complex .f32 1065353216 0) := cell_at hT0 rfl
  have qhT0_1 : w5.cell? ⟨w.heap.size, 1, none⟩ = some (.complex .f32 1065353216 0) := cell_at hT0 rfl
  have qhT0_2 : w5.cell? ⟨w.heap.size, 2, none⟩ = some (.complex .f32 1065353216 0) := cell_at hT0 rfl
  have qhT0_3 : w5.cell? ⟨w.heap.size, 3, none⟩ = some (.complex .f32 1065353216 0) := cell_at hT0 rfl
  have qhT1_0 : w5.cell? ⟨w.heap.size + 1, 0, none⟩ = some (.complex .f32 0 0) := cell_at hT1 rfl
  have qhT1_1 : w5.cell? ⟨w.heap.size + 1, 1, none⟩ = some (.complex .f32 0 0) := cell_at hT1 rfl
  have qhT1_2 : w5.cell? ⟨w.heap.size + 1, 2, none⟩ = some (.complex .f32 0 0) := cell_at hT1 rfl
  have qhT1_3 : w5.cell? ⟨w.heap.size + 1, 3, none⟩ = some (.complex .f32 0 0) := cell_at hT1 rfl
  clear hb
  clear qhT0_0 qhT0_1 qhT0_2 qhT0_3 qhT1_0 qhT1_1 qhT1_2 qhT1_3
  have sc0 : w5.cell? ⟨w.heap.size + 1, 0, none⟩ = some (.complex .f32 0 0) := cell_at hT1 rfl
  have sf0 : w5.frozen? ⟨w.heap.size + 1, 0, none⟩ = false := free_at hT1
  have sc1 : w5.cell? ⟨w.heap.size + 1, 1, none⟩ = some (.complex .f32 0 0) := cell_at hT1 rfl
  have sf1 : w5.frozen? ⟨w.heap.size + 1, 1, none⟩ = false := free_at hT1
  have sc2 : w5.cell? ⟨w.heap.size + 1, 2, none⟩ = some (.complex .f32 0 0) := cell_at hT1 rfl
  have sf2 : w5.frozen? ⟨w.heap.size + 1, 2, none⟩ = false := free_at hT1
  have sc3 : w5.cell? ⟨w.heap.size + 1, 3, none⟩ = some (.complex .f32 0 0) := cell_at hT1 rfl
  have sf3 : w5.frozen? ⟨w.heap.size + 1, 3, none⟩ = false := free_at hT1
  have hTs := set_blk (i := 3) (set_blk (i := 2) (set_blk (i := 1) (set_blk (i := 0) hT1 (.complex .f32 1065353216 0)) (.complex .f32 2147483648 1065353216)) (.complex .f32 3212836864 2147483648)) (.complex .f32 0 3212836864)
  have hbs := ((((hB5.setCell (p := ⟨w.heap.size + 1, 0, none⟩) (by show _ ≤ w.heap.size + 1; omega) (.complex .f32 1065353216 0)).setCell (p := ⟨w.heap.size + 1, 1, none⟩) (by show _ ≤ w.heap.size + 1; omega) (.complex .f32 2147483648 1065353216)).setCell (p := ⟨w.heap.size + 1, 2, none⟩) (by show _ ≤ w.heap.size + 1; omega) (.complex .f32 3212836864 2147483648)).setCell (p := ⟨w.heap.size + 1, 3, none⟩) (by show _ ≤ w.heap.size + 1; omega) (.complex .f32 0 3212836864))
  have HTS := Lib.hid hTs
  have HBS := Lib.hid hbs
  clear hTs hbs
  go_wp2_with fail
  exact bodyPost_ret (results_blk_tmp rfl rfl HTS.out _ Tryz.underlying84 rfl (by kernel_rfl)) rfl ⟨rfl, HBS.out⟩
end Go.Proofs.YtdimmlljjmmdbaaGreatDoor
/-
 DERIVED: THE SHELF's CONTRACTS AT THIS DUMP, IN PLAIN WORDS (tools/lay-plain.mjs out of 'TryzShelf.lean', which tools/lay-shelf.mjs wrote): THE SAME DECLARATIONS UNDER THE SAME NAMES: 'import', 'namespace', 'open', 'def', 'theorem' AND NOTHING ELSE: no command of the shelf's: FOR A HAND-IN. Each laying: the table of numbers ('.._ren') and one theorem, a field a fact of the dump's own or the kernel's comparison; each contract: ONE APPLICATION.
-/
namespace Go.Proofs
open Go.Shelf
def Tryz.lays156_ren : Go.Shelf.Ren := ⟨fun | 156 => 160 | 165 => 175 | 166 => 176 | 169 => 177 | 240 => 188 | 241 => 189 | 276 => 196 | 277 => 197 | n => n, fun | 31 => 140 | 9 => 9 | 3 => 3 | 4 => 4 | 0 => 0 | 20 => 20 | 72 => 243 | 76 => 247 | 70 => 241 | 37 => 233 | 75 => 246 | 127 => 259 | 164 => 264 | 5 => 5 | 80 => 249 | n => n, fun | n => n⟩
theorem Tryz.lays156 : Go.Proofs.Lays.n156 Tryz.prog Tryz.lays156_ren := {
 mixed := by kernel_rfl
 f156 := Tryz.func160.trans (congrArg some (by kernel_rfl))
 f165 := Tryz.func175.trans (congrArg some (by kernel_rfl))
 f166 := Tryz.func176.trans (congrArg some (by kernel_rfl))
 f169 := Tryz.func177.trans (congrArg some (by kernel_rfl))
 f240 := Tryz.func188.trans (congrArg some (by kernel_rfl))
 f241 := Tryz.func189.trans (congrArg some (by kernel_rfl))
 f276 := Tryz.func196.trans (congrArg some (by kernel_rfl))
 f277 := Tryz.func197.trans (congrArg some (by kernel_rfl))
 t0 := Tryz.underlying0
 a0 := Tryz.isAgg0
 z0 := Tryz.sizeOf0
 v0 := Tryz.zeroValue0
 t3 := Tryz.underlying3
 a3 := Tryz.isAgg3
 z3 := Tryz.sizeOf3
 v3 := Tryz.zeroValue3
 t4 := Tryz.underlying4
 a4 := Tryz.isAgg4
 z4 := Tryz.sizeOf4
 v4 := Tryz.zeroValue4
 t9 := Tryz.underlying9
 a9 := Tryz.isAgg9
 z9 := Tryz.sizeOf9
 v9 := Tryz.zeroValue9
 t20 := Tryz.underlying20
 a20 := Tryz.isAgg20
 z20 := Tryz.sizeOf20
 v20 := Tryz.zeroValue20
 t31 := Tryz.underlying140
 a31 := Tryz.isAgg140
 z31 := Tryz.sizeOf140
 v31 := Tryz.zeroValue140
 t37 := Tryz.underlying233
 a37 := Tryz.isAgg233
 z37 := Tryz.sizeOf233
 v37 := Tryz.zeroValue233
 t70 := Tryz.underlying241
 a70 := Tryz.isAgg241
 z70 := Tryz.sizeOf241
 v70 := Tryz.zeroValue241
 t72 := Tryz.underlying243
 a72 := Tryz.isAgg243
 z72 := Tryz.sizeOf243
 v72 := Tryz.zeroValue243
 t75 := Tryz.underlying246
 a75 := Tryz.isAgg246
 z75 := Tryz.sizeOf246
 v75 := Tryz.zeroValue246
 t76 := Tryz.underlying247
 a76 := Tryz.isAgg247
 z76 := Tryz.sizeOf247
 v76 := Tryz.zeroValue247
 t127 := Tryz.underlying259
 a127 := Tryz.isAgg259
 z127 := Tryz.sizeOf259
 v127 := Tryz.zeroValue259
 t164 := Tryz.underlying264
 a164 := Tryz.isAgg264
 z164 := Tryz.sizeOf264
 v164 := Tryz.zeroValue264 }
theorem Tryz.Builder_Extra_156 : Builder.Extra Tryz.prog Tryz.lays156_ren := {
 sizeBuilder := by kernel_rfl
 liesBuilder := by kernel_rfl
 t5 := Tryz.underlying5
 a5 := Tryz.isAgg5
 z5 := Tryz.sizeOf5
 v5 := Tryz.zeroValue5
 infoByte := by kernel_rfl
 cellsByte := by kernel_rfl
 sizeByte := by kernel_rfl
 neB5 := by decide }
open Go.RowKit in
/-- strings.Join: "Join concatenates the elements of its first argument to create a single string. The separator string sep is placed between elements in the resulting string.": HOWEVER MANY ELEMENTS. Below the heap's end the world is as it was. (LAID: no walk: one application.) -/
theorem Tryz.strings_Join (bk o c : Nat) (xs : List ByteArray) (sep : ByteArray) (w : World) (hcells : ∀ (j : Nat) x, xs[j]? = some x → w.cell? ⟨bk, o + j, none⟩ = some (.string x)) (hbk : bk < w.heap.size) (hN : xs.length ≤ 140737488355328) (hcap : xs.length ≤ c) (hlen : (Lib.join (xs.map (·.data.toList)) sep.data.toList).length ≤ 140737488355328) :
  Calls Tryz.prog 160 #[.slice (some ⟨bk, o, none⟩) xs.length c, .string sep] w fun e w' => e = .returned (.string ⟨(Lib.join (xs.map (·.data.toList)) sep.data.toList).toArray⟩) ∧ Below w.heap.size w w' := Any.strings_Join Tryz.lays156 Tryz.Builder_Extra_156 bk o c xs sep w hcells hbk hN hcap hlen
def Tryz.lays171_ren : Go.Shelf.Ren := ⟨fun | 171 => 162 | 243 => 178 | 246 => 190 | 283 => 198 | 284 => 199 | 285 => 200 | 286 => 201 | 129 => 207 | 317 => 206 | 318 => 208 | 319 => 209 | 320 => 210 | 337 => 215 | 338 => 216 | n => n, fun | 3 => 3 | 9 => 9 | 2 => 2 | 4 => 4 | 171 => 267 | 0 => 0 | 53 => 256 | 37 => 233 | 5 => 5 | 173 => 270 | 212 => 276 | 51 => 253 | 20 => 20 | 213 => 277 | 46 => 235 | 232 => 285 | 233 => 286 | n => n, fun | 17 => 2 | 18 => 5 | 19 => 6 | n => n⟩
theorem Tryz.lays171 : Go.Proofs.Lays.n171 Tryz.prog Tryz.lays171_ren := {
 mixed := by kernel_rfl
 f129 := Tryz.func207.trans (congrArg some (by kernel_rfl))
 f171 := Tryz.func162.trans (congrArg some (by kernel_rfl))
 f243 := Tryz.func178.trans (congrArg some (by kernel_rfl))
 f246 := Tryz.func190.trans (congrArg some (by kernel_rfl))
 f283 := Tryz.func198.trans (congrArg some (by kernel_rfl))
 f284 := Tryz.func199.trans (congrArg some (by kernel_rfl))
 f285 := Tryz.func200.trans (congrArg some (by kernel_rfl))
 f286 := Tryz.func201.trans (congrArg some (by kernel_rfl))
 f317 := Tryz.func206.trans (congrArg some (by kernel_rfl))
 f318 := Tryz.func208.trans (congrArg some (by kernel_rfl))
 f319 := Tryz.func209.trans (congrArg some (by kernel_rfl))
 f320 := Tryz.func210.trans (congrArg some (by kernel_rfl))
 f337 := Tryz.func215.trans (congrArg some (by kernel_rfl))
 f338 := Tryz.func216.trans (congrArg some (by kernel_rfl))
 t0 := Tryz.underlying0
 a0 := Tryz.isAgg0
 z0 := Tryz.sizeOf0
 v0 := Tryz.zeroValue0
 t2 := Tryz.underlying2
 a2 := Tryz.isAgg2
 z2 := Tryz.sizeOf2
 v2 := Tryz.zeroValue2
 t3 := Tryz.underlying3
 a3 := Tryz.isAgg3
 z3 := Tryz.sizeOf3
 v3 := Tryz.zeroValue3
 t4 := Tryz.underlying4
 a4 := Tryz.isAgg4
 z4 := Tryz.sizeOf4
 v4 := Tryz.zeroValue4
 t5 := Tryz.underlying5
 a5 := Tryz.isAgg5
 z5 := Tryz.sizeOf5
 v5 := Tryz.zeroValue5
 t9 := Tryz.underlying9
 a9 := Tryz.isAgg9
 z9 := Tryz.sizeOf9
 v9 := Tryz.zeroValue9
 t20 := Tryz.underlying20
 a20 := Tryz.isAgg20
 z20 := Tryz.sizeOf20
 v20 := Tryz.zeroValue20
 t37 := Tryz.underlying233
 a37 := Tryz.isAgg233
 z37 := Tryz.sizeOf233
 v37 := Tryz.zeroValue233
 t46 := Tryz.underlying235
 a46 := Tryz.isAgg235
 z46 := Tryz.sizeOf235
 v46 := Tryz.zeroValue235
 t51 := Tryz.underlying253
 a51 := Tryz.isAgg253
 z51 := Tryz.sizeOf253
 v51 := Tryz.zeroValue253
 t53 := Tryz.underlying256
 a53 := Tryz.isAgg256
 z53 := Tryz.sizeOf256
 v53 := Tryz.zeroValue256
 t171 := Tryz.underlying267
 a171 := Tryz.isAgg267
 z171 := Tryz.sizeOf267
 v171 := Tryz.zeroValue267
 t173 := Tryz.underlying270
 a173 := Tryz.isAgg270
 z173 := Tryz.sizeOf270
 v173 := Tryz.zeroValue270
 t212 := Tryz.underlying276
 a212 := Tryz.isAgg276
 z212 := Tryz.sizeOf276
 v212 := Tryz.zeroValue276
 t213 := Tryz.underlying277
 a213 := Tryz.isAgg277
 z213 := Tryz.sizeOf277
 t232 := Tryz.underlying285
 a232 := Tryz.isAgg285
 z232 := Tryz.sizeOf285
 v232 := Tryz.zeroValue285
 t233 := Tryz.underlying286
 a233 := Tryz.isAgg286
 z233 := Tryz.sizeOf286
 v233 := Tryz.zeroValue286
 g17 := by kernel_rfl
 g18 := by kernel_rfl
 g19 := by kernel_rfl }
open Go.RowKit Go.Sort Go.Lib in
/-- THE ROAD WITHOUT THE TABLE: 0 <= i < 100: NO PREMISE ON THE WORLD, AND THE WORLD IS AS IT WAS: a row that keeps its argument in that range need list no table ('laid = []'). (LAID: no walk: one application.) -/
theorem Tryz.strconv_Itoa_small (i : Nat) (hi : i < 100) (w : World) :
  Calls Tryz.prog 162 #[.int .i64 i] w fun e w' => e = .returned (.string ⟨(Lib.decDigits i).toArray⟩) ∧ w' = w := Any.strconv_Itoa_small Tryz.lays171 i hi w
end Go.Proofs
namespace Go.Proofs.YtdimmlljjmmdbaaGreatDoor
open Go.RowKit
set_option maxHeartbeats 4000000
set_option maxRecDepth 20000
theorem info9 : (Tryz.prog.info? 9).map (fun i => (i.zero, i.size, i.bytes)) = some (some (.string ByteArray.empty), 1, 16) := by kernel_rfl
def encS (l : List ByteArray) : List Value := l.map Value.string
theorem c161 (A : Option Addr) (n cap : Nat) (l : List Int) (f : Int → ByteArray) (w : World) (hl : n ≤ 1000000) (H : RdI w A n l)
  (hcl : ∀ (W : World) (x : Int), x ∈ l → Calls Tryz.prog 162 #[.int .i64 x] W fun e w' => e = .returned (.string (f x)) ∧ w' = W) :
  Calls Tryz.prog 161 #[.slice A n cap, .func (.func 162) #[] #[]] w fun en w' => ∃ A' cap', en = .returned (.slice A' n cap') ∧ RdS w' 1 A' n (encS (l.map f)) ∧ Below w.heap.size w w' := by
 have Hn := Lib.hid H.len
 have Hcl := Lib.hid hcl
 have hmm : encS (l.map f) = l.map fun x => Value.string (f x) := by simp [encS]
 have Hm := Lib.hid hmm
 clear hcl hmm
 obtain ⟨i0, hi, hz0, hz1, hz2⟩ := info_parts info9
 go_enter Tryz.func161, Tryz.ntmps161
 go_wp2
 go_loopw [5, 10] (fun x i wr => ∃ k : Nat, k ≤ n ∧ i = .int .i64 k ∧ wr.ownsRow w.heap.size 9 1 x k ((l.map fun x => Value.string (f x)).take k) ∧ Below w.heap.size w wr) (fun _ i _ => n - (intOf i).toNat)
 case atStart => exact ⟨0, Nat.zero_le _, rfl, World.ownsRow_nil _ _ _ _, Below.refl _ _⟩
 case round =>
  obtain ⟨k, hk, rfl, hown, hB⟩ := hrel
  by_cases hlt : k < n
  ·obtain ⟨b, off, x, rfl, hx, hb, h0⟩ := (H.below hB).at hlt
   have Hx := Lib.hid hx
   have htk : (l.map fun x => Value.string (f x)).take (k + 1) = (l.map fun x => Value.string (f x)).take k ++ [Value.string (f x)] := by rw [List.take_add_one, List.getElem?_map, hx]; simp
   have HTK := Lib.hid htk
   clear hx htk
   go_wp2_with fail
   refine (Hcl.out _ x (List.mem_of_getElem? Hx.out)).mono ?_
   rintro e w2 ⟨rfl, rfl⟩
   have hsz := hB.size
   go_wp2_with (at_builtin; refine wpList_append_own _ rfl _ _ 140 rfl w.heap.size 9 i0 (.string ByteArray.empty) 1 16 Tryz.underlying140 hi hz0 hz1 hz2 rfl (by decide) _ _ _ rfl (hown.alloc _) ⟨w2.heap.size, 0, none⟩ 1 1 [Value.string (f x)] rfl rfl (news_one _ _ rfl) (fun x hx => by rw [List.mem_singleton.1 hx]; rfl) (by unfold maxLen; omega) (by omega) (by simp; omega) ?_)
   intro x' w3 hown3 hg3 _
   have hB3 : Below w.heap.size w w3 := (hB.alloc hsz _).grown hg3 (by simp; omega) (fun g hg => (hown.lt g hg).1)
   rw [← HTK.out] at hown3
   have HO := Lib.hid hown3
   clear hown3 hg3 hown
   go_wp2
   go_roundw
   case rel => exact ⟨k + 1, by omega, by go_num, HO.out, hB3⟩
   case measure => simp [intOf]; omega
  ·obtain rfl : n = k := by omega
   rw [List.take_of_length_le (by rw [List.length_map, Hn.out]; exact Nat.le_refl _)] at hown
   have HO := Lib.hid hown
   clear hown
   go_wp2
   go_ret
   obtain ⟨A', cap', rfl, hr⟩ := Sl.of_own HO.out
   exact ⟨A', cap', rfl, by rw [Hm.out]; exact hr, hB⟩
/-- a line: words with spaces between, and the end of the line -/
def lineB (word : ByteArray) (xs : List ByteArray) : ByteArray := ⟨(Lib.join ((word :: xs).map (·.data.toList)) [32]).toArray⟩ ++ ⟨#[10]⟩
theorem c134 (word : ByteArray) (A : Option Addr) (n cap : Nat) (l : List Int) (f : Int → ByteArray) (w : World) (hl : n ≤ 1000000) (H : RdI w A n l)
  (hcl : ∀ (W : World) (x : Int), x ∈ l → Calls Tryz.prog 162 #[.int .i64 x] W fun e w' => e = .returned (.string (f x)) ∧ w' = W)
  (hlen : (Lib.join ((word :: l.map f).map (·.data.toList)) [32]).length ≤ 1000000) :
  Calls Tryz.prog 134 #[.string word, .slice A n cap] w fun en w' => en = .returned (.string (lineB word (l.map f))) ∧ Below w.heap.size w w' := by
 obtain ⟨w0, hW⟩ : ∃ W, W = w.alloc (Obj.cells #[.string word] 9) := ⟨_, rfl⟩
 have hB0 : Below w.heap.size w w0 := by rw [hW]; exact (Below.refl _ _).alloc (Nat.le_refl _) _
 have hown : w0.ownsRow w.heap.size 9 1 (.slice (some ⟨w.heap.size, 0, none⟩) 1 1) 1 [.string word] := ⟨rfl, .inr ⟨w.heap.size, 1, #[.string word], rfl, Nat.le_refl _, by rw [hW]; exact heap_new rfl, Nat.le_refl _, by unfold maxLen; omega, rfl, rfl⟩⟩
 have Hcl := Lib.hid hcl
 have HLN := Lib.hid H.len
 have H0 := H.below hB0
 have HLE := Lib.hid hlen
 clear hcl hlen H
 go_enter Tryz.func134, Tryz.ntmps134
 go_wp2_with fail
 rw [← hW]
 clear hW
 refine (c161 A n cap l f _ hl H0 Hcl.out).mono ?_
 rintro e w1 ⟨A1, cap1, rfl, hr1, hb1⟩
 have hown1 := own_below hown hb1
 have hB1 := hB0.call hb1 rfl
 have hsz := hB1.size
 have H140 := Tryz.underlying140
 clear hown hb1 H0 hB0
 go_wp2_with (at_builtin; refine wpList_plain rfl fun K hK => wp_app1 _ _ 140 rfl w.heap.size 9 (.string ByteArray.empty) 16 Tryz.underlying140 info9 rfl (by decide) _ 1 [.string word] (encS (l.map f)) rfl hown1 A1 n cap1 rfl hr1 (fun u hu => by simp [encS] at hu; obtain ⟨y, _, rfl⟩ := hu; rfl) (by omega) hsz (fun v' w2 h2 h3 => ?_); obtain ⟨A2, cap2, rfl, hr2, hc2, _⟩ := own_form h2; refine hK _ _ (stopq ?_))
 unfold StopQ
 obtain ⟨bk, off, rfl, hbk, hcs⟩ := hr2.2 (by omega)
 obtain ⟨xs, hxs⟩ : ∃ xs, xs = word :: l.map f := ⟨_, rfl⟩
 have hxl : xs.length = 1 + n := by rw [hxs]; simp [HLN.out]; omega
 have hen : encS xs = [.string word] ++ encS (l.map f) := by rw [hxs]; rfl
 have hcells : ∀ (j : Nat) x, xs[j]? = some x → w2.cell? ⟨bk, off + j, none⟩ = some (.string x) := fun j x hx => by
  have hj : j < xs.length := by
   by_cases h : j < xs.length
   ·exact h
   ·rw [List.getElem?_eq_none (by omega)] at hx; cases hx
  have h1 := hcs j (by rw [← hen]; simp [encS]; exact hj)
  rw [h1, ← hen]
  simp [encS, hx]
 have hbb := hB1.grown h3 hsz (fun g hg => by cases hg; exact Nat.le_refl _)
 have HJL := HLE.out
 have HXS := Lib.hid hxs
 rw [← hxs] at HJL
 have HBB := Lib.hid hbb
 rw [← hxl]
 rw [← hxl] at hc2
 have hN : xs.length ≤ 140737488355328 := by omega
 clear hr2 hcs hen h2 h3 hown1 hr1 hbb hxs hxl
 go_wp2_with fail
 refine (Tryz.strings_Join bk off cap2 xs ⟨#[32]⟩ _ hcells hbk hN hc2 (Nat.le_trans HJL (by decide))).mono ?_
 rintro e w3 ⟨rfl, hb3⟩
 have HB3 : Hid (Below w.heap.size w w3) := Lib.hid (HBB.out.call hb3 rfl)
 clear hb3 hcells
 go_wp2
 go_ret
 exact ⟨by unfold lineB; rw [← HXS.out]; rfl, HB3.out⟩
end Go.Proofs.YtdimmlljjmmdbaaGreatDoor
namespace Go.Proofs.YtdimmlljjmmdbaaGreatDoor
open Go.RowKit
set_option maxHeartbeats 4000000
set_option maxRecDepth 20000
theorem grS : Im.Gr 2 2 [1, 2, 3, 4] := ⟨by decide, by decide, rfl, by decide, by decide⟩
theorem feas_dec {c : Nat} {l u : List Int} (h : ((List.range l.length).all fun a => (List.range l.length).all fun b => !decide (0 < Im.cost c l a b) || decide (Im.at0 u b ≤ Im.at0 u a + Im.cost c l a b)) = true) : Im.Feas c l u := by
 intro a b ha hb hc
 have h1 := List.all_eq_true.1 h a (List.mem_range.2 ha)
 have h2 := List.all_eq_true.1 h1 b (List.mem_range.2 hb)
 simpa [hc] using h2
theorem ist_dec {c : Nat} {l t : List Int} {s : Nat} (h0 : t.length = l.length) (h1 : Im.at0 t s = 0) (h2 : ((List.range l.length).all fun b => decide (0 ≤ Im.at0 t b)) = true) (h3 : ((List.range l.length).all fun a => (List.range l.length).all fun b => !decide (0 < Im.cost c l a b) || decide (Im.at0 t b ≤ Im.at0 t a + Im.cost c l a b)) = true)
  (h4 : ((List.range l.length).all fun b => decide (b = s) || (List.range l.length).any fun a => decide (0 < Im.cost c l a b) && decide (Im.at0 t b = Im.at0 t a + Im.cost c l a b)) = true) : Im.IsT c l s t := by
 refine ⟨h0, h1, fun b hb => by simpa using List.all_eq_true.1 h2 b (List.mem_range.2 hb), feas_dec h3, fun b hb hne => ?_⟩
 have h := List.all_eq_true.1 h4 b (List.mem_range.2 hb)
 simp only [hne, decide_false, Bool.false_or, List.any_eq_true, Bool.and_eq_true, decide_eq_true_eq, List.mem_range] at h
 obtain ⟨a, ha, h5, h6⟩ := h
 exact ⟨a, ha, h5, h6⟩
theorem it0 : Im.IsT 2 [1, 2, 3, 4] 0 [0, 6, 8, 15] := ist_dec rfl rfl (by decide) (by decide) (by decide)
theorem it1 : Im.IsT 2 [1, 2, 3, 4] 1 [6, 0, 14, 12] := ist_dec rfl rfl (by decide) (by decide) (by decide)
theorem it2 : Im.IsT 2 [1, 2, 3, 4] 2 [8, 14, 0, 14] := ist_dec rfl rfl (by decide) (by decide) (by decide)
theorem it3 : Im.IsT 2 [1, 2, 3, 4] 3 [15, 12, 14, 0] := ist_dec rfl rfl (by decide) (by decide) (by decide)
theorem way03 : Im.way 2 [1, 2, 3, 4] [15, 12, 14, 0] 3 0 = [0, 3] := by decide
theorem way12 : Im.way 2 [1, 2, 3, 4] [8, 14, 0, 14] 2 1 = [1, 0, 2] := by decide
theorem potA : potE 2 [1, 2, 3, 4] [0, 6, 8, 15] = 0 := potE_c (by rfl) it0.feas
theorem potAV : potV 2 [1, 2, 3, 4] [0, 6, 8, 15] 0 3 = 15 := by unfold potV; rw [if_pos potA]; rfl
theorem potB : potE 2 [1, 2, 3, 4] [0, 6, 8, 16] = 19 := potE_b (by rfl) (fun h => by have := h 0 3 (by decide) (by decide) (by decide); revert this; decide)
theorem potBV : potV 2 [1, 2, 3, 4] [0, 6, 8, 16] 0 3 = 0 := by unfold potV; rw [if_neg (by rw [potB]; decide)]
theorem nsS : nsL 2 [1, 2, 3, 4] 5 0 1 = [1, 1, 4, 5] := by
 unfold nsL
 have e : nsK 2 [1, 2, 3, 4] 5 0 1 = fun k => (Im.at0 [0, 6, 8, 15] k + Im.at0 [6, 0, 14, 12] k) / 5 := by
  funext k
  unfold nsK
  rw [Im.times_eq it0, Im.times_eq it1]
 rw [e]
 decide
theorem dl3 : dlL 2 [1, 2, 3, 4] 5 6 3 0 1 false = [1, -1, 4, -1] := by unfold dlL; rw [nsS]; decide
theorem dl4 : dlL 2 [1, 2, 3, 4] 5 6 4 0 1 false = [1, 1, 4, 5] := by unfold dlL; rw [nsS]; decide
theorem dl2 : dlL 2 [1, 2, 3, 4] 5 6 2 0 1 false = [-1, -1, -1, -1] := by unfold dlL; rw [nsS]; decide
theorem sv (m : Int) (h : m = 2 ∨ m = 3 ∨ m = 4) : Mo.surv 2 2 [1, 2, 3, 4] 5 6 m [⟨0, 1, false⟩] = 0 := by rcases h with rfl | rfl | rfl <;> rfl
theorem dp3 : [(⟨0, 1, false⟩ : Pr)].map (dlp 2 [1, 2, 3, 4] 5 6 3) = [[1, -1, 4, -1]] := by
 simp only [List.map_cons, List.map_nil]
 rw [show dlp 2 [1, 2, 3, 4] 5 6 3 ⟨0, 1, false⟩ = dlL 2 [1, 2, 3, 4] 5 6 3 0 1 false from rfl, dl3]
theorem mdlS : Mo.mdl 2 2 [1, 2, 3, 4] 5 6 3 [⟨0, 1, false⟩] [1, 10, 100, 1000] = 0 := by rfl
theorem trS : trcs 2 [1, 2, 3, 4] 5 6 3 [1, 10, 100, 1000] [⟨0, 1, false⟩] = [[0, 1, 0, 0, 100, 0]] := by
 unfold trcs trc
 simp only [List.map_cons, List.map_nil, Bool.false_eq_true, if_false]
 rw [show dlp 2 [1, 2, 3, 4] 5 (6 : Nat) 3 ⟨0, 1, false⟩ = dlL 2 [1, 2, 3, 4] 5 6 3 0 1 false from rfl, dl3]
 decide
theorem shS (d : List Int) (h : d.length = 6) : Mo.Shp 6 [⟨0, 1, false⟩] [d] := by
 intro j p x hp hx
 match j, hp, hx with
 | 0, hp, hx =>
  simp at hp hx
  subst hp; subst hx
  simp [Mo.okT, h]
 | j + 1, hp, hx => simp at hp
theorem datS : Mo.dat 6 [⟨0, 1, false⟩] [[0, 5, 0, 0, 7, 9]] = 0 := by rw [Mo.dat_ok rfl (shS _ rfl)]; rfl
theorem datU : Mo.dat 6 [⟨0, 1, false⟩] [[0, 0, 0, 0, 0, 9]] = 0 := by rw [Mo.dat_ok rfl (shS _ rfl)]; rfl
theorem dtaS : Mo.dta 2 2 [1, 2, 3, 4] 5 6 3 [⟨0, 1, false⟩] [[0, 5, 0, 0, 7, 9]] = 0 := by unfold Mo.dta; rw [datS]; rfl
theorem imS : Im.image 4 ([(⟨0, 1, false⟩ : Pr)].map (dlp 2 [1, 2, 3, 4] 5 6 3)) [[0, 5, 0, 0, 7, 9]] = [5, 0, 7, 0] := by rw [dp3]; decide
theorem imU : Im.image 4 ([(⟨0, 1, false⟩ : Pr)].map (dlp 2 [1, 2, 3, 4] 5 6 3)) [[0, 0, 0, 0, 0, 9]] = [0, 0, 0, 0] := by rw [dp3]; decide
theorem fitS : Mo.fit 2 2 [1, 2, 3, 4] 5 6 3 [⟨0, 1, false⟩] [1, 10, 100, 1000] [[0, 5, 0, 0, 7, 9]] = 0 := by unfold Mo.fit; rw [datS]; rfl
theorem misS : Im.misfit (trcs 2 [1, 2, 3, 4] 5 6 3 [1, 10, 100, 1000] [⟨0, 1, false⟩]).flatten [[0, 5, 0, 0, 7, 9]].flatten = 8746 := by rw [trS]; rfl
theorem bthS : Mo.bth 2 2 [1, 2, 3, 4] 5 6 3 [⟨0, 1, false⟩] [[0, 5, 0, 0, 7, 9]] [[0, 0, 0, 0, 0, 9]] = 0 := by unfold Mo.bth; rw [dtaS, datU]; rfl
theorem bndS : Mo.bndR (Im.image 4 ([(⟨0, 1, false⟩ : Pr)].map (dlp 2 [1, 2, 3, 4] 5 6 3)) [[0, 0, 0, 0, 0, 9]]) [[0, 5, 0, 0, 7, 9]].flatten [[0, 0, 0, 0, 0, 9]].flatten = (81, 0) := by rw [imU]; rfl
theorem ampS (k : Int) (h : k = 1 ∨ k = 2) : Mo.ampE 2 2 [1, 2, 3, 4] 5 6 3 [⟨0, 1, false⟩] [[0, 5, 0, 0, 7, 9]] k = 0 := by unfold Mo.ampE; rw [dtaS]; rcases h with rfl | rfl <;> rfl
theorem amp2 : Mo.ampR (Im.image 4 ([(⟨0, 1, false⟩ : Pr)].map (dlp 2 [1, 2, 3, 4] 5 6 3)) [[0, 5, 0, 0, 7, 9]]) (Mo.cnt ([(⟨0, 1, false⟩ : Pr)].map (dlp 2 [1, 2, 3, 4] 5 6 3)) 2) 2 = ((7, 1), 0) := by rw [imS, dp3]; rfl
theorem amp1 : Mo.ampR (Im.image 4 ([(⟨0, 1, false⟩ : Pr)].map (dlp 2 [1, 2, 3, 4] 5 6 3)) [[0, 5, 0, 0, 7, 9]]) (Mo.cnt ([(⟨0, 1, false⟩ : Pr)].map (dlp 2 [1, 2, 3, 4] 5 6 3)) 1) 1 = ((0, 0), 17) := by rw [imS, dp3]; rfl
theorem inA : Mo.innE [0, 1, 0, 0, 100, 0] [0, 5, 0, 0, 7, 9] = 0 ∧ Mo.innV [0, 1, 0, 0, 100, 0] [0, 5, 0, 0, 7, 9] = 705 := ⟨by rfl, by rfl⟩
theorem inB : Mo.innE [1, 10, 100, 1000] [5, 0, 7, 0] = 0 ∧ Mo.innV [1, 10, 100, 1000] [5, 0, 7, 0] = 705 := ⟨by rfl, by rfl⟩
end Go.Proofs.YtdimmlljjmmdbaaGreatDoor
namespace Go.Proofs.YtdimmlljjmmdbaaGreatDoor
open Go.RowKit
set_option maxHeartbeats 4000000
set_option maxRecDepth 20000
theorem rdI_cells {w : World} {og n : Nat} {t : List Int} (h : w.heap[og]? = some (.cells (encI t).toArray 3 (0, 0))) (hn : t.length = n) : RdI w (some ⟨og, 0, none⟩) n t := RdS.of_block (cs := encI t) h (by simp [encI, hn])
theorem aT0 (g : Nat) (W : World) (H : RdI W (some ⟨g, 0, none⟩) 4 [1, 2, 3, 4]) (hst : Steps W) : Calls Tryz.prog 58 #[.agg #[.int .i64 2, .int .i64 2, .slice (some ⟨g, 0, none⟩) 4 4], .int .i64 0] W fun en w' => ∃ A cap, en = .returned (.tuple #[.slice A 4 cap, .int .i64 0]) ∧ RdI w' A 4 [0, 6, 8, 15] ∧ Below W.heap.size W w' := by
 refine (c58_ok 2 2 (some ⟨g, 0, none⟩) 4 4 [1, 2, 3, 4] 0 W grS (by decide) (by decide) H hst (by decide)).mono ?_
 rintro e w' ⟨og, t, rfl, _, ht, hT, hb⟩
 obtain rfl := hT.unique it0
 exact ⟨some ⟨og, 0, none⟩, 4, rfl, rdI_cells ht rfl, hb⟩
theorem aT1 (g : Nat) (W : World) (H : RdI W (some ⟨g, 0, none⟩) 4 [1, 2, 3, 4]) (hst : Steps W) : Calls Tryz.prog 58 #[.agg #[.int .i64 2, .int .i64 2, .slice (some ⟨g, 0, none⟩) 4 4], .int .i64 1] W fun en w' => ∃ A cap, en = .returned (.tuple #[.slice A 4 cap, .int .i64 0]) ∧ RdI w' A 4 [6, 0, 14, 12] ∧ Below W.heap.size W w' := by
 refine (c58_ok 2 2 (some ⟨g, 0, none⟩) 4 4 [1, 2, 3, 4] 1 W grS (by decide) (by decide) H hst (by decide)).mono ?_
 rintro e w' ⟨og, t, rfl, _, ht, hT, hb⟩
 obtain rfl := hT.unique it1
 exact ⟨some ⟨og, 0, none⟩, 4, rfl, rdI_cells ht rfl, hb⟩
theorem aP0 (g : Nat) (W : World) (H : RdI W (some ⟨g, 0, none⟩) 4 [1, 2, 3, 4]) (hst : Steps W) : Calls Tryz.prog 59 #[.agg #[.int .i64 2, .int .i64 2, .slice (some ⟨g, 0, none⟩) 4 4], .int .i64 0, .int .i64 3] W fun en w' => ∃ A cap, en = .returned (.tuple #[.slice A 2 cap, .int .i64 15, .int .i64 0]) ∧ RdI w' A 2 [0, 3] ∧ Below W.heap.size W w' := by
 refine (c59_ok 2 2 (some ⟨g, 0, none⟩) 4 4 [1, 2, 3, 4] 0 3 W grS (by decide) (by decide) H hst (by decide) (by decide)).mono ?_
 rintro e w' ⟨gw, cw, left, rfl, hL, hr, hb⟩
 obtain rfl := hL.unique it3
 rw [way03] at hr ⊢
 exact ⟨some ⟨gw, 0, none⟩, cw, rfl, hr, hb⟩
theorem aP1 (g : Nat) (W : World) (H : RdI W (some ⟨g, 0, none⟩) 4 [1, 2, 3, 4]) (hst : Steps W) : Calls Tryz.prog 59 #[.agg #[.int .i64 2, .int .i64 2, .slice (some ⟨g, 0, none⟩) 4 4], .int .i64 1, .int .i64 2] W fun en w' => ∃ A cap, en = .returned (.tuple #[.slice A 3 cap, .int .i64 14, .int .i64 0]) ∧ RdI w' A 3 [1, 0, 2] ∧ Below W.heap.size W w' := by
 refine (c59_ok 2 2 (some ⟨g, 0, none⟩) 4 4 [1, 2, 3, 4] 1 2 W grS (by decide) (by decide) H hst (by decide) (by decide)).mono ?_
 rintro e w' ⟨gw, cw, left, rfl, hL, hr, hb⟩
 obtain rfl := hL.unique it2
 rw [way12] at hr ⊢
 exact ⟨some ⟨gw, 0, none⟩, cw, rfl, hr, hb⟩
theorem aQA (g : Nat) (U : Option Addr) (W : World) (H : RdI W (some ⟨g, 0, none⟩) 4 [1, 2, 3, 4]) (hst : Steps W) (HU : RdI W U 4 [0, 6, 8, 15]) : Calls Tryz.prog 74 #[.agg #[.int .i64 2, .int .i64 2, .slice (some ⟨g, 0, none⟩) 4 4], .int .i64 0, .int .i64 3, .slice U 4 4] W fun en w' => en = .returned (.tuple #[.int .i64 15, .int .i64 0]) ∧ Below W.heap.size W w' := by
 refine (c74_ok 2 2 (some ⟨g, 0, none⟩) 4 4 [1, 2, 3, 4] 0 3 U 4 4 [0, 6, 8, 15] W grS (by decide) (by decide) H hst (by decide) (by decide) (by decide) HU).mono ?_
 rintro e w' ⟨rfl, hb⟩
 rw [potAV, potA]
 exact ⟨rfl, hb⟩
theorem aQB (g : Nat) (U : Option Addr) (W : World) (H : RdI W (some ⟨g, 0, none⟩) 4 [1, 2, 3, 4]) (hst : Steps W) (HU : RdI W U 4 [0, 6, 8, 16]) : Calls Tryz.prog 74 #[.agg #[.int .i64 2, .int .i64 2, .slice (some ⟨g, 0, none⟩) 4 4], .int .i64 0, .int .i64 3, .slice U 4 4] W fun en w' => en = .returned (.tuple #[.int .i64 0, .int .i64 19]) ∧ Below W.heap.size W w' := by
 refine (c74_ok 2 2 (some ⟨g, 0, none⟩) 4 4 [1, 2, 3, 4] 0 3 U 4 4 [0, 6, 8, 16] W grS (by decide) (by decide) H hst (by decide) (by decide) (by decide) HU).mono ?_
 rintro e w' ⟨rfl, hb⟩
 rw [potBV, potB]
 exact ⟨rfl, hb⟩
theorem aD2 (g p : Nat) (W : World) (H : RdI W (some ⟨g, 0, none⟩) 4 [1, 2, 3, 4]) (HP : RdP W (some ⟨p, 0, none⟩) 1 [⟨0, 1, false⟩]) (hst : Steps W) : Calls Tryz.prog 28 #[.agg #[.int .i64 2, .int .i64 2, .slice (some ⟨g, 0, none⟩) 4 4], .agg #[.int .i64 5, .int .i64 6, .int .i64 2, .slice (some ⟨p, 0, none⟩) 1 1], .int .i64 0] W fun en w' => ∃ A cap, en = .returned (.tuple #[.slice A 4 cap, .int .i64 0]) ∧ RdI w' A 4 [-1, -1, -1, -1] ∧ Below W.heap.size W w' := by
 refine (c28_ok 2 2 (some ⟨g, 0, none⟩) 4 4 [1, 2, 3, 4] 5 6 2 (some ⟨p, 0, none⟩) 1 1 [⟨0, 1, false⟩] 0 0 1 false W grS (by decide) (by decide) (by decide) (by decide) (sv 2 (by decide)) rfl (by decide) (by decide) H HP hst).mono ?_
 rintro e w' ⟨v, rfl, ho, hb⟩
 rw [dl2] at ho
 obtain ⟨A, cap, rfl, hr⟩ := Sl.of_own ho
 exact ⟨A, cap, rfl, hr, hb⟩
theorem aD3 (g p : Nat) (W : World) (H : RdI W (some ⟨g, 0, none⟩) 4 [1, 2, 3, 4]) (HP : RdP W (some ⟨p, 0, none⟩) 1 [⟨0, 1, false⟩]) (hst : Steps W) : Calls Tryz.prog 28 #[.agg #[.int .i64 2, .int .i64 2, .slice (some ⟨g, 0, none⟩) 4 4], .agg #[.int .i64 5, .int .i64 6, .int .i64 3, .slice (some ⟨p, 0, none⟩) 1 1], .int .i64 0] W fun en w' => ∃ A cap, en = .returned (.tuple #[.slice A 4 cap, .int .i64 0]) ∧ RdI w' A 4 [1, -1, 4, -1] ∧ Below W.heap.size W w' := by
 refine (c28_ok 2 2 (some ⟨g, 0, none⟩) 4 4 [1, 2, 3, 4] 5 6 3 (some ⟨p, 0, none⟩) 1 1 [⟨0, 1, false⟩] 0 0 1 false W grS (by decide) (by decide) (by decide) (by decide) (sv 3 (by decide)) rfl (by decide) (by decide) H HP hst).mono ?_
 rintro e w' ⟨v, rfl, ho, hb⟩
 rw [dl3] at ho
 obtain ⟨A, cap, rfl, hr⟩ := Sl.of_own ho
 exact ⟨A, cap, rfl, hr, hb⟩
theorem aD4 (g p : Nat) (W : World) (H : RdI W (some ⟨g, 0, none⟩) 4 [1, 2, 3, 4]) (HP : RdP W (some ⟨p, 0, none⟩) 1 [⟨0, 1, false⟩]) (hst : Steps W) : Calls Tryz.prog 28 #[.agg #[.int .i64 2, .int .i64 2, .slice (some ⟨g, 0, none⟩) 4 4], .agg #[.int .i64 5, .int .i64 6, .int .i64 4, .slice (some ⟨p, 0, none⟩) 1 1], .int .i64 0] W fun en w' => ∃ A cap, en = .returned (.tuple #[.slice A 4 cap, .int .i64 0]) ∧ RdI w' A 4 [1, 1, 4, 5] ∧ Below W.heap.size W w' := by
 refine (c28_ok 2 2 (some ⟨g, 0, none⟩) 4 4 [1, 2, 3, 4] 5 6 4 (some ⟨p, 0, none⟩) 1 1 [⟨0, 1, false⟩] 0 0 1 false W grS (by decide) (by decide) (by decide) (by decide) (sv 4 (by decide)) rfl (by decide) (by decide) H HP hst).mono ?_
 rintro e w' ⟨v, rfl, ho, hb⟩
 rw [dl4] at ho
 obtain ⟨A, cap, rfl, hr⟩ := Sl.of_own ho
 exact ⟨A, cap, rfl, hr, hb⟩
theorem aM (g p : Nat) (U : Option Addr) (W : World) (H : RdI W (some ⟨g, 0, none⟩) 4 [1, 2, 3, 4]) (HP : RdP W (some ⟨p, 0, none⟩) 1 [⟨0, 1, false⟩]) (hst : Steps W) (HU : RdI W U 4 [1, 10, 100, 1000]) : Calls Tryz.prog 19 #[.agg #[.int .i64 2, .int .i64 2, .slice (some ⟨g, 0, none⟩) 4 4], .agg #[.int .i64 5, .int .i64 6, .int .i64 3, .slice (some ⟨p, 0, none⟩) 1 1], .slice U 4 4] W fun en w' => ∃ A cap, en = .returned (.tuple #[.slice A 1 cap, .int .i64 0]) ∧ RdD w' A 1 [[0, 1, 0, 0, 100, 0]] ∧ Below W.heap.size W w' := by
 refine (c19_ok 2 2 (some ⟨g, 0, none⟩) 4 4 [1, 2, 3, 4] 5 6 3 (some ⟨p, 0, none⟩) 1 1 [⟨0, 1, false⟩] U 4 [1, 10, 100, 1000] W grS (by decide) (by decide) (by decide) H HP HU hst mdlS).mono ?_
 rintro e w' ⟨go, rfl, _, ho, hb⟩
 rw [trS] at ho
 exact ⟨some ⟨go, 0, none⟩, 1, rfl, ho.rd rfl, hb⟩
theorem aI (g p : Nat) (D : Option Addr) (W : World) (H : RdI W (some ⟨g, 0, none⟩) 4 [1, 2, 3, 4]) (HP : RdP W (some ⟨p, 0, none⟩) 1 [⟨0, 1, false⟩]) (hst : Steps W) (HD : RdD W D 1 [[0, 5, 0, 0, 7, 9]]) : Calls Tryz.prog 50 #[.agg #[.int .i64 2, .int .i64 2, .slice (some ⟨g, 0, none⟩) 4 4], .agg #[.int .i64 5, .int .i64 6, .int .i64 3, .slice (some ⟨p, 0, none⟩) 1 1], .slice D 1 1] W fun en w' => ∃ A cap, en = .returned (.tuple #[.slice A 4 cap, .int .i64 0]) ∧ RdI w' A 4 [5, 0, 7, 0] ∧ Below W.heap.size W w' := by
 refine (c50_ok 2 2 (some ⟨g, 0, none⟩) 4 4 [1, 2, 3, 4] 5 6 3 (some ⟨p, 0, none⟩) 1 1 [⟨0, 1, false⟩] D 1 [[0, 5, 0, 0, 7, 9]] W grS (by decide) (by decide) (by decide) H HP HD hst dtaS).mono ?_
 rintro e w' ⟨v, rfl, ho, hb⟩
 have e1 := imS
 rw [show Im.image 4 (List.map (dlp 2 [1, 2, 3, 4] 5 (6 : Nat) 3) [⟨0, 1, false⟩]) [[0, 5, 0, 0, 7, 9]] = [5, 0, 7, 0] from e1] at ho
 obtain ⟨A, cap, rfl, hr⟩ := Sl.of_own ho
 exact ⟨A, cap, rfl, hr, hb⟩
theorem aN1 (A B : Option Addr) (cap cap2 : Nat) (W : World) (H : RdI W A 6 [0, 1, 0, 0, 100, 0]) (H2 : RdI W B 6 [0, 5, 0, 0, 7, 9]) : Calls Tryz.prog 40 #[.slice A 6 cap, .slice B 6 cap2] W fun en w' => en = .returned (.tuple #[.int .i64 705, .int .i64 0]) ∧ Below W.heap.size W w' := by
 refine (c40 A B 6 6 cap cap2 _ _ W (by decide) (by decide) H H2).mono ?_
 rintro e w' ⟨rfl, hb⟩
 rw [inA.1, inA.2]
 exact ⟨rfl, hb⟩
theorem aN2 (A B : Option Addr) (cap cap2 : Nat) (W : World) (H : RdI W A 4 [1, 10, 100, 1000]) (H2 : RdI W B 4 [5, 0, 7, 0]) : Calls Tryz.prog 40 #[.slice A 4 cap, .slice B 4 cap2] W fun en w' => en = .returned (.tuple #[.int .i64 705, .int .i64 0]) ∧ Below W.heap.size W w' := by
 refine (c40 A B 4 4 cap cap2 _ _ W (by decide) (by decide) H H2).mono ?_
 rintro e w' ⟨rfl, hb⟩
 rw [inB.1, inB.2]
 exact ⟨rfl, hb⟩
theorem aF (g p : Nat) (U D : Option Addr) (W : World) (H : RdI W (some ⟨g, 0, none⟩) 4 [1, 2, 3, 4]) (HP : RdP W (some ⟨p, 0, none⟩) 1 [⟨0, 1, false⟩]) (hst : Steps W) (HU : RdI W U 4 [1, 10, 100, 1000]) (HD : RdD W D 1 [[0, 5, 0, 0, 7, 9]]) : Calls Tryz.prog 32 #[.agg #[.int .i64 2, .int .i64 2, .slice (some ⟨g, 0, none⟩) 4 4], .agg #[.int .i64 5, .int .i64 6, .int .i64 3, .slice (some ⟨p, 0, none⟩) 1 1], .slice U 4 4, .slice D 1 1] W fun en w' => en = .returned (.tuple #[.int .i64 8746, .int .i64 0]) ∧ Below W.heap.size W w' := by
 refine (c32_ok 2 2 (some ⟨g, 0, none⟩) 4 4 [1, 2, 3, 4] 5 6 3 (some ⟨p, 0, none⟩) 1 1 [⟨0, 1, false⟩] U 4 [1, 10, 100, 1000] D 1 [[0, 5, 0, 0, 7, 9]] W grS (by decide) (by decide) (by decide) H HP HU HD hst fitS).mono ?_
 rintro e w' ⟨rfl, hb⟩
 rw [misS]
 exact ⟨rfl, hb⟩
theorem aB (g p : Nat) (D F : Option Addr) (W : World) (H : RdI W (some ⟨g, 0, none⟩) 4 [1, 2, 3, 4]) (HP : RdP W (some ⟨p, 0, none⟩) 1 [⟨0, 1, false⟩]) (hst : Steps W) (HD : RdD W D 1 [[0, 5, 0, 0, 7, 9]]) (HF : RdD W F 1 [[0, 0, 0, 0, 0, 9]]) : Calls Tryz.prog 34 #[.agg #[.int .i64 2, .int .i64 2, .slice (some ⟨g, 0, none⟩) 4 4], .agg #[.int .i64 5, .int .i64 6, .int .i64 3, .slice (some ⟨p, 0, none⟩) 1 1], .slice D 1 1, .slice F 1 1] W fun en w' => en = .returned (.tuple #[.int .i64 81, .int .i64 0]) ∧ Below W.heap.size W w' := by
 refine (c34_ok 2 2 (some ⟨g, 0, none⟩) 4 4 [1, 2, 3, 4] 5 6 3 (some ⟨p, 0, none⟩) 1 1 [⟨0, 1, false⟩] D 1 [[0, 5, 0, 0, 7, 9]] F 1 [[0, 0, 0, 0, 0, 9]] W grS (by decide) (by decide) (by decide) H HP HD HF hst bthS).mono ?_
 rintro e w' ⟨rfl, hb⟩
 refine ⟨?_, hb⟩
 have e1 := bndS
 rw [show Mo.bndR (Im.image 4 (List.map (dlp 2 [1, 2, 3, 4] 5 (6 : Nat) 3) [⟨0, 1, false⟩]) [[0, 0, 0, 0, 0, 9]]) [[0, 5, 0, 0, 7, 9]].flatten [[0, 0, 0, 0, 0, 9]].flatten = (81, 0) from e1]
theorem aA2 (g p : Nat) (D : Option Addr) (W : World) (H : RdI W (some ⟨g, 0, none⟩) 4 [1, 2, 3, 4]) (HP : RdP W (some ⟨p, 0, none⟩) 1 [⟨0, 1, false⟩]) (hst : Steps W) (HD : RdD W D 1 [[0, 5, 0, 0, 7, 9]]) : Calls Tryz.prog 35 #[.agg #[.int .i64 2, .int .i64 2, .slice (some ⟨g, 0, none⟩) 4 4], .agg #[.int .i64 5, .int .i64 6, .int .i64 3, .slice (some ⟨p, 0, none⟩) 1 1], .slice D 1 1, .int .i64 2] W fun en w' => en = .returned (.tuple #[.agg #[.int .i64 7, .int .i64 1], .int .i64 0]) ∧ Below W.heap.size W w' := by
 refine (c35_ok 2 2 (some ⟨g, 0, none⟩) 4 4 [1, 2, 3, 4] 5 6 3 (some ⟨p, 0, none⟩) 1 1 [⟨0, 1, false⟩] D 1 [[0, 5, 0, 0, 7, 9]] 2 W grS (by decide) (by decide) (by decide) H HP HD hst (ampS 2 (by decide))).mono ?_
 rintro e w' ⟨rfl, hb⟩
 refine ⟨?_, hb⟩
 have e1 := amp2
 rw [show Mo.ampR (Im.image 4 (List.map (dlp 2 [1, 2, 3, 4] 5 (6 : Nat) 3) [⟨0, 1, false⟩]) [[0, 5, 0, 0, 7, 9]]) (Mo.cnt (List.map (dlp 2 [1, 2, 3, 4] 5 (6 : Nat) 3) [⟨0, 1, false⟩]) 2) 2 = ((7, 1), 0) from e1]
theorem aA1 (g p : Nat) (D : Option Addr) (W : World) (H : RdI W (some ⟨g, 0, none⟩) 4 [1, 2, 3, 4]) (HP : RdP W (some ⟨p, 0, none⟩) 1 [⟨0, 1, false⟩]) (hst : Steps W) (HD : RdD W D 1 [[0, 5, 0, 0, 7, 9]]) : Calls Tryz.prog 35 #[.agg #[.int .i64 2, .int .i64 2, .slice (some ⟨g, 0, none⟩) 4 4], .agg #[.int .i64 5, .int .i64 6, .int .i64 3, .slice (some ⟨p, 0, none⟩) 1 1], .slice D 1 1, .int .i64 1] W fun en w' => en = .returned (.tuple #[.agg #[.int .i64 0, .int .i64 0], .int .i64 17]) ∧ Below W.heap.size W w' := by
 refine (c35_ok 2 2 (some ⟨g, 0, none⟩) 4 4 [1, 2, 3, 4] 5 6 3 (some ⟨p, 0, none⟩) 1 1 [⟨0, 1, false⟩] D 1 [[0, 5, 0, 0, 7, 9]] 1 W grS (by decide) (by decide) (by decide) H HP HD hst (ampS 1 (by decide))).mono ?_
 rintro e w' ⟨rfl, hb⟩
 refine ⟨?_, hb⟩
 have e1 := amp1
 rw [show Mo.ampR (Im.image 4 (List.map (dlp 2 [1, 2, 3, 4] 5 (6 : Nat) 3) [⟨0, 1, false⟩]) [[0, 5, 0, 0, 7, 9]]) (Mo.cnt (List.map (dlp 2 [1, 2, 3, 4] 5 (6 : Nat) 3) [⟨0, 1, false⟩]) 1) 1 = ((0, 0), 17) from e1]
end Go.Proofs.YtdimmlljjmmdbaaGreatDoor
