/- A part of the proofs about chapter 7 (image): contracts of functions and plain laws (V91, V92, V93, V94). -/
import Derived.Test.YtdimmlljjmmdbaaGreatDoorZ06h
import Derived.Test.YtdimmlljjmmdbaaGreatDoorZ06i
set_option linter.all false
namespace Go.Proofs.YtdimmlljjmmdbaaGreatDoor
open Go.RowKit Go.Shelf
set_option maxHeartbeats 8000000
set_option maxRecDepth 100000
theorem and3 (x : Int) : (BitVec.ofInt 64 x &&& BitVec.ofInt 64 3).toNat = (x % 4).toNat := by
 rw [BitVec.toNat_and, BitVec.toNat_ofInt, BitVec.toNat_ofInt]
 have e3 : ((3 : Int) % ((2 ^ 64 : Nat) : Int)).toNat = 2 ^ 2 - 1 := by decide
 rw [e3, Nat.and_two_pow_sub_one_eq_mod]
 have e : ((2 ^ 64 : Nat) : Int) = 18446744073709551616 := by decide
 rw [e]
 omega
theorem band3 (x : Int) : bits BinOp.and IntKind.i64 x 3 = x % 4 := by
 have h := and3 x
 have e : bits BinOp.and IntKind.i64 x 3 = IntKind.i64.wrap (((BitVec.ofInt 64 x &&& BitVec.ofInt 64 3).toNat : Nat) : Int) := rfl
 rw [e, h, wrapI (by omega)]
 omega
theorem c153g {v : Nat} {k : Int} (h : Pt v k) (w : World) : Calls Tryz.prog 153 #[.float .f32 v] w fun en w' => en = .returned (.int .i64 0) ∧ w = w' := by
 have o1 := h.lo
 have o2 := h.hi
 obtain ⟨m, h1, h2, h3⟩ := h.mul
 have m1 : ∀ w, (binOp .mul 81 (.float .f32 1098907648) (.float .f32 v)).run Tryz.prog w = .ok (.float .f32 m) w := fun w => run_float_arith w .mul 81 .f32 _ _ _ h1
 have a1 : ∀ w, (convert 81 3 (.float .f32 m)).run Tryz.prog w = .ok (.int .i64 k) w := fun w => run_convert_float_int w 81 3 .f32 .i64 m k (by kernel_rfl) (by kernel_rfl) h2
 have b1 : ∀ w, (convert 3 81 (.int .i64 k)).run Tryz.prog w = .ok (.float .f32 (floatOfInt .f32 k)) w := fun w => run_convert_int_float w 3 81 .i64 .f32 k (by kernel_rfl) (by kernel_rfl)
 generalize floatOfInt .f32 k = fk at h3 b1
 have n1 : (FloatKind.f32.format.order fk m != some Ordering.eq) = false := by simp [h3]
 clear h h1 h2 h3
 go_enter Tryz.func153, Tryz.ntmps153
 go_wp2_with fail
 first | rw [n1] | skip
 refine (c94 false 3 _).mono ?_
 rintro e w' ⟨rfl, rfl⟩
 go_wp2
 go_ret
 exact ⟨rfl, rfl⟩
theorem c152g {a b : Nat} {x y : Int} (h : Pt a x ∧ Pt b y) (w : World) : Calls Tryz.prog 152 #[.complex .f32 a b] w fun en w' => en = .returned (.int .i64 0) ∧ Below w.heap.size w w' := by
 have s1 : ∀ w, (binOp .sub 83 (.complex .f32 a b) (.complex .f32 a b)).run Tryz.prog w = .ok (.complex .f32 0 0) w := fun w => run_complex_sum w .sub (.inr rfl) 83 .f32 a b a b 0 0 (by simp [cSumBits, h.1.sub, h.2.sub])
 have n0 := cn0
 have H := Lib.hid h
 clear h
 go_enter Tryz.func152, Tryz.ntmps152
 go_wp2_with fail
 refine (c94 false 1 _).mono ?_
 rintro e w' ⟨rfl, rfl⟩
 go_wp2_with fail
 refine (c153g H.out.1 _).mono ?_
 rintro e w' ⟨rfl, rfl⟩
 go_wp2_with fail
 refine (c153g H.out.2 _).mono ?_
 rintro e w' ⟨rfl, rfl⟩
 go_wp2_with fail
 refine (c89 _ 3 3 [Mo.when false 1, 0, 0] _ rfl (by omega) (RdS.of_new (cs := encI [Mo.when false 1, 0, 0]) rfl rfl)).mono ?_
 rintro e w' ⟨rfl, rfl⟩
 have hf : Mo.first [Mo.when false 1, 0, 0] = 0 := rfl
 rw [hf]
 have hB := (Below.refl w.heap.size w).alloc (Nat.le_refl _) (Obj.cells (encI [Mo.when false 1, 0, 0]).toArray 32)
 go_wp2
 go_ret
 exact ⟨rfl, hB⟩
/-- the block of a panel -/
def OnP (w : World) (b : Nat) (re im : Nat → Nat) (x y : Nat → Int) : Prop := ∀ k, k < 4 → w.cell? ⟨b, k, none⟩ = some (.complex .f32 (re k) (im k)) ∧ Pt (re k) (x k) ∧ Pt (im k) (y k)
theorem OnP.below {w w' : World} {b : Nat} {re im : Nat → Nat} {x y : Nat → Int} (h : OnP w b re im x y) (hb : Below w.heap.size w w') : OnP w' b re im x y := fun k hk => by
 obtain ⟨h1, h2⟩ := h k hk
 exact ⟨(hb.cell (p := ⟨b, k, none⟩) (cell_lt h1)).trans h1, h2⟩
theorem c151g (b : Nat) (re im : Nat → Nat) (x y : Nat → Int) (w : World) (H : OnP w b re im x y) :
  Calls Tryz.prog 151 #[.slice (some ⟨b, 0, none⟩) 4 4, .func (.func 152) #[] #[]] w fun en w' => ∃ A' cap', en = .returned (.slice A' 4 cap') ∧ RdI w' A' 4 [0, 0, 0, 0] ∧ Below w.heap.size w w' := by
 obtain ⟨i0, hi, hz0, hz1, hz2⟩ := info_parts info32
 have HH := Lib.hid H
 clear H
 go_enter Tryz.func151, Tryz.ntmps151
 go_wp2
 go_loopw [5, 10] (fun x i wr => ∃ k : Nat, k ≤ 4 ∧ i = .int .i64 k ∧ wr.ownsRow w.heap.size 32 1 x k (List.replicate k (.int .i64 0)) ∧ Below w.heap.size w wr) (fun _ i _ => 4 - (intOf i).toNat)
 case atStart => exact ⟨0, Nat.zero_le _, rfl, World.ownsRow_nil _ _ _ _, Below.refl _ _⟩
 case round =>
  obtain ⟨k, hk, rfl, hown, hB⟩ := hrel
  by_cases hlt : k < 4
  ·have hc := ((HH.out.below hB) k hlt).1
   have HPT := Lib.hid (HH.out k hlt).2
   have hbl := cell_lt hc
   have hk4 : (k : Int) < 4 := by omega
   have hk0 : (0 : Int) ≤ (k : Int) := by omega
   go_wp2_with fail
   refine (c152g HPT.out _).mono ?_
   rintro e w2 ⟨rfl, hb2⟩
   have hown2 := own_below hown hb2
   have hB2 := fin0 hB hb2
   have hsz := hB2.size
   go_wp2_with (at_builtin; refine wpList_append_own _ rfl _ _ 152 rfl w.heap.size 32 i0 (.int .i64 0) 1 8 Tryz.underlying152 hi hz0 hz1 hz2 rfl (by decide) _ _ _ rfl (hown2.alloc _) ⟨w2.heap.size, 0, none⟩ 1 1 [Value.int .i64 0] rfl rfl (news_one _ _ rfl) (fun x hx => by rw [List.mem_singleton.1 hx]; rfl) (by unfold maxLen; omega) (by omega) (by simp; omega) ?_)
   intro x' w3 hown3 hg3 _
   have hB3 : Below w.heap.size w w3 := (hB2.alloc hsz _).grown hg3 (by simp; omega) (fun g hg => (hown2.lt g hg).1)
   have HO : Hid (w3.ownsRow w.heap.size 32 1 x' (k + 1) (List.replicate (k + 1) (.int .i64 0))) := Lib.hid (by rw [List.replicate_succ']; exact hown3)
   clear hown3 hg3 hown2 hown
   go_wp2
   go_roundw
   case rel => exact ⟨k + 1, by omega, rfl, HO.out, hB3⟩
   case measure => simp [intOf]; omega
  ·obtain rfl : k = 4 := by omega
   have HO := Lib.hid hown
   clear hown
   go_wp2
   go_ret
   obtain ⟨A', cap', rfl, hr⟩ := Sl.of_own HO.out
   exact ⟨A', cap', rfl, hr, hB⟩
def Pan.re (p : Pan) (k : Nat) : Nat := if k = 0 then p.a0 else if k = 1 then p.a1 else if k = 2 then p.a2 else p.a3
def Pan.im (p : Pan) (k : Nat) : Nat := if k = 0 then p.b0 else if k = 1 then p.b1 else if k = 2 then p.b2 else p.b3
def Kn.re (p : Kn) (k : Nat) : Int := if k = 0 then p.x0 else if k = 1 then p.x1 else if k = 2 then p.x2 else p.x3
def Kn.im (p : Kn) (k : Nat) : Int := if k = 0 then p.y0 else if k = 1 then p.y1 else if k = 2 then p.y2 else p.y3
theorem OnP.of {w : World} {b : Nat} {p : Pan} {k : Kn} (h : w.heap[b]? = some (.cells p.cells 84 (0, 0))) (ho : p.Ok k) : OnP w b p.re p.im k.re k.im := fun j hj => by
 obtain ⟨h0, h1, h2, h3⟩ := ho
 rcases m4 hj with rfl | rfl | rfl | rfl
 ·exact ⟨cell_at h rfl, h0⟩
 ·exact ⟨cell_at h rfl, h1⟩
 ·exact ⟨cell_at h rfl, h2⟩
 ·exact ⟨cell_at h rfl, h3⟩
def zpan : Pan := ⟨0, 0, 0, 0, 0, 0, 0, 0⟩
theorem c120g (a0 b0 a1 b1 a2 b2 a3 b3 : Nat) (k : Kn) (ho : (Pan.mk a0 b0 a1 b1 a2 b2 a3 b3).Ok k) (w : World) : Calls Tryz.prog 120 #[.agg #[.complex .f32 a0 b0, .complex .f32 a1 b1, .complex .f32 a2 b2, .complex .f32 a3 b3]] w fun en w' => en = .returned (.int .i64 0) ∧ Below w.heap.size w w' := by
 have p1 := eq84 (Pan.mk a0 b0 a1 b1 a2 b2 a3 b3) zpan
 generalize ((Op.floatEq .f32 (Pan.mk a0 b0 a1 b1 a2 b2 a3 b3).a0 zpan.a0 && Op.floatEq .f32 (Pan.mk a0 b0 a1 b1 a2 b2 a3 b3).b0 zpan.b0) && ((Op.floatEq .f32 (Pan.mk a0 b0 a1 b1 a2 b2 a3 b3).a1 zpan.a1 && Op.floatEq .f32 (Pan.mk a0 b0 a1 b1 a2 b2 a3 b3).b1 zpan.b1) && ((Op.floatEq .f32 (Pan.mk a0 b0 a1 b1 a2 b2 a3 b3).a2 zpan.a2 && Op.floatEq .f32 (Pan.mk a0 b0 a1 b1 a2 b2 a3 b3).b2 zpan.b2) && (Op.floatEq .f32 (Pan.mk a0 b0 a1 b1 a2 b2 a3 b3).a3 zpan.a3 && Op.floatEq .f32 (Pan.mk a0 b0 a1 b1 a2 b2 a3 b3).b3 zpan.b3)))) = B at p1
 have p2 : ∀ w, (Op.equalIn 10000 84 (.agg #[.complex .f32 a0 b0, .complex .f32 a1 b1, .complex .f32 a2 b2, .complex .f32 a3 b3]) (.agg #[.complex .f32 0 0, .complex .f32 0 0, .complex .f32 0 0, .complex .f32 0 0])).run Tryz.prog w = .ok B w := p1
 clear p1
 obtain ⟨w0, hW⟩ : ∃ W, W = w.alloc (Obj.cells #[.complex .f32 a0 b0, .complex .f32 a1 b1, .complex .f32 a2 b2, .complex .f32 a3 b3] 84) := ⟨_, rfl⟩
 have hT0 : w0.heap[w.heap.size]? = some (.cells #[.complex .f32 a0 b0, .complex .f32 a1 b1, .complex .f32 a2 b2, .complex .f32 a3 b3] 84 (0, 0)) := by rw [hW]; exact heap_new rfl
 have hB0 : Below w.heap.size w w0 := by rw [hW]; exact (Below.refl _ _).alloc (Nat.le_refl _) _
 have HON := Lib.hid (OnP.of (p := Pan.mk a0 b0 a1 b1 a2 b2 a3 b3) hT0 ho)
 have HB0 := Lib.hid hB0
 clear ho hB0
 go_enter Tryz.func120, Tryz.ntmps120
 cases B
 rotate_left
 ·go_wp2_with fail
  go_ret
  exact ⟨rfl, by rw [← hW]; exact HB0.out⟩
 go_wp2_with fail
 rw [← hW]
 refine (c151g _ _ _ _ _ _ HON.out).mono ?_
 rintro e w1 ⟨A1, cap1, rfl, hr1, hb1⟩
 have hB1 := HB0.out.call hb1 rfl
 clear hT0 hW hb1
 go_wp2_with fail
 refine (c89 A1 4 cap1 _ _ hr1.len (by omega) hr1).mono ?_
 rintro e w' ⟨rfl, rfl⟩
 have hf : Mo.first [0, 0, 0, 0] = 0 := rfl
 rw [hf]
 go_wp2
 go_ret
 exact ⟨rfl, hB1⟩
theorem ngf (v : Nat) (w : World) : (Op.unary UnOp.neg (.float .f32 v)).run Tryz.prog w = .ok (.float .f32 (Op.negFloat .f32 v)) w := rfl
theorem ngx (a b : Nat) (w : World) : (Op.unary UnOp.neg (.complex .f32 a b)).run Tryz.prog w = .ok (.complex .f32 (Op.negFloat .f32 a) (Op.negFloat .f32 b)) w := rfl
theorem pxg0 (a0 b0 a1 b1 a2 b2 a3 b3 : Nat) (W : World) : (Instr.index 84 (.agg #[.complex .f32 a0 b0, .complex .f32 a1 b1, .complex .f32 a2 b2, .complex .f32 a3 b3]) (.int .i64 0)).run Tryz.prog W = .ok (.complex .f32 a0 b0) W := by kernel_rfl
theorem pxg1 (a0 b0 a1 b1 a2 b2 a3 b3 : Nat) (W : World) : (Instr.index 84 (.agg #[.complex .f32 a0 b0, .complex .f32 a1 b1, .complex .f32 a2 b2, .complex .f32 a3 b3]) (.int .i64 1)).run Tryz.prog W = .ok (.complex .f32 a1 b1) W := by kernel_rfl
theorem pxg2 (a0 b0 a1 b1 a2 b2 a3 b3 : Nat) (W : World) : (Instr.index 84 (.agg #[.complex .f32 a0 b0, .complex .f32 a1 b1, .complex .f32 a2 b2, .complex .f32 a3 b3]) (.int .i64 2)).run Tryz.prog W = .ok (.complex .f32 a2 b2) W := by kernel_rfl
theorem pxg3 (a0 b0 a1 b1 a2 b2 a3 b3 : Nat) (W : World) : (Instr.index 84 (.agg #[.complex .f32 a0 b0, .complex .f32 a1 b1, .complex .f32 a2 b2, .complex .f32 a3 b3]) (.int .i64 3)).run Tryz.prog W = .ok (.complex .f32 a3 b3) W := by kernel_rfl
theorem bg0 : bits BinOp.and IntKind.i64 0 3 = 0 := by kernel_rfl
theorem bg1 : bits BinOp.and IntKind.i64 1 3 = 1 := by kernel_rfl
theorem bg2 : bits BinOp.and IntKind.i64 2 3 = 2 := by kernel_rfl
theorem bg3 : bits BinOp.and IntKind.i64 3 3 = 3 := by kernel_rfl
theorem bg4 : bits BinOp.and IntKind.i64 4 3 = 0 := by kernel_rfl
theorem bg6 : bits BinOp.and IntKind.i64 6 3 = 2 := by kernel_rfl
theorem bg9 : bits BinOp.and IntKind.i64 9 3 = 1 := by kernel_rfl
theorem wg0 : wrap64 0 = 0 := by kernel_rfl
theorem wg1 : wrap64 1 = 1 := by kernel_rfl
theorem wg2 : wrap64 2 = 2 := by kernel_rfl
theorem wg3 : wrap64 3 = 3 := by kernel_rfl
theorem wg4 : wrap64 4 = 4 := by kernel_rfl
theorem wg6 : wrap64 6 = 6 := by kernel_rfl
theorem wg9 : wrap64 9 = 9 := by kernel_rfl
def pang0 (a0 b0 a1 b1 a2 b2 a3 b3 : Nat) (k : Nat) : Array Value := if k = 0 then #[.complex .f32 a0 b0, .complex .f32 a1 b1, .complex .f32 a2 b2, .complex .f32 a3 b3] else if k = 1 then #[.complex .f32 a0 b0, .complex .f32 a1 b1, .complex .f32 a2 b2, .complex .f32 a3 b3] else if k = 2 then #[.complex .f32 a0 b0, .complex .f32 a1 b1, .complex .f32 a2 b2, .complex .f32 a3 b3] else if k = 3 then #[.complex .f32 a0 b0, .complex .f32 a1 b1, .complex .f32 a2 b2, .complex .f32 a3 b3] else #[.complex .f32 a0 b0, .complex .f32 a1 b1, .complex .f32 a2 b2, .complex .f32 a3 b3]
theorem c123g_0 (a0 b0 a1 b1 a2 b2 a3 b3 : Nat) (by' : Int) (hby : by' % 4 = 0) (w : World) : Calls Tryz.prog 123 #[.agg #[.complex .f32 a0 b0, .complex .f32 a1 b1, .complex .f32 a2 b2, .complex .f32 a3 b3], .int .i64 by'] w fun en w' => en = .returned (.agg #[.complex .f32 a0 b0, .complex .f32 a1 b1, .complex .f32 a2 b2, .complex .f32 a3 b3]) ∧ Below w.heap.size w w' := by
 have tby : bits BinOp.and IntKind.i64 by' 3 = 0 := by rw [band3]; exact hby
 clear hby
 obtain ⟨w0, hW⟩ : ∃ W, W = ((w.alloc (Obj.cells #[.complex .f32 a0 b0, .complex .f32 a1 b1, .complex .f32 a2 b2, .complex .f32 a3 b3] 84)).alloc (Obj.cells #[.complex .f32 0 0, .complex .f32 0 0, .complex .f32 0 0, .complex .f32 0 0] 84)).alloc (Obj.cells #[.complex .f32 a0 b0, .complex .f32 a1 b1, .complex .f32 a2 b2, .complex .f32 a3 b3] 84) := ⟨_, rfl⟩
 have hT1 : w0.heap[w.heap.size + 1]? = some (.cells #[.complex .f32 0 0, .complex .f32 0 0, .complex .f32 0 0, .complex .f32 0 0] 84 (0, 0)) := by rw [hW]; exact heap_old (by simp) (heap_new (by simp))
 have hT2 : w0.heap[w.heap.size + 1 + 1]? = some (.cells #[.complex .f32 a0 b0, .complex .f32 a1 b1, .complex .f32 a2 b2, .complex .f32 a3 b3] 84 (0, 0)) := by rw [hW]; exact heap_new (by simp)
 have hB0 : Below w.heap.size w w0 := by rw [hW]; exact (below2 _ _ _).alloc (by simp; omega) _
 have hst0 : Hid (w0.heap[w.heap.size + 1 + 1]? = some (.cells (pang0 a0 b0 a1 b1 a2 b2 a3 b3 0) 84 (0, 0))) := Lib.hid hT2
 have HT1 := Lib.hid hT1
 have HB0 := Lib.hid hB0
 have t0 := bg0
 have t1 := bg1
 have t2 := bg2
 have t3 := bg3
 have t4 := bg4
 have t6 := bg6
 have t9 := bg9
 have v0 := wg0
 have v1 := wg1
 have v2 := wg2
 have v3 := wg3
 have v4 := wg4
 have v6 := wg6
 have v9 := wg9
 have g1 := ngf
 have g2 := ngx
 go_enter Tryz.func123, Tryz.ntmps123
 go_wp2_with fail
 rw [← hW]
 clear hW hT1 hT2 hB0
 go_loopw [10] (fun i wr => ∃ (k : Nat) (z : Int), k ≤ 4 ∧ z = (k : Int) ∧ i = .int .i64 z ∧ Hid (wr.heap[w.heap.size + 1 + 1]? = some (.cells (pang0 a0 b0 a1 b1 a2 b2 a3 b3 k) 84 (0, 0))) ∧ Hid (wr.heap[w.heap.size + 1]? = some (.cells #[.complex .f32 0 0, .complex .f32 0 0, .complex .f32 0 0, .complex .f32 0 0] 84 (0, 0))) ∧ Hid (Below w.heap.size w wr)) (fun i _ => 4 - (intOf i).toNat)
 case atStart => exact ⟨0, 0, Nat.zero_le _, rfl, rfl, hst0, HT1, HB0⟩
 case round =>
  clear hst0 HT1 HB0
  obtain ⟨k, z, hk, hz, rfl, HP, HZ, HB⟩ := hrel
  have h5 : k = 0 ∨ k = 1 ∨ k = 2 ∨ k = 3 ∨ k = 4 := by omega
  rcases h5 with rfl | rfl | rfl | rfl | rfl
  ·obtain rfl : z = 0 := hz
   have ix := pxg0 a0 b0 a1 b1 a2 b2 a3 b3
   go_wp2
   go_roundw
   case rel => exact ⟨1, 1, by omega, rfl, rfl, HP, HZ, HB⟩
   case measure => simp [intOf]
  ·obtain rfl : z = 1 := hz
   have ix := pxg1 a0 b0 a1 b1 a2 b2 a3 b3
   go_wp2
   go_roundw
   case rel => exact ⟨2, 2, by omega, rfl, rfl, HP, HZ, HB⟩
   case measure => simp [intOf]
  ·obtain rfl : z = 2 := hz
   have ix := pxg2 a0 b0 a1 b1 a2 b2 a3 b3
   go_wp2
   go_roundw
   case rel => exact ⟨3, 3, by omega, rfl, rfl, HP, HZ, HB⟩
   case measure => simp [intOf]
  ·obtain rfl : z = 3 := hz
   have ix := pxg3 a0 b0 a1 b1 a2 b2 a3 b3
   go_wp2
   go_roundw
   case rel => exact ⟨4, 4, by omega, rfl, rfl, HP, HZ, HB⟩
   case measure => simp [intOf]
  ·obtain rfl : z = 4 := hz
   have c0 : wr.cell? ⟨w.heap.size + 1 + 1, 0, none⟩ = some (.complex .f32 a0 b0) := cell_at HP.out rfl
   have c1 : wr.cell? ⟨w.heap.size + 1 + 1, 1, none⟩ = some (.complex .f32 a1 b1) := cell_at HP.out rfl
   have c2 : wr.cell? ⟨w.heap.size + 1 + 1, 2, none⟩ = some (.complex .f32 a2 b2) := cell_at HP.out rfl
   have c3 : wr.cell? ⟨w.heap.size + 1 + 1, 3, none⟩ = some (.complex .f32 a3 b3) := cell_at HP.out rfl
   have z0 : wr.cell? ⟨w.heap.size + 1, 0, none⟩ = some (.complex .f32 0 0) := cell_at HZ.out rfl
   have f0 : wr.frozen? ⟨w.heap.size + 1, 0, none⟩ = false := free_at HZ.out
   have z1 : wr.cell? ⟨w.heap.size + 1, 1, none⟩ = some (.complex .f32 0 0) := cell_at HZ.out rfl
   have f1 : wr.frozen? ⟨w.heap.size + 1, 1, none⟩ = false := free_at HZ.out
   have z2 : wr.cell? ⟨w.heap.size + 1, 2, none⟩ = some (.complex .f32 0 0) := cell_at HZ.out rfl
   have f2 : wr.frozen? ⟨w.heap.size + 1, 2, none⟩ = false := free_at HZ.out
   have z3 : wr.cell? ⟨w.heap.size + 1, 3, none⟩ = some (.complex .f32 0 0) := cell_at HZ.out rfl
   have f3 : wr.frozen? ⟨w.heap.size + 1, 3, none⟩ = false := free_at HZ.out
   have hT := set_blk (i := 3) (set_blk (i := 2) (set_blk (i := 1) (set_blk (i := 0) HZ.out (.complex .f32 a0 b0)) (.complex .f32 a1 b1)) (.complex .f32 a2 b2)) (.complex .f32 a3 b3)
   have hbf := ((((HB.out.setCell (p := ⟨w.heap.size + 1, 0, none⟩) (by show _ ≤ w.heap.size + 1; omega) (.complex .f32 a0 b0)).setCell (p := ⟨w.heap.size + 1, 1, none⟩) (by show _ ≤ w.heap.size + 1; omega) (.complex .f32 a1 b1)).setCell (p := ⟨w.heap.size + 1, 2, none⟩) (by show _ ≤ w.heap.size + 1; omega) (.complex .f32 a2 b2)).setCell (p := ⟨w.heap.size + 1, 3, none⟩) (by show _ ≤ w.heap.size + 1; omega) (.complex .f32 a3 b3))
   have HTF := Lib.hid hT
   have HBF := Lib.hid hbf
   clear hT hbf
   go_wp2_with fail
   exact bodyPost_ret (results_blk rfl rfl HTF.out _ Tryz.underlying84 rfl (by kernel_rfl)) rfl ⟨rfl, HBF.out⟩
def pang1 (a0 b0 a1 b1 a2 b2 a3 b3 : Nat) (k : Nat) : Array Value := if k = 0 then #[.complex .f32 a0 b0, .complex .f32 a1 b1, .complex .f32 a2 b2, .complex .f32 a3 b3] else if k = 1 then #[.complex .f32 a0 b0, .complex .f32 a1 b1, .complex .f32 a2 b2, .complex .f32 a3 b3] else if k = 2 then #[.complex .f32 a0 b0, .complex .f32 b1 (Op.negFloat .f32 a1), .complex .f32 a2 b2, .complex .f32 a3 b3] else if k = 3 then #[.complex .f32 a0 b0, .complex .f32 b1 (Op.negFloat .f32 a1), .complex .f32 (Op.negFloat .f32 a2) (Op.negFloat .f32 b2), .complex .f32 a3 b3] else #[.complex .f32 a0 b0, .complex .f32 b1 (Op.negFloat .f32 a1), .complex .f32 (Op.negFloat .f32 a2) (Op.negFloat .f32 b2), .complex .f32 (Op.negFloat .f32 b3) a3]
theorem c123g_1 (a0 b0 a1 b1 a2 b2 a3 b3 : Nat) (by' : Int) (hby : by' % 4 = 1) (w : World) : Calls Tryz.prog 123 #[.agg #[.complex .f32 a0 b0, .complex .f32 a1 b1, .complex .f32 a2 b2, .complex .f32 a3 b3], .int .i64 by'] w fun en w' => en = .returned (.agg #[.complex .f32 a0 b0, .complex .f32 b1 (Op.negFloat .f32 a1), .complex .f32 (Op.negFloat .f32 a2) (Op.negFloat .f32 b2), .complex .f32 (Op.negFloat .f32 b3) a3]) ∧ Below w.heap.size w w' := by
 have tby : bits BinOp.and IntKind.i64 by' 3 = 1 := by rw [band3]; exact hby
 clear hby
 obtain ⟨w0, hW⟩ : ∃ W, W = ((w.alloc (Obj.cells #[.complex .f32 a0 b0, .complex .f32 a1 b1, .complex .f32 a2 b2, .complex .f32 a3 b3] 84)).alloc (Obj.cells #[.complex .f32 0 0, .complex .f32 0 0, .complex .f32 0 0, .complex .f32 0 0] 84)).alloc (Obj.cells #[.complex .f32 a0 b0, .complex .f32 a1 b1, .complex .f32 a2 b2, .complex .f32 a3 b3] 84) := ⟨_, rfl⟩
 have hT1 : w0.heap[w.heap.size + 1]? = some (.cells #[.complex .f32 0 0, .complex .f32 0 0, .complex .f32 0 0, .complex .f32 0 0] 84 (0, 0)) := by rw [hW]; exact heap_old (by simp) (heap_new (by simp))
 have hT2 : w0.heap[w.heap.size + 1 + 1]? = some (.cells #[.complex .f32 a0 b0, .complex .f32 a1 b1, .complex .f32 a2 b2, .complex .f32 a3 b3] 84 (0, 0)) := by rw [hW]; exact heap_new (by simp)
 have hB0 : Below w.heap.size w w0 := by rw [hW]; exact (below2 _ _ _).alloc (by simp; omega) _
 have hst0 : Hid (w0.heap[w.heap.size + 1 + 1]? = some (.cells (pang1 a0 b0 a1 b1 a2 b2 a3 b3 0) 84 (0, 0))) := Lib.hid hT2
 have HT1 := Lib.hid hT1
 have HB0 := Lib.hid hB0
 have t0 := bg0
 have t1 := bg1
 have t2 := bg2
 have t3 := bg3
 have t4 := bg4
 have t6 := bg6
 have t9 := bg9
 have v0 := wg0
 have v1 := wg1
 have v2 := wg2
 have v3 := wg3
 have v4 := wg4
 have v6 := wg6
 have v9 := wg9
 have g1 := ngf
 have g2 := ngx
 go_enter Tryz.func123, Tryz.ntmps123
 go_wp2_with fail
 rw [← hW]
 clear hW hT1 hT2 hB0
 go_loopw [10] (fun i wr => ∃ (k : Nat) (z : Int), k ≤ 4 ∧ z = (k : Int) ∧ i = .int .i64 z ∧ Hid (wr.heap[w.heap.size + 1 + 1]? = some (.cells (pang1 a0 b0 a1 b1 a2 b2 a3 b3 k) 84 (0, 0))) ∧ Hid (wr.heap[w.heap.size + 1]? = some (.cells #[.complex .f32 0 0, .complex .f32 0 0, .complex .f32 0 0, .complex .f32 0 0] 84 (0, 0))) ∧ Hid (Below w.heap.size w wr)) (fun i _ => 4 - (intOf i).toNat)
 case atStart => exact ⟨0, 0, Nat.zero_le _, rfl, rfl, hst0, HT1, HB0⟩
 case round =>
  clear hst0 HT1 HB0
  obtain ⟨k, z, hk, hz, rfl, HP, HZ, HB⟩ := hrel
  have h5 : k = 0 ∨ k = 1 ∨ k = 2 ∨ k = 3 ∨ k = 4 := by omega
  rcases h5 with rfl | rfl | rfl | rfl | rfl
  ·obtain rfl : z = 0 := hz
   have ix := pxg0 a0 b0 a1 b1 a2 b2 a3 b3
   go_wp2
   go_roundw
   case rel => exact ⟨1, 1, by omega, rfl, rfl, HP, HZ, HB⟩
   case measure => simp [intOf]
  ·obtain rfl : z = 1 := hz
   have ix := pxg1 a0 b0 a1 b1 a2 b2 a3 b3
   have qc : wr.cell? ⟨w.heap.size + 1 + 1, 1, none⟩ = some (.complex .f32 a1 b1) := cell_at HP.out rfl
   have qf : wr.frozen? ⟨w.heap.size + 1 + 1, 1, none⟩ = false := free_at HP.out
   have HP2 : Hid ((wr.setCell ⟨w.heap.size + 1 + 1, 1, none⟩ (.complex .f32 b1 (Op.negFloat .f32 a1))).heap[w.heap.size + 1 + 1]? = some (.cells (pang1 a0 b0 a1 b1 a2 b2 a3 b3 2) 84 (0, 0))) := Lib.hid (set_blk (i := 1) HP.out _)
   have HZ2 : Hid ((wr.setCell ⟨w.heap.size + 1 + 1, 1, none⟩ (.complex .f32 b1 (Op.negFloat .f32 a1))).heap[w.heap.size + 1]? = some (.cells #[.complex .f32 0 0, .complex .f32 0 0, .complex .f32 0 0, .complex .f32 0 0] 84 (0, 0))) := Lib.hid ((set_far (p := ⟨w.heap.size + 1 + 1, 1, none⟩) _ (by show w.heap.size + 1 ≠ w.heap.size + 1 + 1; omega)).trans HZ.out)
   have HB2 : Hid (Below w.heap.size w (wr.setCell ⟨w.heap.size + 1 + 1, 1, none⟩ (.complex .f32 b1 (Op.negFloat .f32 a1)))) := Lib.hid (HB.out.setCell (p := ⟨w.heap.size + 1 + 1, 1, none⟩) (by show _ ≤ w.heap.size + 1 + 1; omega) _)
   go_wp2
   go_roundw
   case rel => exact ⟨2, 2, by omega, rfl, rfl, HP2, HZ2, HB2⟩
   case measure => simp [intOf]
  ·obtain rfl : z = 2 := hz
   have ix := pxg2 a0 b0 a1 b1 a2 b2 a3 b3
   have qc : wr.cell? ⟨w.heap.size + 1 + 1, 2, none⟩ = some (.complex .f32 a2 b2) := cell_at HP.out rfl
   have qf : wr.frozen? ⟨w.heap.size + 1 + 1, 2, none⟩ = false := free_at HP.out
   have HP2 : Hid ((wr.setCell ⟨w.heap.size + 1 + 1, 2, none⟩ (.complex .f32 (Op.negFloat .f32 a2) (Op.negFloat .f32 b2))).heap[w.heap.size + 1 + 1]? = some (.cells (pang1 a0 b0 a1 b1 a2 b2 a3 b3 3) 84 (0, 0))) := Lib.hid (set_blk (i := 2) HP.out _)
   have HZ2 : Hid ((wr.setCell ⟨w.heap.size + 1 + 1, 2, none⟩ (.complex .f32 (Op.negFloat .f32 a2) (Op.negFloat .f32 b2))).heap[w.heap.size + 1]? = some (.cells #[.complex .f32 0 0, .complex .f32 0 0, .complex .f32 0 0, .complex .f32 0 0] 84 (0, 0))) := Lib.hid ((set_far (p := ⟨w.heap.size + 1 + 1, 2, none⟩) _ (by show w.heap.size + 1 ≠ w.heap.size + 1 + 1; omega)).trans HZ.out)
   have HB2 : Hid (Below w.heap.size w (wr.setCell ⟨w.heap.size + 1 + 1, 2, none⟩ (.complex .f32 (Op.negFloat .f32 a2) (Op.negFloat .f32 b2)))) := Lib.hid (HB.out.setCell (p := ⟨w.heap.size + 1 + 1, 2, none⟩) (by show _ ≤ w.heap.size + 1 + 1; omega) _)
   go_wp2
   go_roundw
   case rel => exact ⟨3, 3, by omega, rfl, rfl, HP2, HZ2, HB2⟩
   case measure => simp [intOf]
  ·obtain rfl : z = 3 := hz
   have ix := pxg3 a0 b0 a1 b1 a2 b2 a3 b3
   have qc : wr.cell? ⟨w.heap.size + 1 + 1, 3, none⟩ = some (.complex .f32 a3 b3) := cell_at HP.out rfl
   have qf : wr.frozen? ⟨w.heap.size + 1 + 1, 3, none⟩ = false := free_at HP.out
   have HP2 : Hid ((wr.setCell ⟨w.heap.size + 1 + 1, 3, none⟩ (.complex .f32 (Op.negFloat .f32 b3) a3)).heap[w.heap.size + 1 + 1]? = some (.cells (pang1 a0 b0 a1 b1 a2 b2 a3 b3 4) 84 (0, 0))) := Lib.hid (set_blk (i := 3) HP.out _)
   have HZ2 : Hid ((wr.setCell ⟨w.heap.size + 1 + 1, 3, none⟩ (.complex .f32 (Op.negFloat .f32 b3) a3)).heap[w.heap.size + 1]? = some (.cells #[.complex .f32 0 0, .complex .f32 0 0, .complex .f32 0 0, .complex .f32 0 0] 84 (0, 0))) := Lib.hid ((set_far (p := ⟨w.heap.size + 1 + 1, 3, none⟩) _ (by show w.heap.size + 1 ≠ w.heap.size + 1 + 1; omega)).trans HZ.out)
   have HB2 : Hid (Below w.heap.size w (wr.setCell ⟨w.heap.size + 1 + 1, 3, none⟩ (.complex .f32 (Op.negFloat .f32 b3) a3))) := Lib.hid (HB.out.setCell (p := ⟨w.heap.size + 1 + 1, 3, none⟩) (by show _ ≤ w.heap.size + 1 + 1; omega) _)
   go_wp2
   go_roundw
   case rel => exact ⟨4, 4, by omega, rfl, rfl, HP2, HZ2, HB2⟩
   case measure => simp [intOf]
  ·obtain rfl : z = 4 := hz
   have c0 : wr.cell? ⟨w.heap.size + 1 + 1, 0, none⟩ = some (.complex .f32 a0 b0) := cell_at HP.out rfl
   have c1 : wr.cell? ⟨w.heap.size + 1 + 1, 1, none⟩ = some (.complex .f32 b1 (Op.negFloat .f32 a1)) := cell_at HP.out rfl
   have c2 : wr.cell? ⟨w.heap.size + 1 + 1, 2, none⟩ = some (.complex .f32 (Op.negFloat .f32 a2) (Op.negFloat .f32 b2)) := cell_at HP.out rfl
   have c3 : wr.cell? ⟨w.heap.size + 1 + 1, 3, none⟩ = some (.complex .f32 (Op.negFloat .f32 b3) a3) := cell_at HP.out rfl
   have z0 : wr.cell? ⟨w.heap.size + 1, 0, none⟩ = some (.complex .f32 0 0) := cell_at HZ.out rfl
   have f0 : wr.frozen? ⟨w.heap.size + 1, 0, none⟩ = false := free_at HZ.out
   have z1 : wr.cell? ⟨w.heap.size + 1, 1, none⟩ = some (.complex .f32 0 0) := cell_at HZ.out rfl
   have f1 : wr.frozen? ⟨w.heap.size + 1, 1, none⟩ = false := free_at HZ.out
   have z2 : wr.cell? ⟨w.heap.size + 1, 2, none⟩ = some (.complex .f32 0 0) := cell_at HZ.out rfl
   have f2 : wr.frozen? ⟨w.heap.size + 1, 2, none⟩ = false := free_at HZ.out
   have z3 : wr.cell? ⟨w.heap.size + 1, 3, none⟩ = some (.complex .f32 0 0) := cell_at HZ.out rfl
   have f3 : wr.frozen? ⟨w.heap.size + 1, 3, none⟩ = false := free_at HZ.out
   have hT := set_blk (i := 3) (set_blk (i := 2) (set_blk (i := 1) (set_blk (i := 0) HZ.out (.complex .f32 a0 b0)) (.complex .f32 b1 (Op.negFloat .f32 a1))) (.complex .f32 (Op.negFloat .f32 a2) (Op.negFloat .f32 b2))) (.complex .f32 (Op.negFloat .f32 b3) a3)
   have hbf := ((((HB.out.setCell (p := ⟨w.heap.size + 1, 0, none⟩) (by show _ ≤ w.heap.size + 1; omega) (.complex .f32 a0 b0)).setCell (p := ⟨w.heap.size + 1, 1, none⟩) (by show _ ≤ w.heap.size + 1; omega) (.complex .f32 b1 (Op.negFloat .f32 a1))).setCell (p := ⟨w.heap.size + 1, 2, none⟩) (by show _ ≤ w.heap.size + 1; omega) (.complex .f32 (Op.negFloat .f32 a2) (Op.negFloat .f32 b2))).setCell (p := ⟨w.heap.size + 1, 3, none⟩) (by show _ ≤ w.heap.size + 1; omega) (.complex .f32 (Op.negFloat .f32 b3) a3))
   have HTF := Lib.hid hT
   have HBF := Lib.hid hbf
   clear hT hbf
   go_wp2_with fail
   exact bodyPost_ret (results_blk rfl rfl HTF.out _ Tryz.underlying84 rfl (by kernel_rfl)) rfl ⟨rfl, HBF.out⟩
def pang2 (a0 b0 a1 b1 a2 b2 a3 b3 : Nat) (k : Nat) : Array Value := if k = 0 then #[.complex .f32 a0 b0, .complex .f32 a1 b1, .complex .f32 a2 b2, .complex .f32 a3 b3] else if k = 1 then #[.complex .f32 a0 b0, .complex .f32 a1 b1, .complex .f32 a2 b2, .complex .f32 a3 b3] else if k = 2 then #[.complex .f32 a0 b0, .complex .f32 (Op.negFloat .f32 a1) (Op.negFloat .f32 b1), .complex .f32 a2 b2, .complex .f32 a3 b3] else if k = 3 then #[.complex .f32 a0 b0, .complex .f32 (Op.negFloat .f32 a1) (Op.negFloat .f32 b1), .complex .f32 a2 b2, .complex .f32 a3 b3] else #[.complex .f32 a0 b0, .complex .f32 (Op.negFloat .f32 a1) (Op.negFloat .f32 b1), .complex .f32 a2 b2, .complex .f32 (Op.negFloat .f32 a3) (Op.negFloat .f32 b3)]
theorem c123g_2 (a0 b0 a1 b1 a2 b2 a3 b3 : Nat) (by' : Int) (hby : by' % 4 = 2) (w : World) : Calls Tryz.prog 123 #[.agg #[.complex .f32 a0 b0, .complex .f32 a1 b1, .complex .f32 a2 b2, .complex .f32 a3 b3], .int .i64 by'] w fun en w' => en = .returned (.agg #[.complex .f32 a0 b0, .complex .f32 (Op.negFloat .f32 a1) (Op.negFloat .f32 b1), .complex .f32 a2 b2, .complex .f32 (Op.negFloat .f32 a3) (Op.negFloat .f32 b3)]) ∧ Below w.heap.size w w' := by
 have tby : bits BinOp.and IntKind.i64 by' 3 = 2 := by rw [band3]; exact hby
 clear hby
 obtain ⟨w0, hW⟩ : ∃ W, W = ((w.alloc (Obj.cells #[.complex .f32 a0 b0, .complex .f32 a1 b1, .complex .f32 a2 b2, .complex .f32 a3 b3] 84)).alloc (Obj.cells #[.complex .f32 0 0, .complex .f32 0 0, .complex .f32 0 0, .complex .f32 0 0] 84)).alloc (Obj.cells #[.complex .f32 a0 b0, .complex .f32 a1 b1, .complex .f32 a2 b2, .complex .f32 a3 b3] 84) := ⟨_, rfl⟩
 have hT1 : w0.heap[w.heap.size + 1]? = some (.cells #[.complex .f32 0 0, .complex .f32 0 0, .complex .f32 0 0, .complex .f32 0 0] 84 (0, 0)) := by rw [hW]; exact heap_old (by simp) (heap_new (by simp))
 have hT2 : w0.heap[w.heap.size + 1 + 1]? = some (.cells #[.complex .f32 a0 b0, .complex .f32 a1 b1, .complex .f32 a2 b2, .complex .f32 a3 b3] 84 (0, 0)) := by rw [hW]; exact heap_new (by simp)
 have hB0 : Below w.heap.size w w0 := by rw [hW]; exact (below2 _ _ _).alloc (by simp; omega) _
 have hst0 : Hid (w0.heap[w.heap.size + 1 + 1]? = some (.cells (pang2 a0 b0 a1 b1 a2 b2 a3 b3 0) 84 (0, 0))) := Lib.hid hT2
 have HT1 := Lib.hid hT1
 have HB0 := Lib.hid hB0
 have t0 := bg0
 have t1 := bg1
 have t2 := bg2
 have t3 := bg3
 have t4 := bg4
 have t6 := bg6
 have t9 := bg9
 have v0 := wg0
 have v1 := wg1
 have v2 := wg2
 have v3 := wg3
 have v4 := wg4
 have v6 := wg6
 have v9 := wg9
 have g1 := ngf
 have g2 := ngx
 go_enter Tryz.func123, Tryz.ntmps123
 go_wp2_with fail
 rw [← hW]
 clear hW hT1 hT2 hB0
 go_loopw [10] (fun i wr => ∃ (k : Nat) (z : Int), k ≤ 4 ∧ z = (k : Int) ∧ i = .int .i64 z ∧ Hid (wr.heap[w.heap.size + 1 + 1]? = some (.cells (pang2 a0 b0 a1 b1 a2 b2 a3 b3 k) 84 (0, 0))) ∧ Hid (wr.heap[w.heap.size + 1]? = some (.cells #[.complex .f32 0 0, .complex .f32 0 0, .complex .f32 0 0, .complex .f32 0 0] 84 (0, 0))) ∧ Hid (Below w.heap.size w wr)) (fun i _ => 4 - (intOf i).toNat)
 case atStart => exact ⟨0, 0, Nat.zero_le _, rfl, rfl, hst0, HT1, HB0⟩
 case round =>
  clear hst0 HT1 HB0
  obtain ⟨k, z, hk, hz, rfl, HP, HZ, HB⟩ := hrel
  have h5 : k = 0 ∨ k = 1 ∨ k = 2 ∨ k = 3 ∨ k = 4 := by omega
  rcases h5 with rfl | rfl | rfl | rfl | rfl
  ·obtain rfl : z = 0 := hz
   have ix := pxg0 a0 b0 a1 b1 a2 b2 a3 b3
   go_wp2
   go_roundw
   case rel => exact ⟨1, 1, by omega, rfl, rfl, HP, HZ, HB⟩
   case measure => simp [intOf]
  ·obtain rfl : z = 1 := hz
   have ix := pxg1 a0 b0 a1 b1 a2 b2 a3 b3
   have qc : wr.cell? ⟨w.heap.size + 1 + 1, 1, none⟩ = some (.complex .f32 a1 b1) := cell_at HP.out rfl
   have qf : wr.frozen? ⟨w.heap.size + 1 + 1, 1, none⟩ = false := free_at HP.out
   have HP2 : Hid ((wr.setCell ⟨w.heap.size + 1 + 1, 1, none⟩ (.complex .f32 (Op.negFloat .f32 a1) (Op.negFloat .f32 b1))).heap[w.heap.size + 1 + 1]? = some (.cells (pang2 a0 b0 a1 b1 a2 b2 a3 b3 2) 84 (0, 0))) := Lib.hid (set_blk (i := 1) HP.out _)
   have HZ2 : Hid ((wr.setCell ⟨w.heap.size + 1 + 1, 1, none⟩ (.complex .f32 (Op.negFloat .f32 a1) (Op.negFloat .f32 b1))).heap[w.heap.size + 1]? = some (.cells #[.complex .f32 0 0, .complex .f32 0 0, .complex .f32 0 0, .complex .f32 0 0] 84 (0, 0))) := Lib.hid ((set_far (p := ⟨w.heap.size + 1 + 1, 1, none⟩) _ (by show w.heap.size + 1 ≠ w.heap.size + 1 + 1; omega)).trans HZ.out)
   have HB2 : Hid (Below w.heap.size w (wr.setCell ⟨w.heap.size + 1 + 1, 1, none⟩ (.complex .f32 (Op.negFloat .f32 a1) (Op.negFloat .f32 b1)))) := Lib.hid (HB.out.setCell (p := ⟨w.heap.size + 1 + 1, 1, none⟩) (by show _ ≤ w.heap.size + 1 + 1; omega) _)
   go_wp2
   go_roundw
   case rel => exact ⟨2, 2, by omega, rfl, rfl, HP2, HZ2, HB2⟩
   case measure => simp [intOf]
  ·obtain rfl : z = 2 := hz
   have ix := pxg2 a0 b0 a1 b1 a2 b2 a3 b3
   go_wp2
   go_roundw
   case rel => exact ⟨3, 3, by omega, rfl, rfl, HP, HZ, HB⟩
   case measure => simp [intOf]
  ·obtain rfl : z = 3 := hz
   have ix := pxg3 a0 b0 a1 b1 a2 b2 a3 b3
   have qc : wr.cell? ⟨w.heap.size + 1 + 1, 3, none⟩ = some (.complex .f32 a3 b3) := cell_at HP.out rfl
   have qf : wr.frozen? ⟨w.heap.size + 1 + 1, 3, none⟩ = false := free_at HP.out
   have HP2 : Hid ((wr.setCell ⟨w.heap.size + 1 + 1, 3, none⟩ (.complex .f32 (Op.negFloat .f32 a3) (Op.negFloat .f32 b3))).heap[w.heap.size + 1 + 1]? = some (.cells (pang2 a0 b0 a1 b1 a2 b2 a3 b3 4) 84 (0, 0))) := Lib.hid (set_blk (i := 3) HP.out _)
   have HZ2 : Hid ((wr.setCell ⟨w.heap.size + 1 + 1, 3, none⟩ (.complex .f32 (Op.negFloat .f32 a3) (Op.negFloat .f32 b3))).heap[w.heap.size + 1]? = some (.cells #[.complex .f32 0 0, .complex .f32 0 0, .complex .f32 0 0, .complex .f32 0 0] 84 (0, 0))) := Lib.hid ((set_far (p := ⟨w.heap.size + 1 + 1, 3, none⟩) _ (by show w.heap.size + 1 ≠ w.heap.size + 1 + 1; omega)).trans HZ.out)
   have HB2 : Hid (Below w.heap.size w (wr.setCell ⟨w.heap.size + 1 + 1, 3, none⟩ (.complex .f32 (Op.negFloat .f32 a3) (Op.negFloat .f32 b3)))) := Lib.hid (HB.out.setCell (p := ⟨w.heap.size + 1 + 1, 3, none⟩) (by show _ ≤ w.heap.size + 1 + 1; omega) _)
   go_wp2
   go_roundw
   case rel => exact ⟨4, 4, by omega, rfl, rfl, HP2, HZ2, HB2⟩
   case measure => simp [intOf]
  ·obtain rfl : z = 4 := hz
   have c0 : wr.cell? ⟨w.heap.size + 1 + 1, 0, none⟩ = some (.complex .f32 a0 b0) := cell_at HP.out rfl
   have c1 : wr.cell? ⟨w.heap.size + 1 + 1, 1, none⟩ = some (.complex .f32 (Op.negFloat .f32 a1) (Op.negFloat .f32 b1)) := cell_at HP.out rfl
   have c2 : wr.cell? ⟨w.heap.size + 1 + 1, 2, none⟩ = some (.complex .f32 a2 b2) := cell_at HP.out rfl
   have c3 : wr.cell? ⟨w.heap.size + 1 + 1, 3, none⟩ = some (.complex .f32 (Op.negFloat .f32 a3) (Op.negFloat .f32 b3)) := cell_at HP.out rfl
   have z0 : wr.cell? ⟨w.heap.size + 1, 0, none⟩ = some (.complex .f32 0 0) := cell_at HZ.out rfl
   have f0 : wr.frozen? ⟨w.heap.size + 1, 0, none⟩ = false := free_at HZ.out
   have z1 : wr.cell? ⟨w.heap.size + 1, 1, none⟩ = some (.complex .f32 0 0) := cell_at HZ.out rfl
   have f1 : wr.frozen? ⟨w.heap.size + 1, 1, none⟩ = false := free_at HZ.out
   have z2 : wr.cell? ⟨w.heap.size + 1, 2, none⟩ = some (.complex .f32 0 0) := cell_at HZ.out rfl
   have f2 : wr.frozen? ⟨w.heap.size + 1, 2, none⟩ = false := free_at HZ.out
   have z3 : wr.cell? ⟨w.heap.size + 1, 3, none⟩ = some (.complex .f32 0 0) := cell_at HZ.out rfl
   have f3 : wr.frozen? ⟨w.heap.size + 1, 3, none⟩ = false := free_at HZ.out
   have hT := set_blk (i := 3) (set_blk (i := 2) (set_blk (i := 1) (set_blk (i := 0) HZ.out (.complex .f32 a0 b0)) (.complex .f32 (Op.negFloat .f32 a1) (Op.negFloat .f32 b1))) (.complex .f32 a2 b2)) (.complex .f32 (Op.negFloat .f32 a3) (Op.negFloat .f32 b3))
   have hbf := ((((HB.out.setCell (p := ⟨w.heap.size + 1, 0, none⟩) (by show _ ≤ w.heap.size + 1; omega) (.complex .f32 a0 b0)).setCell (p := ⟨w.heap.size + 1, 1, none⟩) (by show _ ≤ w.heap.size + 1; omega) (.complex .f32 (Op.negFloat .f32 a1) (Op.negFloat .f32 b1))).setCell (p := ⟨w.heap.size + 1, 2, none⟩) (by show _ ≤ w.heap.size + 1; omega) (.complex .f32 a2 b2)).setCell (p := ⟨w.heap.size + 1, 3, none⟩) (by show _ ≤ w.heap.size + 1; omega) (.complex .f32 (Op.negFloat .f32 a3) (Op.negFloat .f32 b3)))
   have HTF := Lib.hid hT
   have HBF := Lib.hid hbf
   clear hT hbf
   go_wp2_with fail
   exact bodyPost_ret (results_blk rfl rfl HTF.out _ Tryz.underlying84 rfl (by kernel_rfl)) rfl ⟨rfl, HBF.out⟩
def pang3 (a0 b0 a1 b1 a2 b2 a3 b3 : Nat) (k : Nat) : Array Value := if k = 0 then #[.complex .f32 a0 b0, .complex .f32 a1 b1, .complex .f32 a2 b2, .complex .f32 a3 b3] else if k = 1 then #[.complex .f32 a0 b0, .complex .f32 a1 b1, .complex .f32 a2 b2, .complex .f32 a3 b3] else if k = 2 then #[.complex .f32 a0 b0, .complex .f32 (Op.negFloat .f32 b1) a1, .complex .f32 a2 b2, .complex .f32 a3 b3] else if k = 3 then #[.complex .f32 a0 b0, .complex .f32 (Op.negFloat .f32 b1) a1, .complex .f32 (Op.negFloat .f32 a2) (Op.negFloat .f32 b2), .complex .f32 a3 b3] else #[.complex .f32 a0 b0, .complex .f32 (Op.negFloat .f32 b1) a1, .complex .f32 (Op.negFloat .f32 a2) (Op.negFloat .f32 b2), .complex .f32 b3 (Op.negFloat .f32 a3)]
theorem c123g_3 (a0 b0 a1 b1 a2 b2 a3 b3 : Nat) (by' : Int) (hby : by' % 4 = 3) (w : World) : Calls Tryz.prog 123 #[.agg #[.complex .f32 a0 b0, .complex .f32 a1 b1, .complex .f32 a2 b2, .complex .f32 a3 b3], .int .i64 by'] w fun en w' => en = .returned (.agg #[.complex .f32 a0 b0, .complex .f32 (Op.negFloat .f32 b1) a1, .complex .f32 (Op.negFloat .f32 a2) (Op.negFloat .f32 b2), .complex .f32 b3 (Op.negFloat .f32 a3)]) ∧ Below w.heap.size w w' := by
 have tby : bits BinOp.and IntKind.i64 by' 3 = 3 := by rw [band3]; exact hby
 clear hby
 obtain ⟨w0, hW⟩ : ∃ W, W = ((w.alloc (Obj.cells #[.complex .f32 a0 b0, .complex .f32 a1 b1, .complex .f32 a2 b2, .complex .f32 a3 b3] 84)).alloc (Obj.cells #[.complex .f32 0 0, .complex .f32 0 0, .complex .f32 0 0, .complex .f32 0 0] 84)).alloc (Obj.cells #[.complex .f32 a0 b0, .complex .f32 a1 b1, .complex .f32 a2 b2, .complex .f32 a3 b3] 84) := ⟨_, rfl⟩
 have hT1 : w0.heap[w.heap.size + 1]? = some (.cells #[.complex .f32 0 0, .complex .f32 0 0, .complex .f32 0 0, .complex .f32 0 0] 84 (0, 0)) := by rw [hW]; exact heap_old (by simp) (heap_new (by simp))
 have hT2 : w0.heap[w.heap.size + 1 + 1]? = some (.cells #[.complex .f32 a0 b0, .complex .f32 a1 b1, .complex .f32 a2 b2, .complex .f32 a3 b3] 84 (0, 0)) := by rw [hW]; exact heap_new (by simp)
 have hB0 : Below w.heap.size w w0 := by rw [hW]; exact (below2 _ _ _).alloc (by simp; omega) _
 have hst0 : Hid (w0.heap[w.heap.size + 1 + 1]? = some (.cells (pang3 a0 b0 a1 b1 a2 b2 a3 b3 0) 84 (0, 0))) := Lib.hid hT2
 have HT1 := Lib.hid hT1
 have HB0 := Lib.hid hB0
 have t0 := bg0
 have t1 := bg1
 have t2 := bg2
 have t3 := bg3
 have t4 := bg4
 have t6 := bg6
 have t9 := bg9
 have v0 := wg0
 have v1 := wg1
 have v2 := wg2
 have v3 := wg3
 have v4 := wg4
 have v6 := wg6
 have v9 := wg9
 have g1 := ngf
 have g2 := ngx
 go_enter Tryz.func123, Tryz.ntmps123
 go_wp2_with fail
 rw [← hW]
 clear hW hT1 hT2 hB0
 go_loopw [10] (fun i wr => ∃ (k : Nat) (z : Int), k ≤ 4 ∧ z = (k : Int) ∧ i = .int .i64 z ∧ Hid (wr.heap[w.heap.size + 1 + 1]? = some (.cells (pang3 a0 b0 a1 b1 a2 b2 a3 b3 k) 84 (0, 0))) ∧ Hid (wr.heap[w.heap.size + 1]? = some (.cells #[.complex .f32 0 0, .complex .f32 0 0, .complex .f32 0 0, .complex .f32 0 0] 84 (0, 0))) ∧ Hid (Below w.heap.size w wr)) (fun i _ => 4 - (intOf i).toNat)
 case atStart => exact ⟨0, 0, Nat.zero_le _, rfl, rfl, hst0, HT1, HB0⟩
 case round =>
  clear hst0 HT1 HB0
  obtain ⟨k, z, hk, hz, rfl, HP, HZ, HB⟩ := hrel
  have h5 : k = 0 ∨ k = 1 ∨ k = 2 ∨ k = 3 ∨ k = 4 := by omega
  rcases h5 with rfl | rfl | rfl | rfl | rfl
  ·obtain rfl : z = 0 := hz
   have ix := pxg0 a0 b0 a1 b1 a2 b2 a3 b3
   go_wp2
   go_roundw
   case rel => exact ⟨1, 1, by omega, rfl, rfl, HP, HZ, HB⟩
   case measure => simp [intOf]
  ·obtain rfl : z = 1 := hz
   have ix := pxg1 a0 b0 a1 b1 a2 b2 a3 b3
   have qc : wr.cell? ⟨w.heap.size + 1 + 1, 1, none⟩ = some (.complex .f32 a1 b1) := cell_at HP.out rfl
   have qf : wr.frozen? ⟨w.heap.size + 1 + 1, 1, none⟩ = false := free_at HP.out
   have HP2 : Hid ((wr.setCell ⟨w.heap.size + 1 + 1, 1, none⟩ (.complex .f32 (Op.negFloat .f32 b1) a1)).heap[w.heap.size + 1 + 1]? = some (.cells (pang3 a0 b0 a1 b1 a2 b2 a3 b3 2) 84 (0, 0))) := Lib.hid (set_blk (i := 1) HP.out _)
   have HZ2 : Hid ((wr.setCell ⟨w.heap.size + 1 + 1, 1, none⟩ (.complex .f32 (Op.negFloat .f32 b1) a1)).heap[w.heap.size + 1]? = some (.cells #[.complex .f32 0 0, .complex .f32 0 0, .complex .f32 0 0, .complex .f32 0 0] 84 (0, 0))) := Lib.hid ((set_far (p := ⟨w.heap.size + 1 + 1, 1, none⟩) _ (by show w.heap.size + 1 ≠ w.heap.size + 1 + 1; omega)).trans HZ.out)
   have HB2 : Hid (Below w.heap.size w (wr.setCell ⟨w.heap.size + 1 + 1, 1, none⟩ (.complex .f32 (Op.negFloat .f32 b1) a1))) := Lib.hid (HB.out.setCell (p := ⟨w.heap.size + 1 + 1, 1, none⟩) (by show _ ≤ w.heap.size + 1 + 1; omega) _)
   go_wp2
   go_roundw
   case rel => exact ⟨2, 2, by omega, rfl, rfl, HP2, HZ2, HB2⟩
   case measure => simp [intOf]
  ·obtain rfl : z = 2 := hz
   have ix := pxg2 a0 b0 a1 b1 a2 b2 a3 b3
   have qc : wr.cell? ⟨w.heap.size + 1 + 1, 2, none⟩ = some (.complex .f32 a2 b2) := cell_at HP.out rfl
   have qf : wr.frozen? ⟨w.heap.size + 1 + 1, 2, none⟩ = false := free_at HP.out
   have HP2 : Hid ((wr.setCell ⟨w.heap.size + 1 + 1, 2, none⟩ (.complex .f32 (Op.negFloat .f32 a2) (Op.negFloat .f32 b2))).heap[w.heap.size + 1 + 1]? = some (.cells (pang3 a0 b0 a1 b1 a2 b2 a3 b3 3) 84 (0, 0))) := Lib.hid (set_blk (i := 2) HP.out _)
   have HZ2 : Hid ((wr.setCell ⟨w.heap.size + 1 + 1, 2, none⟩ (.complex .f32 (Op.negFloat .f32 a2) (Op.negFloat .f32 b2))).heap[w.heap.size + 1]? = some (.cells #[.complex .f32 0 0, .complex .f32 0 0, .complex .f32 0 0, .complex .f32 0 0] 84 (0, 0))) := Lib.hid ((set_far (p := ⟨w.heap.size + 1 + 1, 2, none⟩) _ (by show w.heap.size + 1 ≠ w.heap.size + 1 + 1; omega)).trans HZ.out)
   have HB2 : Hid (Below w.heap.size w (wr.setCell ⟨w.heap.size + 1 + 1, 2, none⟩ (.complex .f32 (Op.negFloat .f32 a2) (Op.negFloat .f32 b2)))) := Lib.hid (HB.out.setCell (p := ⟨w.heap.size + 1 + 1, 2, none⟩) (by show _ ≤ w.heap.size + 1 + 1; omega) _)
   go_wp2
   go_roundw
   case rel => exact ⟨3, 3, by omega, rfl, rfl, HP2, HZ2, HB2⟩
   case measure => simp [intOf]
  ·obtain rfl : z = 3 := hz
   have ix := pxg3 a0 b0 a1 b1 a2 b2 a3 b3
   have qc : wr.cell? ⟨w.heap.size + 1 + 1, 3, none⟩ = some (.complex .f32 a3 b3) := cell_at HP.out rfl
   have qf : wr.frozen? ⟨w.heap.size + 1 + 1, 3, none⟩ = false := free_at HP.out
   have HP2 : Hid ((wr.setCell ⟨w.heap.size + 1 + 1, 3, none⟩ (.complex .f32 b3 (Op.negFloat .f32 a3))).heap[w.heap.size + 1 + 1]? = some (.cells (pang3 a0 b0 a1 b1 a2 b2 a3 b3 4) 84 (0, 0))) := Lib.hid (set_blk (i := 3) HP.out _)
   have HZ2 : Hid ((wr.setCell ⟨w.heap.size + 1 + 1, 3, none⟩ (.complex .f32 b3 (Op.negFloat .f32 a3))).heap[w.heap.size + 1]? = some (.cells #[.complex .f32 0 0, .complex .f32 0 0, .complex .f32 0 0, .complex .f32 0 0] 84 (0, 0))) := Lib.hid ((set_far (p := ⟨w.heap.size + 1 + 1, 3, none⟩) _ (by show w.heap.size + 1 ≠ w.heap.size + 1 + 1; omega)).trans HZ.out)
   have HB2 : Hid (Below w.heap.size w (wr.setCell ⟨w.heap.size + 1 + 1, 3, none⟩ (.complex .f32 b3 (Op.negFloat .f32 a3)))) := Lib.hid (HB.out.setCell (p := ⟨w.heap.size + 1 + 1, 3, none⟩) (by show _ ≤ w.heap.size + 1 + 1; omega) _)
   go_wp2
   go_roundw
   case rel => exact ⟨4, 4, by omega, rfl, rfl, HP2, HZ2, HB2⟩
   case measure => simp [intOf]
  ·obtain rfl : z = 4 := hz
   have c0 : wr.cell? ⟨w.heap.size + 1 + 1, 0, none⟩ = some (.complex .f32 a0 b0) := cell_at HP.out rfl
   have c1 : wr.cell? ⟨w.heap.size + 1 + 1, 1, none⟩ = some (.complex .f32 (Op.negFloat .f32 b1) a1) := cell_at HP.out rfl
   have c2 : wr.cell? ⟨w.heap.size + 1 + 1, 2, none⟩ = some (.complex .f32 (Op.negFloat .f32 a2) (Op.negFloat .f32 b2)) := cell_at HP.out rfl
   have c3 : wr.cell? ⟨w.heap.size + 1 + 1, 3, none⟩ = some (.complex .f32 b3 (Op.negFloat .f32 a3)) := cell_at HP.out rfl
   have z0 : wr.cell? ⟨w.heap.size + 1, 0, none⟩ = some (.complex .f32 0 0) := cell_at HZ.out rfl
   have f0 : wr.frozen? ⟨w.heap.size + 1, 0, none⟩ = false := free_at HZ.out
   have z1 : wr.cell? ⟨w.heap.size + 1, 1, none⟩ = some (.complex .f32 0 0) := cell_at HZ.out rfl
   have f1 : wr.frozen? ⟨w.heap.size + 1, 1, none⟩ = false := free_at HZ.out
   have z2 : wr.cell? ⟨w.heap.size + 1, 2, none⟩ = some (.complex .f32 0 0) := cell_at HZ.out rfl
   have f2 : wr.frozen? ⟨w.heap.size + 1, 2, none⟩ = false := free_at HZ.out
   have z3 : wr.cell? ⟨w.heap.size + 1, 3, none⟩ = some (.complex .f32 0 0) := cell_at HZ.out rfl
   have f3 : wr.frozen? ⟨w.heap.size + 1, 3, none⟩ = false := free_at HZ.out
   have hT := set_blk (i := 3) (set_blk (i := 2) (set_blk (i := 1) (set_blk (i := 0) HZ.out (.complex .f32 a0 b0)) (.complex .f32 (Op.negFloat .f32 b1) a1)) (.complex .f32 (Op.negFloat .f32 a2) (Op.negFloat .f32 b2))) (.complex .f32 b3 (Op.negFloat .f32 a3))
   have hbf := ((((HB.out.setCell (p := ⟨w.heap.size + 1, 0, none⟩) (by show _ ≤ w.heap.size + 1; omega) (.complex .f32 a0 b0)).setCell (p := ⟨w.heap.size + 1, 1, none⟩) (by show _ ≤ w.heap.size + 1; omega) (.complex .f32 (Op.negFloat .f32 b1) a1)).setCell (p := ⟨w.heap.size + 1, 2, none⟩) (by show _ ≤ w.heap.size + 1; omega) (.complex .f32 (Op.negFloat .f32 a2) (Op.negFloat .f32 b2))).setCell (p := ⟨w.heap.size + 1, 3, none⟩) (by show _ ≤ w.heap.size + 1; omega) (.complex .f32 b3 (Op.negFloat .f32 a3)))
   have HTF := Lib.hid hT
   have HBF := Lib.hid hbf
   clear hT hbf
   go_wp2_with fail
   exact bodyPost_ret (results_blk rfl rfl HTF.out _ Tryz.underlying84 rfl (by kernel_rfl)) rfl ⟨rfl, HBF.out⟩
theorem c123g (p : Pan) (by' : Int) (m : Nat) (hm : m < 4) (hby : by' % 4 = m) (w : World) : Calls Tryz.prog 123 #[.agg p.cells, .int .i64 by'] w fun en w' => en = .returned (.agg (p.del m).cells) ∧ Below w.heap.size w w' := by
 obtain ⟨a0, b0, a1, b1, a2, b2, a3, b3⟩ := p
 rcases m4 hm with rfl | rfl | rfl | rfl
 ·exact c123g_0 a0 b0 a1 b1 a2 b2 a3 b3 by' hby w
 ·exact c123g_1 a0 b0 a1 b1 a2 b2 a3 b3 by' hby w
 ·exact c123g_2 a0 b0 a1 b1 a2 b2 a3 b3 by' hby w
 ·exact c123g_3 a0 b0 a1 b1 a2 b2 a3 b3 by' hby w
end Go.Proofs.YtdimmlljjmmdbaaGreatDoor
namespace Go.Proofs.YtdimmlljjmmdbaaGreatDoor
open Go.RowKit Go.Shelf
set_option maxHeartbeats 8000000
set_option maxRecDepth 100000
theorem rng0 {n lo hi : Int} (h : lo ≤ n ∧ n ≤ hi) : Mo.range n lo hi = 0 := Mo.range_ok.2 h
/-- the sum of what layers delay -/
def lsum (l : List Ly) : Int := (l.map fun x => x.t * x.s).foldl (· + ·) 0
theorem lsum_step {l : List Ly} {k : Nat} {x : Ly} (h : l[k]? = some x) : lsum (l.take (k + 1)) = lsum (l.take k) + x.t * x.s := by
 unfold lsum
 rw [List.take_add_one, h]
 simp
theorem ly_mul {x : Ly} (h : (0 ≤ x.t ∧ x.t ≤ 1000) ∧ 1 ≤ x.s ∧ x.s ≤ 100) : 0 ≤ x.t * x.s ∧ x.t * x.s ≤ 100000 := by
 refine ⟨Int.mul_nonneg h.1.1 (by omega), ?_⟩
 exact Int.le_trans (Int.mul_le_mul h.1.2 h.2.2 (by omega) (by omega)) (by decide)
theorem lsum_le {l : List Ly} (h : ∀ x, x ∈ l → (0 ≤ x.t ∧ x.t ≤ 1000) ∧ 1 ≤ x.s ∧ x.s ≤ 100) : ∀ k, 0 ≤ lsum (l.take k) ∧ lsum (l.take k) ≤ 100000 * k
 | 0 => by simp [lsum]
 | k + 1 => by
  have ih := lsum_le h k
  cases hx : l[k]? with
  | none => rw [List.take_add_one, hx]; simp; omega
  | some x =>
   rw [lsum_step hx]
   have := ly_mul (h x (List.mem_of_getElem? hx))
   omega
theorem first_zero : ∀ {l : List Int}, (∀ x, x ∈ l → x = 0) → Mo.first l = 0
 | [], _ => rfl
 | x :: xs, h => by
  have h0 := h x (by simp)
  subst h0
  have := first_zero (l := xs) (fun y hy => h y (by simp [hy]))
  simpa [Mo.first] using this
theorem c45g (a0 b0 a1 b1 a2 b2 a3 b3 c0 d0 c1 d1 c2 d2 c3 d3 : Nat) (by' : Int) (hb : -100000 ≤ by' ∧ by' ≤ 100000) (hz : ∀ w, Calls Tryz.prog 120 #[.agg #[.complex .f32 a0 b0, .complex .f32 a1 b1, .complex .f32 a2 b2, .complex .f32 a3 b3]] w fun en w' => en = .returned (.int .i64 0) ∧ Below w.heap.size w w') (hd : ∀ w, Calls Tryz.prog 123 #[.agg #[.complex .f32 a0 b0, .complex .f32 a1 b1, .complex .f32 a2 b2, .complex .f32 a3 b3], .int .i64 by'] w fun en w' => en = .returned (.agg #[.complex .f32 c0 d0, .complex .f32 c1 d1, .complex .f32 c2 d2, .complex .f32 c3 d3]) ∧ Below w.heap.size w w') (w : World) :
  Calls Tryz.prog 45 #[.agg #[.complex .f32 a0 b0, .complex .f32 a1 b1, .complex .f32 a2 b2, .complex .f32 a3 b3], .int .i64 by'] w fun en w' => en = .returned (.tuple #[.agg #[.complex .f32 c0 d0, .complex .f32 c1 d1, .complex .f32 c2 d2, .complex .f32 c3 d3], .int .i64 0]) ∧ Below w.heap.size w w' := by
 have HZ := Lib.hid hz
 have HDD := Lib.hid hd
 have HR : Hid (Mo.range by' (-100000) 100000 = 0) := Lib.hid (rng0 hb)
 clear hz hd hb
 obtain ⟨w0, hW⟩ : ∃ W, W = (w.alloc (Obj.cells #[.complex .f32 a0 b0, .complex .f32 a1 b1, .complex .f32 a2 b2, .complex .f32 a3 b3] 84)).alloc (Obj.cells #[.complex .f32 0 0, .complex .f32 0 0, .complex .f32 0 0, .complex .f32 0 0] 84) := ⟨_, rfl⟩
 have hT0 : w0.heap[w.heap.size]? = some (.cells #[.complex .f32 a0 b0, .complex .f32 a1 b1, .complex .f32 a2 b2, .complex .f32 a3 b3] 84 (0, 0)) := by rw [hW]; exact heap_old (by simp <;> omega) (heap_new (by simp))
 have hT1 : w0.heap[w.heap.size + 1]? = some (.cells #[.complex .f32 0 0, .complex .f32 0 0, .complex .f32 0 0, .complex .f32 0 0] 84 (0, 0)) := by rw [hW]; exact heap_new (by simp)
 have hB0 : Below w.heap.size w w0 := by rw [hW]; exact (((Below.refl _ _).alloc (by first | omega | (simp <;> omega)) _).alloc (by first | omega | (simp <;> omega)) _)
 go_enter Tryz.func45, Tryz.ntmps45
 go_wp2_with fail
 rw [← hW]
 clear hW
 have qhT0_0 : w0.cell? ⟨w.heap.size, 0, none⟩ = some (.complex .f32 a0 b0) := cell_at hT0 rfl
 have qhT0_1 : w0.cell? ⟨w.heap.size, 1, none⟩ = some (.complex .f32 a1 b1) := cell_at hT0 rfl
 have qhT0_2 : w0.cell? ⟨w.heap.size, 2, none⟩ = some (.complex .f32 a2 b2) := cell_at hT0 rfl
 have qhT0_3 : w0.cell? ⟨w.heap.size, 3, none⟩ = some (.complex .f32 a3 b3) := cell_at hT0 rfl
 have qhT1_0 : w0.cell? ⟨w.heap.size + 1, 0, none⟩ = some (.complex .f32 0 0) := cell_at hT1 rfl
 have qhT1_1 : w0.cell? ⟨w.heap.size + 1, 1, none⟩ = some (.complex .f32 0 0) := cell_at hT1 rfl
 have qhT1_2 : w0.cell? ⟨w.heap.size + 1, 2, none⟩ = some (.complex .f32 0 0) := cell_at hT1 rfl
 have qhT1_3 : w0.cell? ⟨w.heap.size + 1, 3, none⟩ = some (.complex .f32 0 0) := cell_at hT1 rfl
 go_wp2_with fail
 refine (HZ.out _).mono ?_
 rintro e w1 ⟨rfl, hb⟩
 clear qhT0_0 qhT0_1 qhT0_2 qhT0_3 qhT1_0 qhT1_1 qhT1_2 qhT1_3
 have hS := hb
 have hB1 := hB0.call hS rfl
 replace hT0 := blkb hT0 hS
 replace hT1 := blkb hT1 hS
 clear hS hB0
 have qhT0_0 : w1.cell? ⟨w.heap.size, 0, none⟩ = some (.complex .f32 a0 b0) := cell_at hT0 rfl
 have qhT0_1 : w1.cell? ⟨w.heap.size, 1, none⟩ = some (.complex .f32 a1 b1) := cell_at hT0 rfl
 have qhT0_2 : w1.cell? ⟨w.heap.size, 2, none⟩ = some (.complex .f32 a2 b2) := cell_at hT0 rfl
 have qhT0_3 : w1.cell? ⟨w.heap.size, 3, none⟩ = some (.complex .f32 a3 b3) := cell_at hT0 rfl
 have qhT1_0 : w1.cell? ⟨w.heap.size + 1, 0, none⟩ = some (.complex .f32 0 0) := cell_at hT1 rfl
 have qhT1_1 : w1.cell? ⟨w.heap.size + 1, 1, none⟩ = some (.complex .f32 0 0) := cell_at hT1 rfl
 have qhT1_2 : w1.cell? ⟨w.heap.size + 1, 2, none⟩ = some (.complex .f32 0 0) := cell_at hT1 rfl
 have qhT1_3 : w1.cell? ⟨w.heap.size + 1, 3, none⟩ = some (.complex .f32 0 0) := cell_at hT1 rfl
 clear hb
 go_wp2_with fail
 refine (c93 by' (-100000) 100000 _).mono ?_
 rintro e w' ⟨rfl, rfl⟩
 rw [HR.out]
 go_wp2_with fail
 refine (c89 _ 2 2 [0, 0] _ rfl (by omega) (RdS.of_new (cs := encI [0, 0]) rfl rfl)).mono ?_
 rintro e w' ⟨rfl, rfl⟩
 obtain ⟨w2, hwn⟩ : ∃ V, V = w1.alloc (Obj.cells (encI [0, 0]).toArray 32) := ⟨_, rfl⟩
 have hbn : Below w1.heap.size w1 w2 := by rw [hwn]; exact (Below.refl _ _).alloc (Nat.le_refl _) _
 try rw [← hwn]
 clear hwn
 clear qhT0_0 qhT0_1 qhT0_2 qhT0_3 qhT1_0 qhT1_1 qhT1_2 qhT1_3
 have hS := hbn
 have hB2 := hB1.call hS rfl
 replace hT0 := blkb hT0 hS
 replace hT1 := blkb hT1 hS
 clear hS hB1
 have qhT0_0 : w2.cell? ⟨w.heap.size, 0, none⟩ = some (.complex .f32 a0 b0) := cell_at hT0 rfl
 have qhT0_1 : w2.cell? ⟨w.heap.size, 1, none⟩ = some (.complex .f32 a1 b1) := cell_at hT0 rfl
 have qhT0_2 : w2.cell? ⟨w.heap.size, 2, none⟩ = some (.complex .f32 a2 b2) := cell_at hT0 rfl
 have qhT0_3 : w2.cell? ⟨w.heap.size, 3, none⟩ = some (.complex .f32 a3 b3) := cell_at hT0 rfl
 have qhT1_0 : w2.cell? ⟨w.heap.size + 1, 0, none⟩ = some (.complex .f32 0 0) := cell_at hT1 rfl
 have qhT1_1 : w2.cell? ⟨w.heap.size + 1, 1, none⟩ = some (.complex .f32 0 0) := cell_at hT1 rfl
 have qhT1_2 : w2.cell? ⟨w.heap.size + 1, 2, none⟩ = some (.complex .f32 0 0) := cell_at hT1 rfl
 have qhT1_3 : w2.cell? ⟨w.heap.size + 1, 3, none⟩ = some (.complex .f32 0 0) := cell_at hT1 rfl
 clear hbn
 have hf2 : Mo.first [0, 0] = 0 := rfl
 rw [hf2]
 clear hf2
 go_wp2_with fail
 go_wp2_with fail
 refine (HDD.out _).mono ?_
 rintro e w3 ⟨rfl, hb⟩
 clear qhT0_0 qhT0_1 qhT0_2 qhT0_3 qhT1_0 qhT1_1 qhT1_2 qhT1_3
 have hS := hb
 have hB3 := hB2.call hS rfl
 replace hT0 := blkb hT0 hS
 replace hT1 := blkb hT1 hS
 clear hS hB2
 have qhT0_0 : w3.cell? ⟨w.heap.size, 0, none⟩ = some (.complex .f32 a0 b0) := cell_at hT0 rfl
 have qhT0_1 : w3.cell? ⟨w.heap.size, 1, none⟩ = some (.complex .f32 a1 b1) := cell_at hT0 rfl
 have qhT0_2 : w3.cell? ⟨w.heap.size, 2, none⟩ = some (.complex .f32 a2 b2) := cell_at hT0 rfl
 have qhT0_3 : w3.cell? ⟨w.heap.size, 3, none⟩ = some (.complex .f32 a3 b3) := cell_at hT0 rfl
 have qhT1_0 : w3.cell? ⟨w.heap.size + 1, 0, none⟩ = some (.complex .f32 0 0) := cell_at hT1 rfl
 have qhT1_1 : w3.cell? ⟨w.heap.size + 1, 1, none⟩ = some (.complex .f32 0 0) := cell_at hT1 rfl
 have qhT1_2 : w3.cell? ⟨w.heap.size + 1, 2, none⟩ = some (.complex .f32 0 0) := cell_at hT1 rfl
 have qhT1_3 : w3.cell? ⟨w.heap.size + 1, 3, none⟩ = some (.complex .f32 0 0) := cell_at hT1 rfl
 clear hb
 clear qhT0_0 qhT0_1 qhT0_2 qhT0_3 qhT1_0 qhT1_1 qhT1_2 qhT1_3
 have sc0 : w3.cell? ⟨w.heap.size + 1, 0, none⟩ = some (.complex .f32 0 0) := cell_at hT1 rfl
 have sf0 : w3.frozen? ⟨w.heap.size + 1, 0, none⟩ = false := free_at hT1
 have sc1 : w3.cell? ⟨w.heap.size + 1, 1, none⟩ = some (.complex .f32 0 0) := cell_at hT1 rfl
 have sf1 : w3.frozen? ⟨w.heap.size + 1, 1, none⟩ = false := free_at hT1
 have sc2 : w3.cell? ⟨w.heap.size + 1, 2, none⟩ = some (.complex .f32 0 0) := cell_at hT1 rfl
 have sf2 : w3.frozen? ⟨w.heap.size + 1, 2, none⟩ = false := free_at hT1
 have sc3 : w3.cell? ⟨w.heap.size + 1, 3, none⟩ = some (.complex .f32 0 0) := cell_at hT1 rfl
 have sf3 : w3.frozen? ⟨w.heap.size + 1, 3, none⟩ = false := free_at hT1
 have hTs := set_blk (i := 3) (set_blk (i := 2) (set_blk (i := 1) (set_blk (i := 0) hT1 (.complex .f32 c0 d0)) (.complex .f32 c1 d1)) (.complex .f32 c2 d2)) (.complex .f32 c3 d3)
 have hbs := ((((hB3.setCell (p := ⟨w.heap.size + 1, 0, none⟩) (by show _ ≤ w.heap.size + 1; omega) (.complex .f32 c0 d0)).setCell (p := ⟨w.heap.size + 1, 1, none⟩) (by show _ ≤ w.heap.size + 1; omega) (.complex .f32 c1 d1)).setCell (p := ⟨w.heap.size + 1, 2, none⟩) (by show _ ≤ w.heap.size + 1; omega) (.complex .f32 c2 d2)).setCell (p := ⟨w.heap.size + 1, 3, none⟩) (by show _ ≤ w.heap.size + 1; omega) (.complex .f32 c3 d3))
 have HTS := Lib.hid hTs
 have HBS := Lib.hid hbs
 clear hTs hbs
 go_wp2_with fail
 exact bodyPost_ret (results_blk_tmp rfl rfl HTS.out _ Tryz.underlying84 rfl (by kernel_rfl)) rfl ⟨rfl, HBS.out⟩
theorem c44g (a0 b0 a1 b1 a2 b2 a3 b3 c0 d0 c1 d1 c2 d2 c3 d3 : Nat) (inv : Bool) (A : Option Addr) (n cap : Nat) (l : List Ly) (by' : Int) (hn : n ≤ 16) (hv : ∀ x, x ∈ l → (0 ≤ x.t ∧ x.t ≤ 1000) ∧ 1 ≤ x.s ∧ x.s ≤ 100) (hby : by' = if inv then -lsum l else lsum l) (hz : ∀ w, Calls Tryz.prog 120 #[.agg #[.complex .f32 a0 b0, .complex .f32 a1 b1, .complex .f32 a2 b2, .complex .f32 a3 b3]] w fun en w' => en = .returned (.int .i64 0) ∧ Below w.heap.size w w') (hd : ∀ w, Calls Tryz.prog 123 #[.agg #[.complex .f32 a0 b0, .complex .f32 a1 b1, .complex .f32 a2 b2, .complex .f32 a3 b3], .int .i64 by'] w fun en w' => en = .returned (.agg #[.complex .f32 c0 d0, .complex .f32 c1 d1, .complex .f32 c2 d2, .complex .f32 c3 d3]) ∧ Below w.heap.size w w') (w : World) (HL : RdY w A n l) :
  Calls Tryz.prog 44 #[.agg #[.complex .f32 a0 b0, .complex .f32 a1 b1, .complex .f32 a2 b2, .complex .f32 a3 b3], .slice A n cap, .bool inv] w fun en w' => en = .returned (.tuple #[.agg #[.complex .f32 c0 d0, .complex .f32 c1 d1, .complex .f32 c2 d2, .complex .f32 c3 d3], .int .i64 0]) ∧ Below w.heap.size w w' := by
 have HZ := Lib.hid hz
 have HDD := Lib.hid hd
 have HV := Lib.hid hv
 have HLL := Lib.hid HL.len
 have HBY := Lib.hid hby
 have HLA : Hid (Mo.first (List.map Mo.lay l) = 0) := Lib.hid (first_zero (fun y hy => by
  obtain ⟨x, hx, rfl⟩ := List.mem_map.1 hy
  have h := hv x hx
  unfold Mo.lay
  rw [rng0 h.1, rng0 h.2]
  rfl))
 have hle : decide ((16 : Int) < (n : Int)) = false := by simp; omega
 have HLE := Lib.hid (lsum_le hv)
 clear hz hd hv hby
 obtain ⟨w0, hW⟩ : ∃ W, W = (w.alloc (Obj.cells #[.complex .f32 a0 b0, .complex .f32 a1 b1, .complex .f32 a2 b2, .complex .f32 a3 b3] 84)).alloc (Obj.cells #[.complex .f32 0 0, .complex .f32 0 0, .complex .f32 0 0, .complex .f32 0 0] 84) := ⟨_, rfl⟩
 have hT0 : w0.heap[w.heap.size]? = some (.cells #[.complex .f32 a0 b0, .complex .f32 a1 b1, .complex .f32 a2 b2, .complex .f32 a3 b3] 84 (0, 0)) := by rw [hW]; exact heap_old (by simp <;> omega) (heap_new (by simp))
 have hT1 : w0.heap[w.heap.size + 1]? = some (.cells #[.complex .f32 0 0, .complex .f32 0 0, .complex .f32 0 0, .complex .f32 0 0] 84 (0, 0)) := by rw [hW]; exact heap_new (by simp)
 have hB0 : Below w.heap.size w w0 := by rw [hW]; exact (((Below.refl _ _).alloc (by first | omega | (simp <;> omega)) _).alloc (by first | omega | (simp <;> omega)) _)
 replace HL := HL.below hB0
 go_enter Tryz.func44, Tryz.ntmps44
 go_wp2_with fail
 rw [← hW]
 clear hW
 have qhT0_0 : w0.cell? ⟨w.heap.size, 0, none⟩ = some (.complex .f32 a0 b0) := cell_at hT0 rfl
 have qhT0_1 : w0.cell? ⟨w.heap.size, 1, none⟩ = some (.complex .f32 a1 b1) := cell_at hT0 rfl
 have qhT0_2 : w0.cell? ⟨w.heap.size, 2, none⟩ = some (.complex .f32 a2 b2) := cell_at hT0 rfl
 have qhT0_3 : w0.cell? ⟨w.heap.size, 3, none⟩ = some (.complex .f32 a3 b3) := cell_at hT0 rfl
 have qhT1_0 : w0.cell? ⟨w.heap.size + 1, 0, none⟩ = some (.complex .f32 0 0) := cell_at hT1 rfl
 have qhT1_1 : w0.cell? ⟨w.heap.size + 1, 1, none⟩ = some (.complex .f32 0 0) := cell_at hT1 rfl
 have qhT1_2 : w0.cell? ⟨w.heap.size + 1, 2, none⟩ = some (.complex .f32 0 0) := cell_at hT1 rfl
 have qhT1_3 : w0.cell? ⟨w.heap.size + 1, 3, none⟩ = some (.complex .f32 0 0) := cell_at hT1 rfl
 go_wp2_with fail
 refine (HZ.out _).mono ?_
 rintro e w1 ⟨rfl, hb⟩
 clear qhT0_0 qhT0_1 qhT0_2 qhT0_3 qhT1_0 qhT1_1 qhT1_2 qhT1_3
 have hS := hb
 have hB1 := hB0.call hS rfl
 replace hT0 := blkb hT0 hS
 replace hT1 := blkb hT1 hS
 replace HL := HL.below hS
 clear hS hB0
 have qhT0_0 : w1.cell? ⟨w.heap.size, 0, none⟩ = some (.complex .f32 a0 b0) := cell_at hT0 rfl
 have qhT0_1 : w1.cell? ⟨w.heap.size, 1, none⟩ = some (.complex .f32 a1 b1) := cell_at hT0 rfl
 have qhT0_2 : w1.cell? ⟨w.heap.size, 2, none⟩ = some (.complex .f32 a2 b2) := cell_at hT0 rfl
 have qhT0_3 : w1.cell? ⟨w.heap.size, 3, none⟩ = some (.complex .f32 a3 b3) := cell_at hT0 rfl
 have qhT1_0 : w1.cell? ⟨w.heap.size + 1, 0, none⟩ = some (.complex .f32 0 0) := cell_at hT1 rfl
 have qhT1_1 : w1.cell? ⟨w.heap.size + 1, 1, none⟩ = some (.complex .f32 0 0) := cell_at hT1 rfl
 have qhT1_2 : w1.cell? ⟨w.heap.size + 1, 2, none⟩ = some (.complex .f32 0 0) := cell_at hT1 rfl
 have qhT1_3 : w1.cell? ⟨w.heap.size + 1, 3, none⟩ = some (.complex .f32 0 0) := cell_at hT1 rfl
 clear hb
 go_wp2_with fail
 refine (c94 false 5 _).mono ?_
 rintro e w' ⟨rfl, rfl⟩
 have hr1 : Mo.when false 5 = 0 := rfl
 rw [hr1]
 clear hr1
 go_wp2_with fail
 refine (c89 _ 2 2 [0, 0] _ rfl (by omega) (RdS.of_new (cs := encI [0, 0]) rfl rfl)).mono ?_
 rintro e w' ⟨rfl, rfl⟩
 obtain ⟨w2, hwn⟩ : ∃ V, V = w1.alloc (Obj.cells (encI [0, 0]).toArray 32) := ⟨_, rfl⟩
 have hbn : Below w1.heap.size w1 w2 := by rw [hwn]; exact (Below.refl _ _).alloc (Nat.le_refl _) _
 try rw [← hwn]
 clear hwn
 clear qhT0_0 qhT0_1 qhT0_2 qhT0_3 qhT1_0 qhT1_1 qhT1_2 qhT1_3
 have hS := hbn
 have hB2 := hB1.call hS rfl
 replace hT0 := blkb hT0 hS
 replace hT1 := blkb hT1 hS
 replace HL := HL.below hS
 clear hS hB1
 have qhT0_0 : w2.cell? ⟨w.heap.size, 0, none⟩ = some (.complex .f32 a0 b0) := cell_at hT0 rfl
 have qhT0_1 : w2.cell? ⟨w.heap.size, 1, none⟩ = some (.complex .f32 a1 b1) := cell_at hT0 rfl
 have qhT0_2 : w2.cell? ⟨w.heap.size, 2, none⟩ = some (.complex .f32 a2 b2) := cell_at hT0 rfl
 have qhT0_3 : w2.cell? ⟨w.heap.size, 3, none⟩ = some (.complex .f32 a3 b3) := cell_at hT0 rfl
 have qhT1_0 : w2.cell? ⟨w.heap.size + 1, 0, none⟩ = some (.complex .f32 0 0) := cell_at hT1 rfl
 have qhT1_1 : w2.cell? ⟨w.heap.size + 1, 1, none⟩ = some (.complex .f32 0 0) := cell_at hT1 rfl
 have qhT1_2 : w2.cell? ⟨w.heap.size + 1, 2, none⟩ = some (.complex .f32 0 0) := cell_at hT1 rfl
 have qhT1_3 : w2.cell? ⟨w.heap.size + 1, 3, none⟩ = some (.complex .f32 0 0) := cell_at hT1 rfl
 clear hbn
 have hf2 : Mo.first [0, 0] = 0 := rfl
 rw [hf2]
 clear hf2
 go_wp2_with fail
 go_wp2_with fail
 refine (c121 A n cap l Mo.lay _ (by omega) HL (fun W x _ _ => c122 x W)).mono ?_
 rintro e w3 ⟨A1, cap1, rfl, hr1, hb⟩
 clear qhT0_0 qhT0_1 qhT0_2 qhT0_3 qhT1_0 qhT1_1 qhT1_2 qhT1_3
 have hS := hb
 have hB3 := hB2.call hS rfl
 replace hT0 := blkb hT0 hS
 replace hT1 := blkb hT1 hS
 replace HL := HL.below hS
 clear hS hB2
 have qhT0_0 : w3.cell? ⟨w.heap.size, 0, none⟩ = some (.complex .f32 a0 b0) := cell_at hT0 rfl
 have qhT0_1 : w3.cell? ⟨w.heap.size, 1, none⟩ = some (.complex .f32 a1 b1) := cell_at hT0 rfl
 have qhT0_2 : w3.cell? ⟨w.heap.size, 2, none⟩ = some (.complex .f32 a2 b2) := cell_at hT0 rfl
 have qhT0_3 : w3.cell? ⟨w.heap.size, 3, none⟩ = some (.complex .f32 a3 b3) := cell_at hT0 rfl
 have qhT1_0 : w3.cell? ⟨w.heap.size + 1, 0, none⟩ = some (.complex .f32 0 0) := cell_at hT1 rfl
 have qhT1_1 : w3.cell? ⟨w.heap.size + 1, 1, none⟩ = some (.complex .f32 0 0) := cell_at hT1 rfl
 have qhT1_2 : w3.cell? ⟨w.heap.size + 1, 2, none⟩ = some (.complex .f32 0 0) := cell_at hT1 rfl
 have qhT1_3 : w3.cell? ⟨w.heap.size + 1, 3, none⟩ = some (.complex .f32 0 0) := cell_at hT1 rfl
 clear hb
 go_wp2_with fail
 refine (c89 A1 n cap1 _ _ hr1.len (by omega) hr1).mono ?_
 rintro e w' ⟨rfl, rfl⟩
 rw [HLA.out]
 clear hr1
 go_wp2_with fail
 go_loopw [10, 34] (fun S i wr => ∃ k : Nat, k ≤ n ∧ i = .int .i64 k ∧ S = .int .i64 (lsum (l.take k)) ∧ Below w3.heap.size w3 wr) (fun _ i _ => n - (intOf i).toNat)
 case atStart => exact ⟨0, Nat.zero_le _, rfl, rfl, Below.refl _ _⟩
 case round =>
  obtain ⟨k, hk, rfl, rfl, hbr⟩ := hrel
  obtain ⟨w4, hww⟩ : ∃ W, W = wr := ⟨_, rfl⟩
  subst hww
  have hB4 := hB3.call hbr rfl
  replace hT0 := blkb hT0 hbr
  replace hT1 := blkb hT1 hbr
  replace HL := HL.below hbr
  clear hB3
  have qhT0_0 : w4.cell? ⟨w.heap.size, 0, none⟩ = some (.complex .f32 a0 b0) := cell_at hT0 rfl
  have qhT0_1 : w4.cell? ⟨w.heap.size, 1, none⟩ = some (.complex .f32 a1 b1) := cell_at hT0 rfl
  have qhT0_2 : w4.cell? ⟨w.heap.size, 2, none⟩ = some (.complex .f32 a2 b2) := cell_at hT0 rfl
  have qhT0_3 : w4.cell? ⟨w.heap.size, 3, none⟩ = some (.complex .f32 a3 b3) := cell_at hT0 rfl
  have qhT1_0 : w4.cell? ⟨w.heap.size + 1, 0, none⟩ = some (.complex .f32 0 0) := cell_at hT1 rfl
  have qhT1_1 : w4.cell? ⟨w.heap.size + 1, 1, none⟩ = some (.complex .f32 0 0) := cell_at hT1 rfl
  have qhT1_2 : w4.cell? ⟨w.heap.size + 1, 2, none⟩ = some (.complex .f32 0 0) := cell_at hT1 rfl
  have qhT1_3 : w4.cell? ⟨w.heap.size + 1, 3, none⟩ = some (.complex .f32 0 0) := cell_at hT1 rfl
  clear qhT0_0 qhT0_1 qhT0_2 qhT0_3 qhT1_0 qhT1_1 qhT1_2 qhT1_3
  have hwk : IntKind.i64.wrap ((k : Int) + 1) = ((k + 1 : Nat) : Int) := by rw [wrapI (by omega)]; simp
  by_cases hlt : k < n
  ·
    obtain ⟨b, off, x, rfl, hx, hbl, h0, h1⟩ := HL.at hlt
    have hst := lsum_step hx
    have hm := ly_mul (HV.out x (List.mem_of_getElem? hx))
    have hle1 := HLE.out k
    have hlt2 : (k : Int) < (n : Int) := by omega
    have hw1 : IntKind.i64.wrap (x.t * x.s) = x.t * x.s := by rw [wrapI (by omega)]
    have hw2 : IntKind.i64.wrap (lsum (l.take k) + x.t * x.s) = lsum (l.take (k + 1)) := by rw [wrapI (by omega), hst]
    have HN : Hid (Below w3.heap.size w3 (w4.alloc (Obj.cells #[.int .i64 x.t, .int .i64 x.s] 80))) := Lib.hid (hbr.alloc hbr.size _)
    clear hbr hst hm hle1 hx
    go_wp2
    go_roundw
    case rel => exact ⟨k + 1, by omega, by go_num, rfl, HN.out⟩
    case measure => simp [intOf]; omega
  obtain rfl : n = k := by omega
  have hlS : lsum (l.take n) = lsum l := by rw [List.take_of_length_le (by rw [HLL.out]; exact Nat.le_refl _)]
  have hle1 := HLE.out n
  rw [hlS] at hle1 ⊢
  generalize lsum l = S at hle1 HBY ⊢
  have hwn : IntKind.i64.wrap (-S) = -S := by rw [wrapI (by omega)]
  clear hlS hle1 hlt hk hwk hbr
  cases inv
  ·
    have hby : by' = S := by simpa using HBY.out
    rw [hby] at HDD
    clear hby
    have q0_0 : w4.cell? ⟨w.heap.size, 0, none⟩ = some (.complex .f32 a0 b0) := cell_at hT0 rfl
    have q0_1 : w4.cell? ⟨w.heap.size, 1, none⟩ = some (.complex .f32 a1 b1) := cell_at hT0 rfl
    have q0_2 : w4.cell? ⟨w.heap.size, 2, none⟩ = some (.complex .f32 a2 b2) := cell_at hT0 rfl
    have q0_3 : w4.cell? ⟨w.heap.size, 3, none⟩ = some (.complex .f32 a3 b3) := cell_at hT0 rfl
    go_wp2_with fail
    refine (HDD.out _).mono ?_
    rintro e w5 ⟨rfl, hb⟩
    have hS := hb
    have hB5 := hB4.call hS rfl
    replace hT0 := blkb hT0 hS
    replace hT1 := blkb hT1 hS
    replace HL := HL.below hS
    clear hS hB4
    have qhT0_0 : w5.cell? ⟨w.heap.size, 0, none⟩ = some (.complex .f32 a0 b0) := cell_at hT0 rfl
    have qhT0_1 : w5.cell? ⟨w.heap.size, 1, none⟩ = some (.complex .f32 a1 b1) := cell_at hT0 rfl
    have qhT0_2 : w5.cell? ⟨w.heap.size, 2, none⟩ = some (.complex .f32 a2 b2) := cell_at hT0 rfl
    have qhT0_3 : w5.cell? ⟨w.heap.size, 3, none⟩ = some (.complex .f32 a3 b3) := cell_at hT0 rfl
    have qhT1_0 : w5.cell? ⟨w.heap.size + 1, 0, none⟩ = some (.complex .f32 0 0) := cell_at hT1 rfl
    have qhT1_1 : w5.cell? ⟨w.heap.size + 1, 1, none⟩ = some (.complex .f32 0 0) := cell_at hT1 rfl
    have qhT1_2 : w5.cell? ⟨w.heap.size + 1, 2, none⟩ = some (.complex .f32 0 0) := cell_at hT1 rfl
    have qhT1_3 : w5.cell? ⟨w.heap.size + 1, 3, none⟩ = some (.complex .f32 0 0) := cell_at hT1 rfl
    clear hb
    clear qhT0_0 qhT0_1 qhT0_2 qhT0_3 qhT1_0 qhT1_1 qhT1_2 qhT1_3
    have sc0 : w5.cell? ⟨w.heap.size + 1, 0, none⟩ = some (.complex .f32 0 0) := cell_at hT1 rfl
    have sf0 : w5.frozen? ⟨w.heap.size + 1, 0, none⟩ = false := free_at hT1
    have sc1 : w5.cell? ⟨w.heap.size + 1, 1, none⟩ = some (.complex .f32 0 0) := cell_at hT1 rfl
    have sf1 : w5.frozen? ⟨w.heap.size + 1, 1, none⟩ = false := free_at hT1
    have sc2 : w5.cell? ⟨w.heap.size + 1, 2, none⟩ = some (.complex .f32 0 0) := cell_at hT1 rfl
    have sf2 : w5.frozen? ⟨w.heap.size + 1, 2, none⟩ = false := free_at hT1
    have sc3 : w5.cell? ⟨w.heap.size + 1, 3, none⟩ = some (.complex .f32 0 0) := cell_at hT1 rfl
    have sf3 : w5.frozen? ⟨w.heap.size + 1, 3, none⟩ = false := free_at hT1
    have hTs := set_blk (i := 3) (set_blk (i := 2) (set_blk (i := 1) (set_blk (i := 0) hT1 (.complex .f32 c0 d0)) (.complex .f32 c1 d1)) (.complex .f32 c2 d2)) (.complex .f32 c3 d3)
    have hbs := ((((hB5.setCell (p := ⟨w.heap.size + 1, 0, none⟩) (by show _ ≤ w.heap.size + 1; omega) (.complex .f32 c0 d0)).setCell (p := ⟨w.heap.size + 1, 1, none⟩) (by show _ ≤ w.heap.size + 1; omega) (.complex .f32 c1 d1)).setCell (p := ⟨w.heap.size + 1, 2, none⟩) (by show _ ≤ w.heap.size + 1; omega) (.complex .f32 c2 d2)).setCell (p := ⟨w.heap.size + 1, 3, none⟩) (by show _ ≤ w.heap.size + 1; omega) (.complex .f32 c3 d3))
    have HTS := Lib.hid hTs
    have HBS := Lib.hid hbs
    clear hTs hbs
    go_wp2_with fail
    exact bodyPost_ret (results_blk_tmp rfl rfl HTS.out _ Tryz.underlying84 rfl (by kernel_rfl)) rfl ⟨rfl, HBS.out⟩
  ·
    have hby : by' = -S := by simpa using HBY.out
    rw [hby] at HDD
    clear hby
    have q0_0 : w4.cell? ⟨w.heap.size, 0, none⟩ = some (.complex .f32 a0 b0) := cell_at hT0 rfl
    have q0_1 : w4.cell? ⟨w.heap.size, 1, none⟩ = some (.complex .f32 a1 b1) := cell_at hT0 rfl
    have q0_2 : w4.cell? ⟨w.heap.size, 2, none⟩ = some (.complex .f32 a2 b2) := cell_at hT0 rfl
    have q0_3 : w4.cell? ⟨w.heap.size, 3, none⟩ = some (.complex .f32 a3 b3) := cell_at hT0 rfl
    go_wp2_with fail
    refine (HDD.out _).mono ?_
    rintro e w5 ⟨rfl, hb⟩
    have hS := hb
    have hB5 := hB4.call hS rfl
    replace hT0 := blkb hT0 hS
    replace hT1 := blkb hT1 hS
    replace HL := HL.below hS
    clear hS hB4
    have qhT0_0 : w5.cell? ⟨w.heap.size, 0, none⟩ = some (.complex .f32 a0 b0) := cell_at hT0 rfl
    have qhT0_1 : w5.cell? ⟨w.heap.size, 1, none⟩ = some (.complex .f32 a1 b1) := cell_at hT0 rfl
    have qhT0_2 : w5.cell? ⟨w.heap.size, 2, none⟩ = some (.complex .f32 a2 b2) := cell_at hT0 rfl
    have qhT0_3 : w5.cell? ⟨w.heap.size, 3, none⟩ = some (.complex .f32 a3 b3) := cell_at hT0 rfl
    have qhT1_0 : w5.cell? ⟨w.heap.size + 1, 0, none⟩ = some (.complex .f32 0 0) := cell_at hT1 rfl
    have qhT1_1 : w5.cell? ⟨w.heap.size + 1, 1, none⟩ = some (.complex .f32 0 0) := cell_at hT1 rfl
    have qhT1_2 : w5.cell? ⟨w.heap.size + 1, 2, none⟩ = some (.complex .f32 0 0) := cell_at hT1 rfl
    have qhT1_3 : w5.cell? ⟨w.heap.size + 1, 3, none⟩ = some (.complex .f32 0 0) := cell_at hT1 rfl
    clear hb
    clear qhT0_0 qhT0_1 qhT0_2 qhT0_3 qhT1_0 qhT1_1 qhT1_2 qhT1_3
    have sc0 : w5.cell? ⟨w.heap.size + 1, 0, none⟩ = some (.complex .f32 0 0) := cell_at hT1 rfl
    have sf0 : w5.frozen? ⟨w.heap.size + 1, 0, none⟩ = false := free_at hT1
    have sc1 : w5.cell? ⟨w.heap.size + 1, 1, none⟩ = some (.complex .f32 0 0) := cell_at hT1 rfl
    have sf1 : w5.frozen? ⟨w.heap.size + 1, 1, none⟩ = false := free_at hT1
    have sc2 : w5.cell? ⟨w.heap.size + 1, 2, none⟩ = some (.complex .f32 0 0) := cell_at hT1 rfl
    have sf2 : w5.frozen? ⟨w.heap.size + 1, 2, none⟩ = false := free_at hT1
    have sc3 : w5.cell? ⟨w.heap.size + 1, 3, none⟩ = some (.complex .f32 0 0) := cell_at hT1 rfl
    have sf3 : w5.frozen? ⟨w.heap.size + 1, 3, none⟩ = false := free_at hT1
    have hTs := set_blk (i := 3) (set_blk (i := 2) (set_blk (i := 1) (set_blk (i := 0) hT1 (.complex .f32 c0 d0)) (.complex .f32 c1 d1)) (.complex .f32 c2 d2)) (.complex .f32 c3 d3)
    have hbs := ((((hB5.setCell (p := ⟨w.heap.size + 1, 0, none⟩) (by show _ ≤ w.heap.size + 1; omega) (.complex .f32 c0 d0)).setCell (p := ⟨w.heap.size + 1, 1, none⟩) (by show _ ≤ w.heap.size + 1; omega) (.complex .f32 c1 d1)).setCell (p := ⟨w.heap.size + 1, 2, none⟩) (by show _ ≤ w.heap.size + 1; omega) (.complex .f32 c2 d2)).setCell (p := ⟨w.heap.size + 1, 3, none⟩) (by show _ ≤ w.heap.size + 1; omega) (.complex .f32 c3 d3))
    have HTS := Lib.hid hTs
    have HBS := Lib.hid hbs
    clear hTs hbs
    go_wp2_with fail
    exact bodyPost_ret (results_blk_tmp rfl rfl HTS.out _ Tryz.underlying84 rfl (by kernel_rfl)) rfl ⟨rfl, HBS.out⟩
theorem c45p (p : Pan) (k : Kn) (ho : p.Ok k) (by' : Int) (m : Nat) (hm : m < 4) (hby : by' % 4 = m) (hb : -100000 ≤ by' ∧ by' ≤ 100000) (w : World) : Calls Tryz.prog 45 #[.agg p.cells, .int .i64 by'] w fun en w' => en = .returned (.tuple #[.agg (p.del m).cells, .int .i64 0]) ∧ Below w.heap.size w w' := by
 have hd := c123g p by' m hm hby
 obtain ⟨a0, b0, a1, b1, a2, b2, a3, b3⟩ := p
 exact c45g a0 b0 a1 b1 a2 b2 a3 b3 _ _ _ _ _ _ _ _ by' hb (fun w => c120g a0 b0 a1 b1 a2 b2 a3 b3 k ho w) hd w
theorem c44p (p : Pan) (k : Kn) (ho : p.Ok k) (inv : Bool) (A : Option Addr) (n cap : Nat) (l : List Ly) (m : Nat) (hm : m < 4) (hn : n ≤ 16) (hv : ∀ x, x ∈ l → (0 ≤ x.t ∧ x.t ≤ 1000) ∧ 1 ≤ x.s ∧ x.s ≤ 100) (hby : (if inv then -lsum l else lsum l) % 4 = (m : Int)) (w : World) (HL : RdY w A n l) : Calls Tryz.prog 44 #[.agg p.cells, .slice A n cap, .bool inv] w fun en w' => en = .returned (.tuple #[.agg (p.del m).cells, .int .i64 0]) ∧ Below w.heap.size w w' := by
 have hd := c123g p _ m hm hby
 obtain ⟨a0, b0, a1, b1, a2, b2, a3, b3⟩ := p
 exact c44g a0 b0 a1 b1 a2 b2 a3 b3 _ _ _ _ _ _ _ _ inv A n cap l _ hn hv rfl (fun w => c120g a0 b0 a1 b1 a2 b2 a3 b3 k ho w) hd w HL
end Go.Proofs.YtdimmlljjmmdbaaGreatDoor
namespace Go.Proofs.YtdimmlljjmmdbaaGreatDoor
open Go.RowKit Go.Shelf
set_option maxHeartbeats 8000000
set_option maxRecDepth 100000
theorem heap_set93 {w : World} {b : Nat} {p : Addr} {o : Obj} (v : Value) (h : w.heap[b]? = some o) (hp : b ≠ p.block) : (w.setCell p v).heap[b]? = some o := (set_far v hp).trans h
theorem c117 {v : Nat} {k : Int} (h : Pt v k) (w : World) : Calls Tryz.prog 117 #[.float .f32 v] w fun en w' => en = .returned (.int .i64 k) ∧ w = w' := by
 obtain ⟨m, h1, h2, h3⟩ := h.mul
 have m1 : ∀ w, (binOp .mul 81 (.float .f32 1098907648) (.float .f32 v)).run Tryz.prog w = .ok (.float .f32 m) w := fun w => run_float_arith w .mul 81 .f32 _ _ _ h1
 have a1 : ∀ w, (convert 81 3 (.float .f32 m)).run Tryz.prog w = .ok (.int .i64 k) w := fun w => run_convert_float_int w 81 3 .f32 .i64 m k (by kernel_rfl) (by kernel_rfl) h2
 clear h h1 h2 h3
 go_enter Tryz.func117, Tryz.ntmps117
 go_wp2
 go_ret
 exact ⟨rfl, rfl⟩
theorem c119 {k : Int} (h : -512 ≤ k ∧ k ≤ 512) (w : World) : Calls Tryz.prog 119 #[.int .i64 k] w fun en w' => en = .returned (.float .f32 (smB k)) ∧ w = w' := by
 have b1 : ∀ w, (convert 3 81 (.int .i64 k)).run Tryz.prog w = .ok (.float .f32 (floatOfInt .f32 k)) w := fun w => run_convert_int_float w 3 81 .i64 .f32 k (by kernel_rfl) (by kernel_rfl)
 have d1 : ∀ w, (binOp .quo 81 (.float .f32 (floatOfInt .f32 k)) (.float .f32 1098907648)).run Tryz.prog w = .ok (.float .f32 (smB k)) w := fun w => run_float_arith w .quo 81 .f32 _ _ _ (sm_div h)
 generalize floatOfInt .f32 k = fk at b1 d1
 generalize smB k = sk at d1 ⊢
 clear h
 go_enter Tryz.func119, Tryz.ntmps119
 go_wp2
 go_ret
 exact ⟨rfl, rfl⟩
theorem c115 (a b c d x y : Int) (h1 : IntKind.i64.wrap (a + c) = x) (h2 : IntKind.i64.wrap (b + d) = y) (w : World) : Calls Tryz.prog 115 #[.agg #[.int .i64 a, .int .i64 b], .agg #[.int .i64 c, .int .i64 d]] w fun en w' => en = .returned (.agg #[.int .i64 x, .int .i64 y]) ∧ Below w.heap.size w w' := by
 go_enter Tryz.func115, Tryz.ntmps115
 go_wp2_with fail
 exact bodyPost_ret (results_blk rfl rfl (heap_new (by simp)) _ Tryz.underlying172 rfl (by kernel_rfl)) rfl ⟨rfl, (((Below.refl _ _).alloc (Nat.le_refl _) _).alloc (by simp) _).alloc (by simp; omega) _⟩
theorem c116 (a b c d p1 p2 p3 p4 x y : Int) (g1 : IntKind.i64.wrap (a * c) = p1) (g2 : IntKind.i64.wrap (b * d) = p2) (g3 : IntKind.i64.wrap (a * d) = p3) (g4 : IntKind.i64.wrap (b * c) = p4) (h1 : IntKind.i64.wrap (p1 - p2) = x) (h2 : IntKind.i64.wrap (p3 + p4) = y) (w : World) : Calls Tryz.prog 116 #[.agg #[.int .i64 a, .int .i64 b], .agg #[.int .i64 c, .int .i64 d]] w fun en w' => en = .returned (.agg #[.int .i64 x, .int .i64 y]) ∧ Below w.heap.size w w' := by
 go_enter Tryz.func116, Tryz.ntmps116
 go_wp2_with fail
 exact bodyPost_ret (results_blk rfl rfl (heap_new (by simp)) _ Tryz.underlying172 rfl (by kernel_rfl)) rfl ⟨rfl, (((Below.refl _ _).alloc (Nat.le_refl _) _).alloc (by simp) _).alloc (by simp; omega) _⟩
/-- a power of i -/
def pw (m : Nat) : Int × Int := if m = 0 then (1, 0) else if m = 1 then (0, 1) else if m = 2 then (-1, 0) else (0, -1)
def pwB (m : Nat) : Array Value := #[.int .i64 (pw m).1, .int .i64 (pw m).2]
theorem c116_pw {k : Nat} (h : k < 3) (w : World) : Calls Tryz.prog 116 #[.agg (pwB k), .agg #[.int .i64 0, .int .i64 1]] w fun en w' => en = .returned (.agg (pwB (k + 1))) ∧ Below w.heap.size w w' := by
 have h3 : k = 0 ∨ k = 1 ∨ k = 2 := by omega
 rcases h3 with rfl | rfl | rfl
 ·exact c116 1 0 0 1 0 0 1 0 0 1 (by kernel_rfl) (by kernel_rfl) (by kernel_rfl) (by kernel_rfl) (by kernel_rfl) (by kernel_rfl) w
 ·exact c116 0 1 0 1 0 1 0 0 (-1) 0 (by kernel_rfl) (by kernel_rfl) (by kernel_rfl) (by kernel_rfl) (by kernel_rfl) (by kernel_rfl) w
 ·exact c116 (-1) 0 0 1 0 0 (-1) 0 0 (-1) (by kernel_rfl) (by kernel_rfl) (by kernel_rfl) (by kernel_rfl) (by kernel_rfl) (by kernel_rfl) w
theorem c118 (n : Nat) (hn : n ≤ 1000) (w : World) : Calls Tryz.prog 118 #[.int .i64 (n : Nat)] w fun en w' => en = .returned (.agg (pwB (n % 4))) ∧ Below w.heap.size w w' := by
 have hm : n % 4 < 4 := Nat.mod_lt _ (by decide)
 have hmod : Int.tmod (n : Int) 4 = ((n % 4 : Nat) : Int) := by rw [Int.tmod_eq_emod_of_nonneg (by omega)]; omega
 have hmod2 : IntKind.i64.wrap (Int.tmod (n : Int) 4) = ((n % 4 : Nat) : Int) := by rw [hmod, wrapI (by omega)]
 generalize n % 4 = m at hm hmod hmod2 ⊢
 obtain ⟨w0, hW⟩ : ∃ W, W = w.alloc (Obj.cells #[.int .i64 0, .int .i64 0] 172) := ⟨_, rfl⟩
 have hT0 : w0.heap[w.heap.size]? = some (.cells #[.int .i64 0, .int .i64 0] 172 (0, 0)) := by rw [hW]; exact heap_new rfl
 have hB0 : Below w.heap.size w w0 := by rw [hW]; exact (Below.refl _ _).alloc (Nat.le_refl _) _
 have hs0 : w0.heap.size = w.heap.size + 1 := by rw [hW]; simp
 go_enter Tryz.func118, Tryz.ntmps118
 go_wp2_with fail
 rw [← hW]
 have HT1 : Hid ((w0.alloc (Obj.cells (pwB 0) 172)).heap[w.heap.size + 1]? = some (.cells (pwB 0) 172 (0, 0))) := Lib.hid (by rw [← hs0]; exact heap_new rfl)
 have HT0 : Hid ((w0.alloc (Obj.cells (pwB 0) 172)).heap[w.heap.size]? = some (.cells #[.int .i64 0, .int .i64 0] 172 (0, 0))) := Lib.hid (heap_old (by omega) hT0)
 have HB0 : Hid (Below w.heap.size w (w0.alloc (Obj.cells (pwB 0) 172))) := Lib.hid (hB0.alloc (by omega) _)
 clear hW hT0 hB0
 go_loopw [4] (fun i wr => ∃ k : Nat, k ≤ m ∧ i = .int .i64 k ∧ Hid (wr.heap[w.heap.size + 1]? = some (.cells (pwB k) 172 (0, 0))) ∧ Hid (wr.heap[w.heap.size]? = some (.cells #[.int .i64 0, .int .i64 0] 172 (0, 0))) ∧ Hid (Below w.heap.size w wr)) (fun i _ => m - (intOf i).toNat)
 case atStart => exact ⟨0, Nat.zero_le _, rfl, HT1, HT0, HB0⟩
 case round =>
  clear HT1 HT0 HB0
  obtain ⟨k, hk, rfl, R1, R0, RB⟩ := hrel
  have r1 := R1.out
  have q1_0 : wr.cell? ⟨w.heap.size + 1, 0, none⟩ = some (.int .i64 (pw k).1) := cell_at r1 rfl
  have q1_1 : wr.cell? ⟨w.heap.size + 1, 1, none⟩ = some (.int .i64 (pw k).2) := cell_at r1 rfl
  have K116 := fun (h : k < 3) => Lib.hid (fun w => c116_pw h w)
  by_cases hlt : k < m
  ·have hlt2 : (k : Int) < (m : Int) := by omega
   have hwk : IntKind.i64.wrap ((k : Int) + 1) = ((k + 1 : Nat) : Int) := by rw [wrapI (by omega)]; simp
   replace K116 := K116 (by omega)
   obtain ⟨P, hP⟩ : ∃ P, P = pwB (k + 1) := ⟨_, rfl⟩
   rw [← hP] at K116
   have K116' := K116.out
   unfold pwB at K116'
   go_wp2_with fail
   refine (K116' _).mono ?_
   rintro e w2 ⟨rfl, hb⟩
   have r2 := Lib.hid (blkb R1.out hb)
   have z2 := Lib.hid (blkb R0.out hb)
   have b2 := Lib.hid (RB.out.call hb rfl)
   clear r1 q1_0 q1_1 K116 K116' R1 R0 RB hb
   subst hP
   unfold pwB
   have qa0 : w2.cell? ⟨w.heap.size + 1, 0, none⟩ = some (.int .i64 (pw k).1) := cell_at r2.out rfl
   have qa1 : w2.cell? ⟨w.heap.size + 1, 1, none⟩ = some (.int .i64 (pw k).2) := cell_at r2.out rfl
   have fa0 : w2.frozen? ⟨w.heap.size + 1, 0, none⟩ = false := free_at r2.out
   have fa1 : w2.frozen? ⟨w.heap.size + 1, 1, none⟩ = false := free_at r2.out
   have T := Lib.hid (set_blk (i := 1) (set_blk (i := 0) r2.out (.int .i64 (pw (k + 1)).1)) (.int .i64 (pw (k + 1)).2))
   have T0 := Lib.hid (heap_set93 (p := ⟨w.heap.size + 1, 1, none⟩) (.int .i64 (pw (k + 1)).2) (heap_set93 (p := ⟨w.heap.size + 1, 0, none⟩) (.int .i64 (pw (k + 1)).1) z2.out (by show w.heap.size ≠ w.heap.size + 1; omega)) (by show w.heap.size ≠ w.heap.size + 1; omega))
   have TB := Lib.hid ((b2.out.setCell (p := ⟨w.heap.size + 1, 0, none⟩) (by show _ ≤ w.heap.size + 1; omega) (.int .i64 (pw (k + 1)).1)).setCell (p := ⟨w.heap.size + 1, 1, none⟩) (by show _ ≤ w.heap.size + 1; omega) (.int .i64 (pw (k + 1)).2))
   go_wp2_with fail
   go_roundw
   case rel => exact ⟨k + 1, by omega, by go_num, T, T0, TB⟩
   case measure => simp [intOf]; omega
  ·obtain rfl : k = m := by omega
   have z0 : wr.cell? ⟨w.heap.size, 0, none⟩ = some (.int .i64 0) := cell_at R0.out rfl
   have z1 : wr.cell? ⟨w.heap.size, 1, none⟩ = some (.int .i64 0) := cell_at R0.out rfl
   have f0 : wr.frozen? ⟨w.heap.size, 0, none⟩ = false := free_at R0.out
   have f1 : wr.frozen? ⟨w.heap.size, 1, none⟩ = false := free_at R0.out
   have T := Lib.hid (set_blk (i := 1) (set_blk (i := 0) R0.out (.int .i64 (pw k).1)) (.int .i64 (pw k).2))
   have TB := Lib.hid ((RB.out.setCell (p := ⟨w.heap.size, 0, none⟩) (by show _ ≤ w.heap.size; omega) (.int .i64 (pw k).1)).setCell (p := ⟨w.heap.size, 1, none⟩) (by show _ ≤ w.heap.size; omega) (.int .i64 (pw k).2))
   clear r1 K116
   go_wp2_with fail
   exact bodyPost_ret (results_blk rfl rfl T.out _ Tryz.underlying172 rfl (by kernel_rfl)) rfl ⟨rfl, TB.out⟩
def nI (n0 n1 n2 n3 : Int) (j : Nat) : Int := if j = 0 then n0 else if j = 1 then n1 else if j = 2 then n2 else n3
/-- the sum of the first j turned samples -/
def acc (n : Nat → Int) (k : Nat) : Nat → Int × Int
 | 0 => (0, 0)
 | j + 1 => ((acc n k j).1 + n j * (pw (3 * k * j % 4)).1, (acc n k j).2 + n j * (pw (3 * k * j % 4)).2)
theorem pw_or (m : Nat) : pw m = (1, 0) ∨ pw m = (0, 1) ∨ pw m = (-1, 0) ∨ pw m = (0, -1) := by
 unfold pw
 split
 ·simp
 split
 ·simp
 split
 ·simp
 ·simp
theorem turn_le {x : Int} (h : -128 ≤ x ∧ x ≤ 128) (m : Nat) : (-128 ≤ x * (pw m).1 ∧ x * (pw m).1 ≤ 128) ∧ (-128 ≤ x * (pw m).2 ∧ x * (pw m).2 ≤ 128) := by
 rcases pw_or m with e | e | e | e <;> rw [e] <;> simp <;> omega
theorem acc_le {n : Nat → Int} (h : ∀ j, -128 ≤ n j ∧ n j ≤ 128) (k : Nat) : ∀ j : Nat, (-128 * (j : Int) ≤ (acc n k j).1 ∧ (acc n k j).1 ≤ 128 * j) ∧ (-128 * (j : Int) ≤ (acc n k j).2 ∧ (acc n k j).2 ≤ 128 * j)
 | 0 => by simp [acc]
 | j + 1 => by
  have ih := acc_le h k j
  have := turn_le (h j) (3 * k * j % 4)
  simp only [acc]
  omega
def accB (n : Nat → Int) (k j : Nat) : Array Value := #[.int .i64 (acc n k j).1, .int .i64 (acc n k j).2]
theorem accB_eq (n : Nat → Int) (k j : Nat) : accB n k j = #[.int .i64 (acc n k j).1, .int .i64 (acc n k j).2] := rfl
theorem c116_t {x : Int} (h : -128 ≤ x ∧ x ≤ 128) (m : Nat) (w : World) : Calls Tryz.prog 116 #[.agg #[.int .i64 x, .int .i64 0], .agg #[.int .i64 (pw m).1, .int .i64 (pw m).2]] w fun en w' => en = .returned (.agg #[.int .i64 (x * (pw m).1), .int .i64 (x * (pw m).2)]) ∧ Below w.heap.size w w' := by
 have := turn_le h m
 generalize (pw m).1 = p at this ⊢
 generalize (pw m).2 = q at this ⊢
 exact c116 x 0 p q (x * p) 0 (x * q) 0 _ _ (wrapI (by omega)) (by rw [Int.zero_mul]; rfl) (wrapI (by omega)) (by rw [Int.zero_mul]; rfl) (by rw [wrapI (by omega)]; omega) (by rw [wrapI (by omega)]; omega) w
theorem c115_t {n : Nat → Int} (h : ∀ j, -128 ≤ n j ∧ n j ≤ 128) (k j : Nat) (hj : j < 4) (w : World) : Calls Tryz.prog 115 #[.agg #[.int .i64 (acc n k j).1, .int .i64 (acc n k j).2], .agg #[.int .i64 (n j * (pw (3 * k * j % 4)).1), .int .i64 (n j * (pw (3 * k * j % 4)).2)]] w fun en w' => en = .returned (.agg #[.int .i64 (acc n k (j + 1)).1, .int .i64 (acc n k (j + 1)).2]) ∧ Below w.heap.size w w' := by
 have h1 := acc_le h k j
 have h2 := turn_le (h j) (3 * k * j % 4)
 exact c115 _ _ _ _ _ _ (by rw [wrapI (by omega)]; rfl) (by rw [wrapI (by omega)]; rfl) w
/-- the panel after k rounds -/
def trC (n : Nat → Int) (k j : Nat) : Value := if j < k then .complex .f32 (smB (acc n j 4).1) (smB (acc n j 4).2) else .complex .f32 0 0
def trB (n : Nat → Int) (k : Nat) : Array Value := #[trC n k 0, trC n k 1, trC n k 2, trC n k 3]
theorem trB_step {n : Nat → Int} {k : Nat} (h : k < 4) : (trB n k).setIfInBounds k (.complex .f32 (smB (acc n k 4).1) (smB (acc n k 4).2)) = trB n (k + 1) := by
 rcases m4 h with rfl | rfl | rfl | rfl <;> rfl
def trP (n : Nat → Int) : Pan := ⟨smB (acc n 0 4).1, smB (acc n 0 4).2, smB (acc n 1 4).1, smB (acc n 1 4).2, smB (acc n 2 4).1, smB (acc n 2 4).2, smB (acc n 3 4).1, smB (acc n 3 4).2⟩
def trK (n : Nat → Int) : Kn := ⟨(acc n 0 4).1, (acc n 0 4).2, (acc n 1 4).1, (acc n 1 4).2, (acc n 2 4).1, (acc n 2 4).2, (acc n 3 4).1, (acc n 3 4).2⟩
theorem tr_ok {n : Nat → Int} (h : ∀ j, -128 ≤ n j ∧ n j ≤ 128) : (trP n).Ok (trK n) := by
 have q := fun k => acc_le h k 4
 exact ⟨⟨.of (by have := q 0; omega), .of (by have := q 0; omega)⟩, ⟨.of (by have := q 1; omega), .of (by have := q 1; omega)⟩, ⟨.of (by have := q 2; omega), .of (by have := q 2; omega)⟩, ⟨.of (by have := q 3; omega), .of (by have := q 3; omega)⟩⟩
theorem c43g (v0 v1 v2 v3 : Nat) (n : Nat → Int) (h : ∀ j, -128 ≤ n j ∧ n j ≤ 128) (p0 : Pt v0 (n 0)) (p1 : Pt v1 (n 1)) (p2 : Pt v2 (n 2)) (p3 : Pt v3 (n 3)) (w : World) : Calls Tryz.prog 43 #[.agg #[.float .f32 v0, .float .f32 v1, .float .f32 v2, .float .f32 v3]] w fun en w' => en = .returned (.agg (trP n).cells) ∧ Below w.heap.size w w' := by
 obtain ⟨w0, hW⟩ : ∃ W, W = ((w.alloc (Obj.cells #[.float .f32 v0, .float .f32 v1, .float .f32 v2, .float .f32 v3] 82)).alloc (Obj.cells #[.complex .f32 0 0, .complex .f32 0 0, .complex .f32 0 0, .complex .f32 0 0] 84)).alloc (Obj.cells #[.complex .f32 0 0, .complex .f32 0 0, .complex .f32 0 0, .complex .f32 0 0] 84) := ⟨_, rfl⟩
 have HV0 : Hid (w0.heap[w.heap.size]? = some (.cells #[.float .f32 v0, .float .f32 v1, .float .f32 v2, .float .f32 v3] 82 (0, 0))) := Lib.hid (by rw [hW]; exact heap_old (by simp <;> omega) (heap_old (by simp <;> omega) (heap_new rfl)))
 have HR0 : Hid (w0.heap[w.heap.size + 1]? = some (.cells #[.complex .f32 0 0, .complex .f32 0 0, .complex .f32 0 0, .complex .f32 0 0] 84 (0, 0))) := Lib.hid (by rw [hW]; exact heap_old (by simp) (heap_new (by simp)))
 have HP0 : Hid (w0.heap[w.heap.size + 1 + 1]? = some (.cells (trB n 0) 84 (0, 0))) := Lib.hid (by rw [hW]; exact heap_new (by simp))
 have HB0 : Hid (Below w.heap.size w w0) := Lib.hid (by rw [hW]; exact ((Below.refl _ _).alloc (Nat.le_refl _) _ |>.alloc (by simp) _).alloc (by simp; omega) _)
 have HPT : Hid (∀ j, j < 4 → Pt (if j = 0 then v0 else if j = 1 then v1 else if j = 2 then v2 else v3) (n j)) := Lib.hid (fun j hj => by rcases m4 hj with rfl | rfl | rfl | rfl <;> assumption)
 have HN := Lib.hid h
 clear h p0 p1 p2 p3
 go_enter Tryz.func43, Tryz.ntmps43
 go_wp2_with fail
 rw [← hW]
 clear hW
 go_loopw [4] (fun i wr => ∃ k : Nat, k ≤ 4 ∧ i = .int .i64 k ∧ Hid (wr.heap[w.heap.size]? = some (.cells #[.float .f32 v0, .float .f32 v1, .float .f32 v2, .float .f32 v3] 82 (0, 0))) ∧ Hid (wr.heap[w.heap.size + 1]? = some (.cells #[.complex .f32 0 0, .complex .f32 0 0, .complex .f32 0 0, .complex .f32 0 0] 84 (0, 0))) ∧ Hid (wr.heap[w.heap.size + 1 + 1]? = some (.cells (trB n k) 84 (0, 0))) ∧ Hid (Below w.heap.size w wr)) (fun i _ => 4 - (intOf i).toNat)
 case atStart => exact ⟨0, Nat.zero_le _, rfl, HV0, HR0, HP0, HB0⟩
 case round =>
  clear HV0 HR0 HP0 HB0
  obtain ⟨k, hk, rfl, RV, RR, RP, RB⟩ := hrel
  obtain ⟨wo, hwo⟩ : ∃ W, W = wr := ⟨_, rfl⟩
  subst hwo
  have hwk : IntKind.i64.wrap ((k : Int) + 1) = ((k + 1 : Nat) : Int) := by rw [wrapI (by omega)]; simp
  by_cases hlt : k < 4
  ·have hlt2 : (k : Int) < 4 := by omega
   have hk0 : (0 : Int) ≤ (k : Int) := by omega
   obtain ⟨w1, hW⟩ : ∃ W, W = wo.alloc (Obj.cells #[.int .i64 0, .int .i64 0] 172) := ⟨_, rfl⟩
   have A5 : Hid (w1.heap[wo.heap.size]? = some (.cells (accB n k 0) 172 (0, 0))) := Lib.hid (by rw [hW]; exact heap_new rfl)
   have hbw : Below wo.heap.size wo w1 := by rw [hW]; exact (Below.refl _ _).alloc (Nat.le_refl _) _
   have AW : Hid (Below wo.heap.size wo w1) := Lib.hid hbw
   clear hbw
   go_wp2_with fail
   rw [← hW]
   clear hW
   obtain ⟨b5, hb5⟩ : ∃ b, b = wo.heap.size := ⟨_, rfl⟩
   rw [← hb5] at A5 AW ⊢
   have HB5 := Lib.hid hb5
   clear hb5
   go_loopw [6] (fun i wq => ∃ j : Nat, j ≤ 4 ∧ i = .int .i64 j ∧ Hid (wq.heap[b5]? = some (.cells (accB n k j) 172 (0, 0))) ∧ Hid (Below b5 wo wq)) (fun i _ => 4 - (intOf i).toNat)
   case atStart => exact ⟨0, Nat.zero_le _, rfl, A5, AW⟩
   case round =>
    clear A5 AW
    obtain ⟨j, hj, rfl, R5, RW⟩ := hrel
    obtain ⟨wq, hwq⟩ : ∃ W, W = wr := ⟨_, rfl⟩
    subst hwq
    have hwj : IntKind.i64.wrap ((j : Int) + 1) = ((j + 1 : Nat) : Int) := by rw [wrapI (by omega)]; simp
    have q5_0 : wq.cell? ⟨b5, 0, none⟩ = some (.int .i64 (acc n k j).1) := cell_at R5.out rfl
    have q5_1 : wq.cell? ⟨b5, 1, none⟩ = some (.int .i64 (acc n k j).2) := cell_at R5.out rfl
    have hz5 := cell_lt q5_0
    have hbv : w.heap.size < b5 := by have := (Array.getElem?_eq_some_iff.1 RV.out).1; have := HB5.out; omega
    have hv5 : wq.heap[w.heap.size]? = some (.cells #[.float .f32 v0, .float .f32 v1, .float .f32 v2, .float .f32 v3] 82 (0, 0)) := (RW.out.block _ hbv).trans RV.out
    by_cases hltj : j < 4
    ·have hltj2 : (j : Int) < 4 := by omega
     have hj0 : (0 : Int) ≤ (j : Int) := by omega
     have hpt := HPT.out j hltj
     have K116 := Lib.hid (c116_t (HN.out j) (3 * k * j % 4))
     have K115 := Lib.hid (c115_t HN.out k j hltj)
     obtain ⟨vj, hvj⟩ : ∃ v, v = (if j = 0 then v0 else if j = 1 then v1 else if j = 2 then v2 else v3) := ⟨_, rfl⟩
     rw [← hvj] at hpt
     have hqv : wq.cell? ⟨w.heap.size, j, none⟩ = some (.float .f32 vj) := by
      rw [hvj]
      rcases m4 hltj with rfl | rfl | rfl | rfl <;> exact cell_at hv5 rfl
     have hzv := cell_lt hqv
     have K117 := Lib.hid (c117 hpt)
     have hkj : k * j ≤ 3 * 3 := Nat.mul_le_mul (by omega) (by omega)
     obtain ⟨m, hm⟩ : ∃ m, m = 3 * k * j := ⟨_, rfl⟩
     have hm2 : m ≤ 27 := by rw [hm, Nat.mul_assoc]; omega
     have K118 := Lib.hid (c118 m (by omega))
     rw [← hm] at K116 K115
     have e1 : IntKind.i64.wrap (3 * (k : Int)) = ((3 * k : Nat) : Int) := by rw [wrapI (by omega)]; simp
     have e2 : IntKind.i64.wrap (((3 * k : Nat) : Int) * (j : Int)) = (m : Int) := by
      have : ((3 * k : Nat) : Int) * (j : Int) = (m : Int) := by rw [hm]; simp
      rw [this, wrapI (by omega)]
     generalize 3 * k = k3 at e1 e2
     clear hvj hpt hm hkj hv5
     have HAC : Hid (accB n k (j + 1) = #[.int .i64 (acc n k (j + 1)).1, .int .i64 (acc n k (j + 1)).2]) := Lib.hid rfl
     generalize (acc n k (j + 1)).1 = x1 at K115 HAC
     generalize (acc n k (j + 1)).2 = y1 at K115 HAC
     have HBL : Hid (accB n k j = #[.int .i64 (acc n k j).1, .int .i64 (acc n k j).2]) := Lib.hid rfl
     rw [HBL.out] at R5
     generalize (acc n k j).1 = x0 at K115 q5_0 R5
     generalize (acc n k j).2 = y0 at K115 q5_1 R5
     generalize n j * (pw (m % 4)).1 = tx at K115 K116
     generalize n j * (pw (m % 4)).2 = ty at K115 K116
     have K118' := K118.out
     unfold pwB at K118'
     generalize (pw (m % 4)).1 = px at K118' K116
     generalize (pw (m % 4)).2 = py at K118' K116
     have K118h := Lib.hid K118'
     generalize n j = nj at K116 K117
     clear HBL K118 K118' hm2
     go_wp2_with fail
     refine wp_region_planL [(0, true), (1, true), (2, true), (3, true), (6, true), (7, true), (8, true), (9, true), (4, false), (5, true), (10, false), (11, false), (12, false)] wq.heap.size 13 (by kernel_rfl) (by kernel_rfl) (Nat.le_refl _) (fun _ _ d _ _ h => by cases d <;> exact h) ?_
     have hC : Below wq.heap.size wq wq := Below.refl _ _
     repeat (first | (refine wpPlanLA_skip _ rfl (by rfl) ?_; simp only [Act.put, List.setIfInBounds_toArray, List.set_cons_zero, List.set_cons_succ]) | (refine wpPlanLA_soft _ ?_ rfl (by rfl) ?_ ?_; rotate_left; (intro wq hq hcq; go_simp; first | exact rfl | exact ⟨rfl, rfl⟩); simp only [Act.put, List.setIfInBounds_toArray, List.set_cons_zero, List.set_cons_succ]))
     refine wpPlanLA_hard _ rfl (by rfl) (fun x1w hS K hK => ?_)
     replace hC := hC.call hS rfl
     clear hS
     go_simp
     refine (K117.out _).mono ?_
     rintro e w' ⟨rfl, rfl⟩
     refine hK _ _ hC ?_
     clear hK K
     try simp only [Act.put, List.setIfInBounds_toArray, List.set_cons_zero, List.set_cons_succ]
     repeat (first | (refine wpPlanLA_skip _ rfl (by rfl) ?_; simp only [Act.put, List.setIfInBounds_toArray, List.set_cons_zero, List.set_cons_succ]) | (refine wpPlanLA_soft _ ?_ rfl (by rfl) ?_ ?_; rotate_left; (intro wq hq hcq; go_simp; first | exact rfl | exact ⟨rfl, rfl⟩); simp only [Act.put, List.setIfInBounds_toArray, List.set_cons_zero, List.set_cons_succ]))
     refine wpPlanLA_hard _ rfl (by rfl) (fun x2w hS K hK => ?_)
     replace hC := hC.call hS rfl
     clear hS
     go_simp
     refine (K118h.out _).mono ?_
     rintro e x3w ⟨rfl, hb⟩
     replace hC := hC.call hb rfl
     clear hb
     refine hK _ _ hC ?_
     clear hK K
     try simp only [Act.put, List.setIfInBounds_toArray, List.set_cons_zero, List.set_cons_succ]
     refine wpPlanLA_hard _ rfl (by rfl) (fun x4w hS K hK => ?_)
     replace hC := hC.call hS rfl
     clear hS
     go_simp
     refine (K116.out _).mono ?_
     rintro e x5w ⟨rfl, hb⟩
     replace hC := hC.call hb rfl
     clear hb
     refine hK _ _ hC ?_
     clear hK K
     try simp only [Act.put, List.setIfInBounds_toArray, List.set_cons_zero, List.set_cons_succ]
     refine wpPlanLA_hard _ rfl (by rfl) (fun x6w hS K hK => ?_)
     replace hC := hC.call hS rfl
     clear hS
     go_simp
     refine (K115.out _).mono ?_
     rintro e x7w ⟨rfl, hb⟩
     replace hC := hC.call hb rfl
     clear hb
     refine hK _ _ hC ?_
     clear hK K
     try simp only [Act.put, List.setIfInBounds_toArray, List.set_cons_zero, List.set_cons_succ]
     refine wpPlanLA_last _ rfl (by rfl) (fun x8w hS K hK => ?_)
     replace hC := hC.call hS rfl
     clear hS
     have h58 := blkb R5.out hC
     refine wp_store_blk 172 _ _ rfl b5 _ rfl rfl h58 ?s1 ?s2 ?s3 ?_
     case s1 => rfl
     case s2 => kernel_rfl
     case s3 => simp [Value.oneCell']
     intro x9w hX6 hg6 hs6
     refine hK _ _ (fun xaw hS8 => ?_)
     clear hK K
     have N5 : Hid (xaw.heap[b5]? = some (.cells (accB n k (j + 1)) 172 (0, 0))) := Lib.hid (by rw [HAC.out]; exact blkb hX6 hS8)
     have hbb : b5 ≤ wq.heap.size := Nat.le_of_lt hz5
     have hD8 := RW.out.trans (hC.mono hbb)
     have hz8 : b5 ≤ x8w.heap.size := Nat.le_trans hbb hC.size
     have hz9 : b5 ≤ x9w.heap.size := by first | omega | (have := hg6.size; omega)
     have NW : Hid (Below b5 wo xaw) := Lib.hid ((hD8.grown hg6 hz8 (fun g hg => by cases hg; exact Nat.le_refl _)).trans (hS8.mono hz9))
     clear hX6 hg6 hs6 hS8 h58 hC hqv hzv R5 RW q5_0 q5_1 hD8 hz8 hz9
     go_wp2
     go_roundw
     case rel => exact ⟨j + 1, by omega, by go_num, N5, NW⟩
     case measure => simp [intOf]; omega
    ·obtain rfl : j = 4 := by omega
     have hb3 : w.heap.size + 1 + 1 < b5 := by have := (Array.getElem?_eq_some_iff.1 RP.out).1; have := HB5.out; omega
     have hp5 : wq.heap[w.heap.size + 1 + 1]? = some (.cells (trB n k) 84 (0, 0)) := (RW.out.block _ hb3).trans RP.out
     have hr5 : wq.heap[w.heap.size + 1]? = some (.cells #[.complex .f32 0 0, .complex .f32 0 0, .complex .f32 0 0, .complex .f32 0 0] 84 (0, 0)) := (RW.out.block _ (by omega)).trans RR.out
     have hBq : Below w.heap.size w wq := RB.out.call (by have h := RW.out; rw [HB5.out] at h; exact h) rfl
     have hle := acc_le HN.out k 4
     have K1 := Lib.hid (c119 (k := (acc n k 4).1) (by omega))
     have K2 := Lib.hid (c119 (k := (acc n k 4).2) (by omega))
     obtain ⟨U, hU⟩ : ∃ U, U = Value.complex .f32 (smB (acc n k 4).1) (smB (acc n k 4).2) := ⟨_, rfl⟩
     have HST : Hid ((trB n k).setIfInBounds k U = trB n (k + 1)) := Lib.hid (by rw [hU]; exact trB_step hlt)
     clear hle
     generalize (acc n k 4).1 = x0 at K1 q5_0 hU
     generalize (acc n k 4).2 = y0 at K2 q5_1 hU
     generalize smB x0 = X0 at K1 hU
     generalize smB y0 = Y0 at K2 hU
     go_wp2_with fail
     refine wp_region_planL [(0, true), (1, true), (2, true), (4, true), (5, true), (3, false), (6, false), (7, true), (8, true)] wq.heap.size 9 (by kernel_rfl) (by kernel_rfl) (Nat.le_refl _) (fun _ _ d _ _ h => by cases d <;> exact h) ?_
     have hC : Below wq.heap.size wq wq := Below.refl _ _
     have hzp := (Array.getElem?_eq_some_iff.1 hp5).1
     repeat (first | (refine wpPlanLA_skip _ rfl (by rfl) ?_; simp only [Act.put, List.setIfInBounds_toArray, List.set_cons_zero, List.set_cons_succ]) | (refine wpPlanLA_soft _ ?_ rfl (by rfl) ?_ ?_; rotate_left; (intro wq hq hcq; go_simp; first | exact rfl | exact ⟨rfl, rfl⟩); simp only [Act.put, List.setIfInBounds_toArray, List.set_cons_zero, List.set_cons_succ]))
     refine wpPlanLA_hard _ rfl (by rfl) (fun x1w hS K hK => ?_)
     replace hC := hC.call hS rfl
     clear hS
     go_simp
     refine (K1.out _).mono ?_
     rintro e w' ⟨rfl, rfl⟩
     refine hK _ _ hC ?_
     clear hK K
     try simp only [Act.put, List.setIfInBounds_toArray, List.set_cons_zero, List.set_cons_succ]
     repeat (first | (refine wpPlanLA_skip _ rfl (by rfl) ?_; simp only [Act.put, List.setIfInBounds_toArray, List.set_cons_zero, List.set_cons_succ]) | (refine wpPlanLA_soft _ ?_ rfl (by rfl) ?_ ?_; rotate_left; (intro wq hq hcq; go_simp; first | exact rfl | exact ⟨rfl, rfl⟩); simp only [Act.put, List.setIfInBounds_toArray, List.set_cons_zero, List.set_cons_succ]))
     refine wpPlanLA_hard _ rfl (by rfl) (fun x2w hS K hK => ?_)
     replace hC := hC.call hS rfl
     clear hS
     go_simp
     refine (K2.out _).mono ?_
     rintro e w' ⟨rfl, rfl⟩
     refine hK _ _ hC ?_
     clear hK K
     try simp only [Act.put, List.setIfInBounds_toArray, List.set_cons_zero, List.set_cons_succ]
     repeat (first | (refine wpPlanLA_skip _ rfl (by rfl) ?_; simp only [Act.put, List.setIfInBounds_toArray, List.set_cons_zero, List.set_cons_succ]) | (refine wpPlanLA_soft _ ?_ rfl (by rfl) ?_ ?_; rotate_left; (intro wq hq hcq; go_simp; first | exact rfl | exact ⟨rfl, rfl⟩); simp only [Act.put, List.setIfInBounds_toArray, List.set_cons_zero, List.set_cons_succ]))
     refine wpPlanLA_last _ rfl (by rfl) (fun x8w hS K hK => ?_)
     replace hC := hC.call hS rfl
     clear hS
     have h38 := blkb hp5 hC
     have qc : ∃ o, x8w.cell? ⟨w.heap.size + 1 + 1, k, none⟩ = some o := by
      rcases m4 hlt with rfl | rfl | rfl | rfl <;> exact ⟨_, cell_at h38 rfl⟩
     obtain ⟨o, qc⟩ := qc
     have qf : x8w.frozen? ⟨w.heap.size + 1 + 1, k, none⟩ = false := free_at h38
     have zq := cell_lt qc
     go_simp
     rw [← hU]
     refine hK _ _ (fun xaw hS8 => ?_)
     clear hK K
     have NP : Hid (xaw.heap[w.heap.size + 1 + 1]? = some (.cells (trB n (k + 1)) 84 (0, 0))) := Lib.hid (by
      rw [← HST.out]
      exact blkb (set_blk (i := k) h38 U) hS8)
     have NV := Lib.hid (blkb (heap_set93 (p := ⟨w.heap.size + 1 + 1, k, none⟩) U (blkb hv5 hC) (by show w.heap.size ≠ w.heap.size + 1 + 1; omega)) hS8)
     have NR := Lib.hid (blkb (heap_set93 (p := ⟨w.heap.size + 1 + 1, k, none⟩) U (blkb hr5 hC) (by show w.heap.size + 1 ≠ w.heap.size + 1 + 1; omega)) hS8)
     have NB : Hid (Below w.heap.size w xaw) := Lib.hid (((hBq.call hC rfl).setCell (p := ⟨w.heap.size + 1 + 1, k, none⟩) (by show _ ≤ w.heap.size + 1 + 1; omega) U).call hS8 rfl)
     clear qc qf zq h38 hC hS8 hp5 hr5 hv5 q5_0 q5_1 hzp
     go_wp2
     go_roundw
     case rel => exact ⟨k + 1, by omega, by go_num, NV, NR, NP, NB⟩
     case measure => simp [intOf]; omega
  ·obtain rfl : k = 4 := by omega
   clear hlt hk hwk
   have c0 : wo.cell? ⟨w.heap.size + 1 + 1, 0, none⟩ = some (.complex .f32 (smB (acc n 0 4).1) (smB (acc n 0 4).2)) := cell_at RP.out rfl
   have c1 : wo.cell? ⟨w.heap.size + 1 + 1, 1, none⟩ = some (.complex .f32 (smB (acc n 1 4).1) (smB (acc n 1 4).2)) := cell_at RP.out rfl
   have c2 : wo.cell? ⟨w.heap.size + 1 + 1, 2, none⟩ = some (.complex .f32 (smB (acc n 2 4).1) (smB (acc n 2 4).2)) := cell_at RP.out rfl
   have c3 : wo.cell? ⟨w.heap.size + 1 + 1, 3, none⟩ = some (.complex .f32 (smB (acc n 3 4).1) (smB (acc n 3 4).2)) := cell_at RP.out rfl
   have z0 : wo.cell? ⟨w.heap.size + 1, 0, none⟩ = some (.complex .f32 0 0) := cell_at RR.out rfl
   have f0 : wo.frozen? ⟨w.heap.size + 1, 0, none⟩ = false := free_at RR.out
   have z1 : wo.cell? ⟨w.heap.size + 1, 1, none⟩ = some (.complex .f32 0 0) := cell_at RR.out rfl
   have f1 : wo.frozen? ⟨w.heap.size + 1, 1, none⟩ = false := free_at RR.out
   have z2 : wo.cell? ⟨w.heap.size + 1, 2, none⟩ = some (.complex .f32 0 0) := cell_at RR.out rfl
   have f2 : wo.frozen? ⟨w.heap.size + 1, 2, none⟩ = false := free_at RR.out
   have z3 : wo.cell? ⟨w.heap.size + 1, 3, none⟩ = some (.complex .f32 0 0) := cell_at RR.out rfl
   have f3 : wo.frozen? ⟨w.heap.size + 1, 3, none⟩ = false := free_at RR.out
   have HTF := Lib.hid (set_blk (i := 3) (set_blk (i := 2) (set_blk (i := 1) (set_blk (i := 0) RR.out (.complex .f32 (smB (acc n 0 4).1) (smB (acc n 0 4).2))) (.complex .f32 (smB (acc n 1 4).1) (smB (acc n 1 4).2))) (.complex .f32 (smB (acc n 2 4).1) (smB (acc n 2 4).2))) (.complex .f32 (smB (acc n 3 4).1) (smB (acc n 3 4).2)))
   have HBF := Lib.hid ((((RB.out.setCell (p := ⟨w.heap.size + 1, 0, none⟩) (by show _ ≤ w.heap.size + 1; omega) (.complex .f32 (smB (acc n 0 4).1) (smB (acc n 0 4).2))).setCell (p := ⟨w.heap.size + 1, 1, none⟩) (by show _ ≤ w.heap.size + 1; omega) (.complex .f32 (smB (acc n 1 4).1) (smB (acc n 1 4).2))).setCell (p := ⟨w.heap.size + 1, 2, none⟩) (by show _ ≤ w.heap.size + 1; omega) (.complex .f32 (smB (acc n 2 4).1) (smB (acc n 2 4).2))).setCell (p := ⟨w.heap.size + 1, 3, none⟩) (by show _ ≤ w.heap.size + 1; omega) (.complex .f32 (smB (acc n 3 4).1) (smB (acc n 3 4).2)))
   go_wp2_with fail
   exact bodyPost_ret (results_blk rfl rfl HTF.out _ Tryz.underlying84 rfl (by kernel_rfl)) rfl ⟨rfl, HBF.out⟩
end Go.Proofs.YtdimmlljjmmdbaaGreatDoor
namespace Go.Proofs.YtdimmlljjmmdbaaGreatDoor
open Go.RowKit Go.Shelf
set_option maxHeartbeats 8000000
set_option maxRecDepth 100000
theorem info80 : (Tryz.prog.info? 80).map (fun i => (i.zero, i.size, i.bytes)) = some (some (.agg #[.int .i64 0, .int .i64 0]), 2, 16) := by kernel_rfl
theorem wp_appY {o : Oper} {a : Act} {w : World} {K : Act → World → Prop} {Q : Exit → Act → World → Prop} (s x : Operand)
  (ho : o.op = .call { callee := .builtin .append, args := #[s, x], argTypes := #[76, 76] })
  (base : Nat) (v : Value) (n : Nat) (xs ys : List Ly) (hs : a.eval s = v) (hown : w.ownsRow base 80 2 v n (xs.flatMap Ly.enc))
  (ad : Addr) (m c : Nat) (hx : a.eval x = .slice (some ad) m c) (H : RdY w (some ad) m ys) (hnm : n + m ≤ 1000000) (hbase : base ≤ w.heap.size)
  (h : ∀ v' w', w'.ownsRow base 80 2 v' (n + m) ((xs ++ ys).flatMap Ly.enc) → Below base w w' → K (a.put o.dst v') w') : o.wp Tryz.prog a w K Q := by
 obtain ⟨i0, hi, hz0, hz1, hz2⟩ := info_parts info80
 have e : (xs ++ ys).flatMap Ly.enc = xs.flatMap Ly.enc ++ ys.flatMap Ly.enc := by simp
 refine wp_append_own w s x 76 ho base 80 i0 (.agg #[.int .i64 0, .int .i64 0]) 2 16 Tryz.underlying76 hi hz0 hz1 hz2 rfl (by decide) v n _ hs hown ad m c _ hx (by rw [H.1]) (RdS.news H (by omega)) ?_ (by unfold maxLen; omega) ?_ hbase (fun v' w' h2 h3 _ => h v' w' (by rw [e]; exact h2) ((Below.refl _ _).grown h3 hbase (own_base3 hown)))
 ·intro u hu; simp [Ly.enc] at hu; obtain ⟨q, _, rfl | rfl⟩ := hu <;> rfl
 ·omega
theorem wpList_appY {ops : Array Oper} {rest : List Oper} {o : Oper} {a : Act} {w : World} {Q : Exit → Act → World → Prop} (hgd : o.guard = none) (s x : Operand)
  (ho : o.op = .call { callee := .builtin .append, args := #[s, x], argTypes := #[76, 76] })
  (base : Nat) (v : Value) (n : Nat) (xs ys : List Ly) (hs : a.eval s = v) (hown : w.ownsRow base 80 2 v n (xs.flatMap Ly.enc))
  (ad : Addr) (m c : Nat) (hx : a.eval x = .slice (some ad) m c) (H : RdY w (some ad) m ys) (hnm : n + m ≤ 1000000) (hbase : base ≤ w.heap.size)
  (h : ∀ v' w', w'.ownsRow base 80 2 v' (n + m) ((xs ++ ys).flatMap Ly.enc) → Below base w w' → wpList Tryz.prog ops Q rest (a.put o.dst v') w') : wpList Tryz.prog ops Q (o :: rest) a w := by
 refine wpList_plain hgd fun K hK => ?_
 exact wp_appY s x ho base v n xs ys hs hown ad m c hx H hnm hbase (fun v' w' h1 h2 => hK _ _ (h v' w' h1 h2))
theorem rdY1 (w : World) (x : Ly) : RdY (w.alloc (Obj.cells #[.int .i64 x.t, .int .i64 x.s] 80)) (some ⟨w.heap.size, 0, none⟩) 1 [x] := RdS.of_new (cs := x.enc) rfl rfl
/-- a copy: an append to an empty row -/
theorem wp_copyY {o : Oper} {a : Act} {w : World} {K : Act → World → Prop} {Q : Exit → Act → World → Prop} (s x : Operand)
  (ho : o.op = .call { callee := .builtin .append, args := #[s, x], argTypes := #[76, 76] }) (g : Nat) (hN : w.heap[g]? = some (.cells #[] 80 (0, 0)))
  (hs : a.eval s = .slice (some ⟨g, 0, none⟩) 0 0) (A : Option Addr) (m c : Nat) (hx : a.eval x = .slice A m c) (l : List Ly) (H : RdY w A m l) (hm : m ≤ 1000000)
  (h : ∀ X xc w', RdY w' X m l → Below w.heap.size w w' → K (a.put o.dst (.slice X m xc)) w') : o.wp Tryz.prog a w K Q := by
 obtain ⟨i0, hi, hz0, hz1, hz2⟩ := info_parts info80
 by_cases hm0 : m = 0
 ·subst hm0
  have hl0 : l = [] := List.eq_nil_of_length_eq_zero H.len
  subst hl0
  have hown : w.ownsRow 0 80 2 (.slice (some ⟨g, 0, none⟩) 0 0) 0 [] := ⟨rfl, .inr ⟨g, 0, #[], rfl, Nat.zero_le _, hN, Nat.le_refl _, by unfold maxLen; omega, rfl, rfl⟩⟩
  have hr : (Builtin.append_ #[76, 76] o.type #[.slice (some ⟨g, 0, none⟩) 0 0, .slice A 0 c]).run Tryz.prog w = .ok (.slice (some ⟨g, 0, none⟩) 0 0) w := by
   cases A with
   | none => exact run_app_none3 76 o.type 80 i0 Tryz.underlying76 hi _ 0 _ hown c
   | some ad =>
    have := run_append_room_cells (P := Tryz.prog) w 76 o.type 80 i0 Tryz.underlying76 hi g 0 0 0 ad 0 c [] (by simp) (by simp) (by simp) (by omega) (by simp) (by simp)
    simpa [World.setCells] using this
  have hk := h (some ⟨g, 0, none⟩) 0 w ⟨rfl, fun h => absurd h (Nat.lt_irrefl _)⟩ (Below.refl _ _)
  unfold Oper.wp
  simp only [execOp, ho, resolve, invoke, builtin, Sem.run_bind, Sem.run_pure, Result.andThen_ok, List.map_toArray, List.map_cons, List.map_nil, hs, hx, hr]
  exact hk
 ·cases A with
  | none => exact absurd (RdS.none0 H) hm0
  | some ad =>
   obtain ⟨v', w', hrun, r1, r2⟩ := run_append_arg_grows (P := Tryz.prog) w 76 o.type 80 i0 (.agg #[.int .i64 0, .int .i64 0]) 2 16 Tryz.underlying76 hi hz0 hz1 hz2 rfl (by decide) ⟨g, 0, none⟩ 0 0 [] rfl (fun j u hu => by simp at hu) ad m c (l.flatMap Ly.enc) (by rw [H.1]) (RdS.news H (by decide)) (by omega) (by unfold maxLen; omega) (by omega)
   have hb : Below w.heap.size w w' := (Below.refl _ _).grown r2 (Nat.le_refl _) (fun g hg => by cases hg)
   rw [Nat.zero_add, List.nil_append] at r1
   obtain ⟨X, xc, rfl, hX, hxc, _⟩ := own_form r1
   have hk := h X xc w' hX hb
   unfold Oper.wp
   simp only [execOp, ho, resolve, invoke, builtin, Sem.run_bind, Sem.run_pure, Result.andThen_ok, List.map_toArray, List.map_cons, List.map_nil, hs, hx, hrun]
   exact hk
end Go.Proofs.YtdimmlljjmmdbaaGreatDoor
