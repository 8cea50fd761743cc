/- A part of the proofs about chapter 7 (image): contracts of functions and plain laws (V95). -/
import Derived.Test.YtdimmlljjmmdbaaGreatDoorZ06a
import Derived.Test.YtdimmlljjmmdbaaGreatDoorZ06j
set_option linter.all false
namespace Go.Proofs.YtdimmlljjmmdbaaGreatDoor
open Go.RowKit Go.Shelf
set_option maxHeartbeats 64000000
set_option maxRecDepth 100000
def Fresh (B : Nat) (zs : Array Value) (t : TypeId) (v : Value) (w : World) : Prop := ∃ g : Nat, v = .pointer (some ⟨g, 0, none⟩) ∧ B ≤ g ∧ w.heap[g]? = some (.cells zs t (0, 0))
theorem Fresh.below {B : Nat} {zs : Array Value} {t : TypeId} {v : Value} {w w' : World} (h : Fresh B zs t v w) (hb : Below w.heap.size w w') : Fresh B zs t v w' := by
 obtain ⟨g, h1, h2, h3⟩ := h
 exact ⟨g, h1, h2, blkb h3 hb⟩
theorem run_store_float {P : Program} {w : World} {a : Addr} {m : Mode} (k : FloatKind) (x : Nat) : (store a (.float k x) m).run P w = stored P w a (.float k x) m := run_store P w a _ m rfl
attribute [go_sem] run_store_float
theorem c42b (n lo hi : Int) (w : World) : Calls Tryz.prog 42 #[.int .i64 n, .int .i64 lo, .int .i64 hi] w fun en w' => en = .returned (.int .i64 (Mo.range n lo hi)) ∧ Below w.heap.size w w' :=
 (c42 n lo hi w).mono fun _ _ ⟨h1, h2⟩ => ⟨h1, by rw [← h2]; exact Below.refl _ _⟩
theorem rng3 {n lo hi : Int} (h : ¬ (lo ≤ n ∧ n ≤ hi)) : Mo.range n lo hi = 3 := by unfold Mo.range; rw [if_pos (by omega)]
theorem trK_shift (a0 a1 a2 a3 : Int) : trK (nI a3 a0 a1 a2) = (trK (nI a0 a1 a2 a3)).del 1 := by
 simp [trK, Kn.del, tn, acc, nI, pw]
 omega
theorem nI_le {a0 a1 a2 a3 : Int} (h0 : -128 ≤ a0 ∧ a0 ≤ 127) (h1 : -128 ≤ a1 ∧ a1 ≤ 127) (h2 : -128 ≤ a2 ∧ a2 ≤ 127) (h3 : -128 ≤ a3 ∧ a3 ≤ 127) (j : Nat) : -128 ≤ nI a0 a1 a2 a3 j ∧ nI a0 a1 a2 a3 j ≤ 128 := by
 unfold nI
 split
 ·omega
 split
 ·omega
 split
 ·omega
 ·omega
theorem heap_set95 {w : World} {b : Nat} {p : Addr} {o : Obj} (v : Value) (h : w.heap[b]? = some o) (hp : b ≠ p.block) : (w.setCell p v).heap[b]? = some o := (set_far v hp).trans h
theorem ix73_0 (a0 a1 a2 a3 : Int) (W : World) : (Instr.index 73 (.agg #[.int .i8 a0, .int .i8 a1, .int .i8 a2, .int .i8 a3]) (.int .i64 0)).run Tryz.prog W = .ok (.int .i8 a0) W := by kernel_rfl
theorem ix73_1 (a0 a1 a2 a3 : Int) (W : World) : (Instr.index 73 (.agg #[.int .i8 a0, .int .i8 a1, .int .i8 a2, .int .i8 a3]) (.int .i64 1)).run Tryz.prog W = .ok (.int .i8 a1) W := by kernel_rfl
theorem ix73_2 (a0 a1 a2 a3 : Int) (W : World) : (Instr.index 73 (.agg #[.int .i8 a0, .int .i8 a1, .int .i8 a2, .int .i8 a3]) (.int .i64 2)).run Tryz.prog W = .ok (.int .i8 a2) W := by kernel_rfl
theorem ix73_3 (a0 a1 a2 a3 : Int) (W : World) : (Instr.index 73 (.agg #[.int .i8 a0, .int .i8 a1, .int .i8 a2, .int .i8 a3]) (.int .i64 3)).run Tryz.prog W = .ok (.int .i8 a3) W := by kernel_rfl
def gA (a0 a1 a2 a3 : Int) (k : Nat) : Array Value := if k = 0 then #[.float .f32 0, .float .f32 0, .float .f32 0, .float .f32 0] else if k = 1 then #[.float .f32 (smB a0), .float .f32 0, .float .f32 0, .float .f32 0] else if k = 2 then #[.float .f32 (smB a0), .float .f32 (smB a1), .float .f32 0, .float .f32 0] else if k = 3 then #[.float .f32 (smB a0), .float .f32 (smB a1), .float .f32 (smB a2), .float .f32 0] else #[.float .f32 (smB a0), .float .f32 (smB a1), .float .f32 (smB a2), .float .f32 (smB a3)]
def gB (a0 a1 a2 a3 : Int) (k : Nat) : Array Value := if k = 0 then #[.float .f32 0, .float .f32 0, .float .f32 0, .float .f32 0] else if k = 1 then #[.float .f32 0, .float .f32 (smB a0), .float .f32 0, .float .f32 0] else if k = 2 then #[.float .f32 0, .float .f32 (smB a0), .float .f32 (smB a1), .float .f32 0] else if k = 3 then #[.float .f32 0, .float .f32 (smB a0), .float .f32 (smB a1), .float .f32 (smB a2)] else #[.float .f32 (smB a3), .float .f32 (smB a0), .float .f32 (smB a1), .float .f32 (smB a2)]
theorem l6 (a0 a1 a2 a3 : Int) (A : Option Addr) (n cap : Nat) (l : List Ly) (by' : Int) (w : World) (g0 : -128 ≤ a0 ∧ a0 ≤ 127) (g1 : -128 ≤ a1 ∧ a1 ≤ 127) (g2 : -128 ≤ a2 ∧ a2 ≤ 127) (g3 : -128 ≤ a3 ∧ a3 ≤ 127) (hb : -32768 ≤ by' ∧ by' ≤ 32767) (HL : RdY w A n l) (hst : Steps w) :
  Calls Tryz.prog 6 #[.agg #[.int .i8 a0, .int .i8 a1, .int .i8 a2, .int .i8 a3], .slice A n cap, .int .i16 by'] w fun en w' => en = .returned (.bool true) ∧ Below w.heap.size w w' := by
 have G0 := Lib.hid g0
 have G1 := Lib.hid g1
 have G2 := Lib.hid g2
 have G3 := Lib.hid g3
 have HBY := Lib.hid hb
 have HLL := Lib.hid HL.len
 clear g0 g1 g2 g3 hb
 obtain ⟨w0, hW⟩ : ∃ W, W = w.alloc (Obj.cells #[.int .i8 a0, .int .i8 a1, .int .i8 a2, .int .i8 a3] 73) := ⟨_, rfl⟩
 have hT0 : w0.heap[w.heap.size]? = some (.cells #[.int .i8 a0, .int .i8 a1, .int .i8 a2, .int .i8 a3] 73 (0, 0)) := by rw [hW]; exact heap_new (by simp)
 have hB0 : Below w.heap.size w w0 := by rw [hW]; exact ((Below.refl _ _).alloc (by first | omega | (simp <;> omega)) _)
 replace HL := HL.below hB0
 replace hst := hst.below hB0
 go_enter Tryz.func6, Tryz.ntmps6
 go_wp2_with fail
 ·rw [← hW]
  refine (c18 _ hst).mono ?_
  rintro e wz ⟨rfl, hz⟩
  go_wp2
  go_ret
  exact ⟨rfl, hB0.call hz rfl⟩
 rw [← hW]
 have hn : n ≤ 16 := by omega
 clear hW
 have qhT0_0 : w0.cell? ⟨w.heap.size, 0, none⟩ = some (.int .i8 a0) := cell_at hT0 rfl
 have qhT0_1 : w0.cell? ⟨w.heap.size, 1, none⟩ = some (.int .i8 a1) := cell_at hT0 rfl
 have qhT0_2 : w0.cell? ⟨w.heap.size, 2, none⟩ = some (.int .i8 a2) := cell_at hT0 rfl
 have qhT0_3 : w0.cell? ⟨w.heap.size, 3, none⟩ = some (.int .i8 a3) := cell_at hT0 rfl
 go_loopw [7, 37] (fun v iv wr => ∃ k : Nat, k ≤ n ∧ iv = .int .i64 k ∧ Hid (wr.ownsRow w0.heap.size 80 2 v k ((l.take k).flatMap Ly.enc)) ∧ Hid (∀ x, x ∈ l.take k → (0 ≤ x.t ∧ x.t ≤ 1000) ∧ 1 ≤ x.s ∧ x.s ≤ 100) ∧ Below w0.heap.size w0 wr) (fun _ iv _ => n - (intOf iv).toNat)
 case atStart => exact ⟨0, Nat.zero_le _, rfl, Lib.hid (World.ownsRow_nil _ _ _ _), Lib.hid (fun x hx => by simp at hx), Below.refl _ _⟩
 case round =>
  obtain ⟨k, hk, rfl, HOW, HVK, hbr⟩ := hrel
  obtain ⟨w1, hww⟩ : ∃ W, W = wr := ⟨_, rfl⟩
  subst hww
  have hB1 := hB0.call hbr rfl
  replace hT0 := blkb hT0 hbr
  replace HL := HL.below hbr
  replace hst := hst.below hbr
  clear hB0
  have qhT0_0 : w1.cell? ⟨w.heap.size, 0, none⟩ = some (.int .i8 a0) := cell_at hT0 rfl
  have qhT0_1 : w1.cell? ⟨w.heap.size, 1, none⟩ = some (.int .i8 a1) := cell_at hT0 rfl
  have qhT0_2 : w1.cell? ⟨w.heap.size, 2, none⟩ = some (.int .i8 a2) := cell_at hT0 rfl
  have qhT0_3 : w1.cell? ⟨w.heap.size, 3, none⟩ = some (.int .i8 a3) := cell_at hT0 rfl
  have hwk : IntKind.i64.wrap ((k : Int) + 1) = ((k + 1 : Nat) : Int) := by rw [wrapI (by omega)]; simp
  by_cases hlt : k < n
  ·
    obtain ⟨b, off, x, rfl, hx, hbl, h0, h1⟩ := HL.at hlt
    have HX := Lib.hid hx
    have hlt2 : (k : Int) < (n : Int) := by omega
    clear hx
    have hrr : Below w1.heap.size w1 w1 := Below.refl _ _
    go_wp2_with fail
    refine (c42b x.t 0 1000 _).mono ?_
    rintro e w2 ⟨rfl, hb⟩
    have hN9 := blkb (heap_new (w := w1) (o := (Obj.cells #[.int .i64 x.t, .int .i64 x.s] 78)) rfl) hb
    clear qhT0_0 qhT0_1 qhT0_2 qhT0_3
    have hS := ((Below.refl _ _).alloc (by first | exact Nat.le_refl _ | (simp <;> omega)) _).call hb rfl
    have hB2 := hB1.call hS rfl
    replace hT0 := blkb hT0 hS
    replace HL := HL.below hS
    replace hst := hst.below hS
    replace hbr := hbr.call hS rfl
    replace hrr := hrr.call hS rfl
    clear hS hB1
    have qhT0_0 : w2.cell? ⟨w.heap.size, 0, none⟩ = some (.int .i8 a0) := cell_at hT0 rfl
    have qhT0_1 : w2.cell? ⟨w.heap.size, 1, none⟩ = some (.int .i8 a1) := cell_at hT0 rfl
    have qhT0_2 : w2.cell? ⟨w.heap.size, 2, none⟩ = some (.int .i8 a2) := cell_at hT0 rfl
    have qhT0_3 : w2.cell? ⟨w.heap.size, 3, none⟩ = some (.int .i8 a3) := cell_at hT0 rfl
    clear hb
    obtain ⟨bhN9, hbhN9⟩ : ∃ b, b = w1.heap.size := ⟨_, rfl⟩
    rw [← hbhN9] at hN9  ⊢
    clear hbhN9
    have qhT0_0 : w2.cell? ⟨w.heap.size, 0, none⟩ = some (.int .i8 a0) := cell_at hT0 rfl
    have qhT0_1 : w2.cell? ⟨w.heap.size, 1, none⟩ = some (.int .i8 a1) := cell_at hT0 rfl
    have qhT0_2 : w2.cell? ⟨w.heap.size, 2, none⟩ = some (.int .i8 a2) := cell_at hT0 rfl
    have qhT0_3 : w2.cell? ⟨w.heap.size, 3, none⟩ = some (.int .i8 a3) := cell_at hT0 rfl
    have qhN9_0 : w2.cell? ⟨bhN9, 0, none⟩ = some (.int .i64 x.t) := cell_at hN9 rfl
    have qhN9_1 : w2.cell? ⟨bhN9, 1, none⟩ = some (.int .i64 x.s) := cell_at hN9 rfl
    clear h0 h1
    by_cases hok1 : 0 ≤ x.t ∧ x.t ≤ 1000
    rotate_left
    ·
      rw [rng3 hok1]
      go_wp2_with fail
      refine (c18 _ hst).mono ?_
      rintro e wz ⟨rfl, hz⟩
      go_wp2
      go_ret
      exact ⟨rfl, hB2.call hz rfl⟩
    rw [rng0 hok1]
    go_wp2_with fail
    refine (c42b x.s 1 100 _).mono ?_
    rintro e w3 ⟨rfl, hb⟩
    clear qhT0_0 qhT0_1 qhT0_2 qhT0_3 qhN9_0 qhN9_1
    have hS := hb
    have hB3 := hB2.call hS rfl
    replace hT0 := blkb hT0 hS
    replace HL := HL.below hS
    replace hst := hst.below hS
    replace hbr := hbr.call hS rfl
    replace hrr := hrr.call hS rfl
    replace hN9 := blkb hN9 hS
    clear hS hB2
    have qhT0_0 : w3.cell? ⟨w.heap.size, 0, none⟩ = some (.int .i8 a0) := cell_at hT0 rfl
    have qhT0_1 : w3.cell? ⟨w.heap.size, 1, none⟩ = some (.int .i8 a1) := cell_at hT0 rfl
    have qhT0_2 : w3.cell? ⟨w.heap.size, 2, none⟩ = some (.int .i8 a2) := cell_at hT0 rfl
    have qhT0_3 : w3.cell? ⟨w.heap.size, 3, none⟩ = some (.int .i8 a3) := cell_at hT0 rfl
    have qhN9_0 : w3.cell? ⟨bhN9, 0, none⟩ = some (.int .i64 x.t) := cell_at hN9 rfl
    have qhN9_1 : w3.cell? ⟨bhN9, 1, none⟩ = some (.int .i64 x.s) := cell_at hN9 rfl
    clear hb
    by_cases hok2 : 1 ≤ x.s ∧ x.s ≤ 100
    rotate_left
    ·
      rw [rng3 hok2]
      go_wp2_with fail
      refine (c18 _ hst).mono ?_
      rintro e wz ⟨rfl, hz⟩
      go_wp2
      go_ret
      exact ⟨rfl, hB3.call hz rfl⟩
    rw [rng0 hok2]
    have htk : (l.take (k + 1)) = l.take k ++ [x] := by rw [List.take_add_one, HX.out]; rfl
    have HTK := Lib.hid htk
    have HVN : Hid (∀ x, x ∈ l.take (k + 1) → (0 ≤ x.t ∧ x.t ≤ 1000) ∧ 1 ≤ x.s ∧ x.s ≤ 100) := Lib.hid (by
     rw [htk]
     intro y hy
     rcases List.mem_append.1 hy with h | h
     ·exact HVK.out y h
     ·rw [List.mem_singleton.1 h]; exact ⟨hok1, hok2⟩)
    clear htk hok1 hok2 hlt2
    have hszk : w0.heap.size ≤ w3.heap.size := hbr.size
    have how2 := (own_below HOW.out hrr).alloc (Obj.cells #[.int .i64 x.t, .int .i64 x.s] 80)
    go_wp2_with (at_builtin; refine wpList_appY rfl _ _ rfl w0.heap.size _ k (l.take k) [x] rfl how2 ⟨w3.heap.size, 0, none⟩ 1 1 rfl (rdY1 _ _) (by omega) (by simp; omega) ?_)
    intro v' w3 hown3 hb3
    have HO : Hid (w3.ownsRow w0.heap.size 80 2 v' (k + 1) ((l.take (k + 1)).flatMap Ly.enc)) := Lib.hid (by rw [HTK.out]; simpa using hown3)
    have HB3 : Hid (Below w0.heap.size w0 w3) := Lib.hid ((hbr.alloc hszk (Obj.cells #[.int .i64 x.t, .int .i64 x.s] 80)).trans hb3)
    clear hown3 hb3 how2 hrr
    go_wp2
    go_roundw
    case rel => exact ⟨k + 1, by omega, by go_num, HO, HVN, HB3.out⟩
    case measure => simp [intOf]; omega
  obtain rfl : n = k := by omega
  have hlS : l.take n = l := by rw [List.take_of_length_le (by rw [HLL.out]; exact Nat.le_refl _)]
  have hr2 := HOW.out
  rw [hlS] at hr2 HVK
  obtain ⟨A2, cap2, rfl, hr3, _⟩ := own_form hr2
  have HR2 : RdY w1 A2 n l := hr3
  clear hlS hlt hk hwk hr2 HOW hbr hr3 HL
  as_aux_lemma =>
   obtain ⟨wa, hwa⟩ : ∃ V, V = (w1.alloc (Obj.cells #[.float .f32 0, .float .f32 0, .float .f32 0, .float .f32 0] 82)).alloc (Obj.cells #[.float .f32 0, .float .f32 0, .float .f32 0, .float .f32 0] 82) := ⟨_, rfl⟩
   have T10 : Hid (wa.heap[w1.heap.size]? = some (.cells (gA a0 a1 a2 a3 0) 82 (0, 0))) := Lib.hid (by rw [hwa]; exact heap_old (by simp <;> omega) (heap_new rfl))
   have T11 : Hid (wa.heap[w1.heap.size + 1]? = some (.cells (gB a0 a1 a2 a3 0) 82 (0, 0))) := Lib.hid (by rw [hwa]; exact heap_new (by simp))
   have TB : Hid (Below w1.heap.size w1 wa) := Lib.hid (by rw [hwa]; exact (bl2 _ _).alloc (by simp) _)
   have zT0 := (Array.getElem?_eq_some_iff.1 hT0).1
   go_wp2_with fail
   rw [← hwa]
   clear hwa zT0
   obtain ⟨b1, hb1⟩ : ∃ b, b = w1.heap.size := ⟨_, rfl⟩
   rw [← hb1] at T10 T11 ⊢
   have HB1 := Lib.hid hb1
   clear hb1
   go_loopw [58] (fun iv wr => ∃ k : Nat, k ≤ 4 ∧ iv = .int .i64 k ∧ Hid (wr.heap[b1]? = some (.cells (gA a0 a1 a2 a3 k) 82 (0, 0))) ∧ Hid (wr.heap[b1 + 1]? = some (.cells (gB a0 a1 a2 a3 k) 82 (0, 0))) ∧ Hid (Below w1.heap.size w1 wr)) (fun iv _ => 4 - (intOf iv).toNat)
   case atStart => exact ⟨0, Nat.zero_le _, rfl, T10, T11, TB⟩
   case round =>
    clear T10 T11 TB
    obtain ⟨k, hk, rfl, R10, R11, RB⟩ := hrel
    have h5 : k = 0 ∨ k = 1 ∨ k = 2 ∨ k = 3 ∨ k = 4 := by omega
    rcases h5 with rfl | rfl | rfl | rfl | rfl
    ·have ix := ix73_0 a0 a1 a2 a3
     have cv : ∀ w, (convert 72 81 (.int .i8 a0)).run Tryz.prog w = .ok (.float .f32 (floatOfInt .f32 a0)) w := fun w => run_convert_int_float w 72 81 .i8 .f32 a0 (by kernel_rfl) (by kernel_rfl)
     have dv : ∀ w, (binOp .quo 81 (.float .f32 (floatOfInt .f32 a0)) (.float .f32 1098907648)).run Tryz.prog w = .ok (.float .f32 (smB a0)) w := fun w => run_float_arith w .quo 81 .f32 _ _ _ (sm_div (by have := G0.out; omega))
     generalize floatOfInt .f32 a0 = fk at cv dv
     have q1 : wr.cell? ⟨b1, 0, none⟩ = some (.float .f32 0) := cell_at R10.out rfl
     have q1f : wr.frozen? ⟨b1, 0, none⟩ = false := free_at R10.out
     have z1 := cell_lt q1
     have q2 : wr.cell? ⟨b1 + 1, 1, none⟩ = some (.float .f32 0) := cell_at R11.out rfl
     have q2f : wr.frozen? ⟨b1 + 1, 1, none⟩ = false := free_at R11.out
     have z2 := cell_lt q2
     have tm : IntKind.i64.wrap (Int.tmod 1 4) = 1 := by kernel_rfl
     obtain ⟨X, hX⟩ : ∃ X, X = (wr.setCell ⟨b1, 0, none⟩ (.float .f32 (smB a0))).setCell ⟨b1 + 1, 1, none⟩ (.float .f32 (smB a0)) := ⟨_, rfl⟩
     have N10 : Hid (X.heap[b1]? = some (.cells (gA a0 a1 a2 a3 1) 82 (0, 0))) := Lib.hid (by rw [hX]; exact heap_set95 _ (set_blk (i := 0) R10.out _) (by show b1 ≠ b1 + 1; omega))
     have N11 : Hid (X.heap[b1 + 1]? = some (.cells (gB a0 a1 a2 a3 1) 82 (0, 0))) := Lib.hid (by rw [hX]; exact set_blk (i := 1) (heap_set95 _ R11.out (by show b1 + 1 ≠ b1; omega)) _)
     have NB : Hid (Below w1.heap.size w1 X) := Lib.hid (by
      have h1 := HB1.out
      rw [hX]
      exact (RB.out.setCell (p := ⟨b1, 0, none⟩) (by show _ ≤ b1; omega) _).setCell (p := ⟨b1 + 1, 1, none⟩) (by show _ ≤ b1 + 1; omega) _)
     go_wp2
     go_roundw
     rw [← hX]
     case rel => exact ⟨1, by omega, rfl, N10, N11, NB⟩
     case measure => simp [intOf]
    ·have ix := ix73_1 a0 a1 a2 a3
     have cv : ∀ w, (convert 72 81 (.int .i8 a1)).run Tryz.prog w = .ok (.float .f32 (floatOfInt .f32 a1)) w := fun w => run_convert_int_float w 72 81 .i8 .f32 a1 (by kernel_rfl) (by kernel_rfl)
     have dv : ∀ w, (binOp .quo 81 (.float .f32 (floatOfInt .f32 a1)) (.float .f32 1098907648)).run Tryz.prog w = .ok (.float .f32 (smB a1)) w := fun w => run_float_arith w .quo 81 .f32 _ _ _ (sm_div (by have := G1.out; omega))
     generalize floatOfInt .f32 a1 = fk at cv dv
     have q1 : wr.cell? ⟨b1, 1, none⟩ = some (.float .f32 0) := cell_at R10.out rfl
     have q1f : wr.frozen? ⟨b1, 1, none⟩ = false := free_at R10.out
     have z1 := cell_lt q1
     have q2 : wr.cell? ⟨b1 + 1, 2, none⟩ = some (.float .f32 0) := cell_at R11.out rfl
     have q2f : wr.frozen? ⟨b1 + 1, 2, none⟩ = false := free_at R11.out
     have z2 := cell_lt q2
     have tm : IntKind.i64.wrap (Int.tmod 2 4) = 2 := by kernel_rfl
     obtain ⟨X, hX⟩ : ∃ X, X = (wr.setCell ⟨b1, 1, none⟩ (.float .f32 (smB a1))).setCell ⟨b1 + 1, 2, none⟩ (.float .f32 (smB a1)) := ⟨_, rfl⟩
     have N10 : Hid (X.heap[b1]? = some (.cells (gA a0 a1 a2 a3 2) 82 (0, 0))) := Lib.hid (by rw [hX]; exact heap_set95 _ (set_blk (i := 1) R10.out _) (by show b1 ≠ b1 + 1; omega))
     have N11 : Hid (X.heap[b1 + 1]? = some (.cells (gB a0 a1 a2 a3 2) 82 (0, 0))) := Lib.hid (by rw [hX]; exact set_blk (i := 2) (heap_set95 _ R11.out (by show b1 + 1 ≠ b1; omega)) _)
     have NB : Hid (Below w1.heap.size w1 X) := Lib.hid (by
      have h1 := HB1.out
      rw [hX]
      exact (RB.out.setCell (p := ⟨b1, 1, none⟩) (by show _ ≤ b1; omega) _).setCell (p := ⟨b1 + 1, 2, none⟩) (by show _ ≤ b1 + 1; omega) _)
     go_wp2
     go_roundw
     rw [← hX]
     case rel => exact ⟨2, by omega, rfl, N10, N11, NB⟩
     case measure => simp [intOf]
    ·have ix := ix73_2 a0 a1 a2 a3
     have cv : ∀ w, (convert 72 81 (.int .i8 a2)).run Tryz.prog w = .ok (.float .f32 (floatOfInt .f32 a2)) w := fun w => run_convert_int_float w 72 81 .i8 .f32 a2 (by kernel_rfl) (by kernel_rfl)
     have dv : ∀ w, (binOp .quo 81 (.float .f32 (floatOfInt .f32 a2)) (.float .f32 1098907648)).run Tryz.prog w = .ok (.float .f32 (smB a2)) w := fun w => run_float_arith w .quo 81 .f32 _ _ _ (sm_div (by have := G2.out; omega))
     generalize floatOfInt .f32 a2 = fk at cv dv
     have q1 : wr.cell? ⟨b1, 2, none⟩ = some (.float .f32 0) := cell_at R10.out rfl
     have q1f : wr.frozen? ⟨b1, 2, none⟩ = false := free_at R10.out
     have z1 := cell_lt q1
     have q2 : wr.cell? ⟨b1 + 1, 3, none⟩ = some (.float .f32 0) := cell_at R11.out rfl
     have q2f : wr.frozen? ⟨b1 + 1, 3, none⟩ = false := free_at R11.out
     have z2 := cell_lt q2
     have tm : IntKind.i64.wrap (Int.tmod 3 4) = 3 := by kernel_rfl
     obtain ⟨X, hX⟩ : ∃ X, X = (wr.setCell ⟨b1, 2, none⟩ (.float .f32 (smB a2))).setCell ⟨b1 + 1, 3, none⟩ (.float .f32 (smB a2)) := ⟨_, rfl⟩
     have N10 : Hid (X.heap[b1]? = some (.cells (gA a0 a1 a2 a3 3) 82 (0, 0))) := Lib.hid (by rw [hX]; exact heap_set95 _ (set_blk (i := 2) R10.out _) (by show b1 ≠ b1 + 1; omega))
     have N11 : Hid (X.heap[b1 + 1]? = some (.cells (gB a0 a1 a2 a3 3) 82 (0, 0))) := Lib.hid (by rw [hX]; exact set_blk (i := 3) (heap_set95 _ R11.out (by show b1 + 1 ≠ b1; omega)) _)
     have NB : Hid (Below w1.heap.size w1 X) := Lib.hid (by
      have h1 := HB1.out
      rw [hX]
      exact (RB.out.setCell (p := ⟨b1, 2, none⟩) (by show _ ≤ b1; omega) _).setCell (p := ⟨b1 + 1, 3, none⟩) (by show _ ≤ b1 + 1; omega) _)
     go_wp2
     go_roundw
     rw [← hX]
     case rel => exact ⟨3, by omega, rfl, N10, N11, NB⟩
     case measure => simp [intOf]
    ·have ix := ix73_3 a0 a1 a2 a3
     have cv : ∀ w, (convert 72 81 (.int .i8 a3)).run Tryz.prog w = .ok (.float .f32 (floatOfInt .f32 a3)) w := fun w => run_convert_int_float w 72 81 .i8 .f32 a3 (by kernel_rfl) (by kernel_rfl)
     have dv : ∀ w, (binOp .quo 81 (.float .f32 (floatOfInt .f32 a3)) (.float .f32 1098907648)).run Tryz.prog w = .ok (.float .f32 (smB a3)) w := fun w => run_float_arith w .quo 81 .f32 _ _ _ (sm_div (by have := G3.out; omega))
     generalize floatOfInt .f32 a3 = fk at cv dv
     have q1 : wr.cell? ⟨b1, 3, none⟩ = some (.float .f32 0) := cell_at R10.out rfl
     have q1f : wr.frozen? ⟨b1, 3, none⟩ = false := free_at R10.out
     have z1 := cell_lt q1
     have q2 : wr.cell? ⟨b1 + 1, 0, none⟩ = some (.float .f32 0) := cell_at R11.out rfl
     have q2f : wr.frozen? ⟨b1 + 1, 0, none⟩ = false := free_at R11.out
     have z2 := cell_lt q2
     have tm : IntKind.i64.wrap (Int.tmod 4 4) = 0 := by kernel_rfl
     obtain ⟨X, hX⟩ : ∃ X, X = (wr.setCell ⟨b1, 3, none⟩ (.float .f32 (smB a3))).setCell ⟨b1 + 1, 0, none⟩ (.float .f32 (smB a3)) := ⟨_, rfl⟩
     have N10 : Hid (X.heap[b1]? = some (.cells (gA a0 a1 a2 a3 4) 82 (0, 0))) := Lib.hid (by rw [hX]; exact heap_set95 _ (set_blk (i := 3) R10.out _) (by show b1 ≠ b1 + 1; omega))
     have N11 : Hid (X.heap[b1 + 1]? = some (.cells (gB a0 a1 a2 a3 4) 82 (0, 0))) := Lib.hid (by rw [hX]; exact set_blk (i := 0) (heap_set95 _ R11.out (by show b1 + 1 ≠ b1; omega)) _)
     have NB : Hid (Below w1.heap.size w1 X) := Lib.hid (by
      have h1 := HB1.out
      rw [hX]
      exact (RB.out.setCell (p := ⟨b1, 3, none⟩) (by show _ ≤ b1; omega) _).setCell (p := ⟨b1 + 1, 0, none⟩) (by show _ ≤ b1 + 1; omega) _)
     go_wp2
     go_roundw
     rw [← hX]
     case rel => exact ⟨4, by omega, rfl, N10, N11, NB⟩
     case measure => simp [intOf]
    have hbr := RB.out
    have hT10 := R10.out
    have hT11 := R11.out
    clear R10 R11 RB
    obtain ⟨w2, hww⟩ : ∃ W, W = wr := ⟨_, rfl⟩
    subst hww
    have hB2 := hB1.call hbr rfl
    replace hT0 := blkb hT0 hbr
    replace hst := hst.below hbr
    replace HR2 := HR2.below hbr
    clear hB1
    have qhT0_0 : w2.cell? ⟨w.heap.size, 0, none⟩ = some (.int .i8 a0) := cell_at hT0 rfl
    have qhT0_1 : w2.cell? ⟨w.heap.size, 1, none⟩ = some (.int .i8 a1) := cell_at hT0 rfl
    have qhT0_2 : w2.cell? ⟨w.heap.size, 2, none⟩ = some (.int .i8 a2) := cell_at hT0 rfl
    have qhT0_3 : w2.cell? ⟨w.heap.size, 3, none⟩ = some (.int .i8 a3) := cell_at hT0 rfl
    clear hbr
    have qhT10_0 : w2.cell? ⟨b1, 0, none⟩ = some (.float .f32 (smB a0)) := cell_at hT10 rfl
    have qhT10_1 : w2.cell? ⟨b1, 1, none⟩ = some (.float .f32 (smB a1)) := cell_at hT10 rfl
    have qhT10_2 : w2.cell? ⟨b1, 2, none⟩ = some (.float .f32 (smB a2)) := cell_at hT10 rfl
    have qhT10_3 : w2.cell? ⟨b1, 3, none⟩ = some (.float .f32 (smB a3)) := cell_at hT10 rfl
    have qhT11_0 : w2.cell? ⟨b1 + 1, 0, none⟩ = some (.float .f32 (smB a3)) := cell_at hT11 rfl
    have qhT11_1 : w2.cell? ⟨b1 + 1, 1, none⟩ = some (.float .f32 (smB a0)) := cell_at hT11 rfl
    have qhT11_2 : w2.cell? ⟨b1 + 1, 2, none⟩ = some (.float .f32 (smB a1)) := cell_at hT11 rfl
    have qhT11_3 : w2.cell? ⟨b1 + 1, 3, none⟩ = some (.float .f32 (smB a2)) := cell_at hT11 rfl
    have hnI := nI_le G0.out G1.out G2.out G3.out
    have hnS := nI_le G3.out G0.out G1.out G2.out
    have hv := HVK.out
    have hby := HBY.out
    have hls := lsum_le hv n
    have hlt : l.take n = l := List.take_of_length_le (by rw [HLL.out]; exact Nat.le_refl _)
    rw [hlt] at hls
    obtain ⟨k0, hk0⟩ : ∃ k, k = trK (nI a0 a1 a2 a3) := ⟨_, rfl⟩
    obtain ⟨p0, hp0⟩ : ∃ p, p = trP (nI a0 a1 a2 a3) := ⟨_, rfl⟩
    obtain ⟨p9, hp9⟩ : ∃ p, p = trP (nI a3 a0 a1 a2) := ⟨_, rfl⟩
    have ok0 : p0.Ok k0 := by rw [hp0, hk0]; exact tr_ok hnI
    have ok9 : p9.Ok (k0.del 1) := by rw [hp9, hk0, ← trK_shift]; exact tr_ok hnS
    have K43 : Hid (∀ W, Calls Tryz.prog 43 #[.agg #[.float .f32 (smB a0), .float .f32 (smB a1), .float .f32 (smB a2), .float .f32 (smB a3)]] W fun en w' => en = .returned (.agg #[.complex .f32 p0.a0 p0.b0, .complex .f32 p0.a1 p0.b1, .complex .f32 p0.a2 p0.b2, .complex .f32 p0.a3 p0.b3]) ∧ Below W.heap.size W w') := Lib.hid (fun W => by
     rw [hp0]
     exact c43g _ _ _ _ (nI a0 a1 a2 a3) hnI (show Pt (smB a0) a0 from .of (by have := G0.out; omega)) (show Pt (smB a1) a1 from .of (by have := G1.out; omega)) (show Pt (smB a2) a2 from .of (by have := G2.out; omega)) (show Pt (smB a3) a3 from .of (by have := G3.out; omega)) W)
    have K43b : Hid (∀ W, Calls Tryz.prog 43 #[.agg #[.float .f32 (smB a3), .float .f32 (smB a0), .float .f32 (smB a1), .float .f32 (smB a2)]] W fun en w' => en = .returned (.agg #[.complex .f32 p9.a0 p9.b0, .complex .f32 p9.a1 p9.b1, .complex .f32 p9.a2 p9.b2, .complex .f32 p9.a3 p9.b3]) ∧ Below W.heap.size W w') := Lib.hid (fun W => by
     rw [hp9]
     exact c43g _ _ _ _ (nI a3 a0 a1 a2) hnS (show Pt (smB a3) a3 from .of (by have := G3.out; omega)) (show Pt (smB a0) a0 from .of (by have := G0.out; omega)) (show Pt (smB a1) a1 from .of (by have := G1.out; omega)) (show Pt (smB a2) a2 from .of (by have := G2.out; omega)) W)
    have dv : ∀ z : Int, ∃ m : Nat, m < 4 ∧ z % 4 = (m : Int) := fun z => ⟨(z % 4).toNat, by omega, by omega⟩
    obtain ⟨m1, l1, hm1⟩ := dv (lsum l)
    obtain ⟨m2, l2, hm2⟩ := dv (-lsum l)
    obtain ⟨m3, l3, hm3⟩ := dv by'
    obtain ⟨m4, l4, hm4⟩ := dv (-by')
    obtain ⟨m8, l8, hm8⟩ := dv (by' + 1)
    have h12 : (m1 + m2) % 4 = 0 := by omega
    have h34 : (m3 + m4) % 4 = 0 := by omega
    have h38 : m8 = (m3 + 1) % 4 := by omega
    obtain ⟨p1, hp1⟩ : ∃ p, p = p0.del m1 := ⟨_, rfl⟩
    obtain ⟨p2, hp2⟩ : ∃ p, p = p1.del m2 := ⟨_, rfl⟩
    obtain ⟨p3, hp3⟩ : ∃ p, p = p0.del m3 := ⟨_, rfl⟩
    obtain ⟨p4, hp4⟩ : ∃ p, p = p3.del m4 := ⟨_, rfl⟩
    obtain ⟨p5, hp5⟩ : ∃ p, p = p0.del 0 := ⟨_, rfl⟩
    obtain ⟨p6, hp6⟩ : ∃ p, p = p0.del 1 := ⟨_, rfl⟩
    obtain ⟨p7, hp7⟩ : ∃ p, p = p3.del 1 := ⟨_, rfl⟩
    obtain ⟨p8, hp8⟩ : ∃ p, p = p0.del m8 := ⟨_, rfl⟩
    have ok1 : p1.Ok (k0.del m1) := by rw [hp1]; exact Pan.del_ok ok0
    have ok2 : p2.Ok k0 := by
     have h := Pan.del_ok (m := m2) ok1
     rw [Kn.del_del k0 l1 l2, h12, Kn.del_zero] at h
     rw [hp2]; exact h
    have ok3 : p3.Ok (k0.del m3) := by rw [hp3]; exact Pan.del_ok ok0
    have ok4 : p4.Ok k0 := by
     have h := Pan.del_ok (m := m4) ok3
     rw [Kn.del_del k0 l3 l4, h34, Kn.del_zero] at h
     rw [hp4]; exact h
    have ok5 : p5.Ok k0 := by
     have h := Pan.del_ok (m := 0) ok0
     rw [Kn.del_zero] at h
     rw [hp5]; exact h
    have ok6 : p6.Ok (k0.del 1) := by rw [hp6]; exact Pan.del_ok ok0
    have ok7 : p7.Ok (k0.del m8) := by
     have h := Pan.del_ok (m := 1) ok3
     rw [Kn.del_del k0 l3 (by decide), ← h38] at h
     rw [hp7]; exact h
    have ok8 : p8.Ok (k0.del m8) := by rw [hp8]; exact Pan.del_ok ok0
    have E1 : Hid (∀ W, (Op.equalIn 10000 84 (.agg #[.complex .f32 p2.a0 p2.b0, .complex .f32 p2.a1 p2.b1, .complex .f32 p2.a2 p2.b2, .complex .f32 p2.a3 p2.b3]) (.agg #[.complex .f32 p0.a0 p0.b0, .complex .f32 p0.a1 p0.b1, .complex .f32 p0.a2 p0.b2, .complex .f32 p0.a3 p0.b3])).run Tryz.prog W = .ok true W) := Lib.hid (fun W => eqOk ok2 ok0 W)
    have E2 : Hid (∀ W, (Op.equalIn 10000 84 (.agg #[.complex .f32 p4.a0 p4.b0, .complex .f32 p4.a1 p4.b1, .complex .f32 p4.a2 p4.b2, .complex .f32 p4.a3 p4.b3]) (.agg #[.complex .f32 p0.a0 p0.b0, .complex .f32 p0.a1 p0.b1, .complex .f32 p0.a2 p0.b2, .complex .f32 p0.a3 p0.b3])).run Tryz.prog W = .ok true W) := Lib.hid (fun W => eqOk ok4 ok0 W)
    have E3 : Hid (∀ W, (Op.equalIn 10000 84 (.agg #[.complex .f32 p5.a0 p5.b0, .complex .f32 p5.a1 p5.b1, .complex .f32 p5.a2 p5.b2, .complex .f32 p5.a3 p5.b3]) (.agg #[.complex .f32 p0.a0 p0.b0, .complex .f32 p0.a1 p0.b1, .complex .f32 p0.a2 p0.b2, .complex .f32 p0.a3 p0.b3])).run Tryz.prog W = .ok true W) := Lib.hid (fun W => eqOk ok5 ok0 W)
    have E4 : Hid (∀ W, (Op.equalIn 10000 84 (.agg #[.complex .f32 p6.a0 p6.b0, .complex .f32 p6.a1 p6.b1, .complex .f32 p6.a2 p6.b2, .complex .f32 p6.a3 p6.b3]) (.agg #[.complex .f32 p9.a0 p9.b0, .complex .f32 p9.a1 p9.b1, .complex .f32 p9.a2 p9.b2, .complex .f32 p9.a3 p9.b3])).run Tryz.prog W = .ok true W) := Lib.hid (fun W => eqOk ok6 ok9 W)
    have E5 : Hid (∀ W, (Op.equalIn 10000 84 (.agg #[.complex .f32 p7.a0 p7.b0, .complex .f32 p7.a1 p7.b1, .complex .f32 p7.a2 p7.b2, .complex .f32 p7.a3 p7.b3]) (.agg #[.complex .f32 p8.a0 p8.b0, .complex .f32 p8.a1 p8.b1, .complex .f32 p8.a2 p8.b2, .complex .f32 p8.a3 p8.b3])).run Tryz.prog W = .ok true W) := Lib.hid (fun W => eqOk ok7 ok8 W)
    have K19 : Hid (∀ X xc W, RdY W X n l → Calls Tryz.prog 44 #[.agg #[.complex .f32 p0.a0 p0.b0, .complex .f32 p0.a1 p0.b1, .complex .f32 p0.a2 p0.b2, .complex .f32 p0.a3 p0.b3], .slice X n xc, .bool false] W fun en w' => en = .returned (.tuple #[.agg #[.complex .f32 p1.a0 p1.b0, .complex .f32 p1.a1 p1.b1, .complex .f32 p1.a2 p1.b2, .complex .f32 p1.a3 p1.b3], .int .i64 0]) ∧ Below W.heap.size W w') := Lib.hid (fun X xc W h => by rw [hp1]; exact c44p p0 _ ok0 false X n xc l m1 l1 hn hv (by simpa using hm1) W h)
    have K20 : Hid (∀ X xc W, RdY W X n l → Calls Tryz.prog 44 #[.agg #[.complex .f32 p1.a0 p1.b0, .complex .f32 p1.a1 p1.b1, .complex .f32 p1.a2 p1.b2, .complex .f32 p1.a3 p1.b3], .slice X n xc, .bool true] W fun en w' => en = .returned (.tuple #[.agg #[.complex .f32 p2.a0 p2.b0, .complex .f32 p2.a1 p2.b1, .complex .f32 p2.a2 p2.b2, .complex .f32 p2.a3 p2.b3], .int .i64 0]) ∧ Below W.heap.size W w') := Lib.hid (fun X xc W h => by rw [hp2]; exact c44p p1 _ ok1 true X n xc l m2 l2 hn hv (by simpa using hm2) W h)
    have K21 : Hid (∀ W, Calls Tryz.prog 45 #[.agg #[.complex .f32 p0.a0 p0.b0, .complex .f32 p0.a1 p0.b1, .complex .f32 p0.a2 p0.b2, .complex .f32 p0.a3 p0.b3], .int .i64 by'] W fun en w' => en = .returned (.tuple #[.agg #[.complex .f32 p3.a0 p3.b0, .complex .f32 p3.a1 p3.b1, .complex .f32 p3.a2 p3.b2, .complex .f32 p3.a3 p3.b3], .int .i64 0]) ∧ Below W.heap.size W w') := Lib.hid (fun W => by rw [hp3]; exact c45p p0 _ ok0 by' m3 l3 hm3 (by omega) W)
    have K22 : Hid (∀ W, Calls Tryz.prog 45 #[.agg #[.complex .f32 p3.a0 p3.b0, .complex .f32 p3.a1 p3.b1, .complex .f32 p3.a2 p3.b2, .complex .f32 p3.a3 p3.b3], .int .i64 (-by')] W fun en w' => en = .returned (.tuple #[.agg #[.complex .f32 p4.a0 p4.b0, .complex .f32 p4.a1 p4.b1, .complex .f32 p4.a2 p4.b2, .complex .f32 p4.a3 p4.b3], .int .i64 0]) ∧ Below W.heap.size W w') := Lib.hid (fun W => by rw [hp4]; exact c45p p3 _ ok3 (-by') m4 l4 hm4 (by omega) W)
    have K23 : Hid (∀ W, Calls Tryz.prog 45 #[.agg #[.complex .f32 p0.a0 p0.b0, .complex .f32 p0.a1 p0.b1, .complex .f32 p0.a2 p0.b2, .complex .f32 p0.a3 p0.b3], .int .i64 4] W fun en w' => en = .returned (.tuple #[.agg #[.complex .f32 p5.a0 p5.b0, .complex .f32 p5.a1 p5.b1, .complex .f32 p5.a2 p5.b2, .complex .f32 p5.a3 p5.b3], .int .i64 0]) ∧ Below W.heap.size W w') := Lib.hid (fun W => by rw [hp5]; exact c45p p0 _ ok0 4 0 (by decide) (by decide) (by omega) W)
    have K24 : Hid (∀ W, Calls Tryz.prog 45 #[.agg #[.complex .f32 p0.a0 p0.b0, .complex .f32 p0.a1 p0.b1, .complex .f32 p0.a2 p0.b2, .complex .f32 p0.a3 p0.b3], .int .i64 1] W fun en w' => en = .returned (.tuple #[.agg #[.complex .f32 p6.a0 p6.b0, .complex .f32 p6.a1 p6.b1, .complex .f32 p6.a2 p6.b2, .complex .f32 p6.a3 p6.b3], .int .i64 0]) ∧ Below W.heap.size W w') := Lib.hid (fun W => by rw [hp6]; exact c45p p0 _ ok0 1 1 (by decide) (by decide) (by omega) W)
    have K25 : Hid (∀ W, Calls Tryz.prog 45 #[.agg #[.complex .f32 p3.a0 p3.b0, .complex .f32 p3.a1 p3.b1, .complex .f32 p3.a2 p3.b2, .complex .f32 p3.a3 p3.b3], .int .i64 1] W fun en w' => en = .returned (.tuple #[.agg #[.complex .f32 p7.a0 p7.b0, .complex .f32 p7.a1 p7.b1, .complex .f32 p7.a2 p7.b2, .complex .f32 p7.a3 p7.b3], .int .i64 0]) ∧ Below W.heap.size W w') := Lib.hid (fun W => by rw [hp7]; exact c45p p3 _ ok3 1 1 (by decide) (by decide) (by omega) W)
    have K26 : Hid (∀ W, Calls Tryz.prog 45 #[.agg #[.complex .f32 p0.a0 p0.b0, .complex .f32 p0.a1 p0.b1, .complex .f32 p0.a2 p0.b2, .complex .f32 p0.a3 p0.b3], .int .i64 (by' + 1)] W fun en w' => en = .returned (.tuple #[.agg #[.complex .f32 p8.a0 p8.b0, .complex .f32 p8.a1 p8.b1, .complex .f32 p8.a2 p8.b2, .complex .f32 p8.a3 p8.b3], .int .i64 0]) ∧ Below W.heap.size W w') := Lib.hid (fun W => by rw [hp8]; exact c45p p0 _ ok0 (by' + 1) m8 l8 hm8 (by omega) W)
    have hw0 : IntKind.i64.wrap by' = by' := wrapI (by omega)
    have hw1 : IntKind.i64.wrap (-by') = -by' := wrapI (by omega)
    have hw2 : IntKind.i64.wrap (by' + 1) = by' + 1 := wrapI (by omega)
    clear ok0 ok1 ok2 ok3 ok4 ok5 ok6 ok7 ok8 ok9 hp0 hp1 hp2 hp3 hp4 hp5 hp6 hp7 hp8 hp9 hk0 hm1 hm2 hm3 hm4 hm8 h12 h34 h38 l1 l2 l3 l4 l8 dv hnI hnS hv hls hlt hby
    go_wp2_with fail
    refine (K43.out _).mono ?_
    rintro e w3 ⟨rfl, hb⟩
    clear qhT0_0 qhT0_1 qhT0_2 qhT0_3 qhT10_0 qhT10_1 qhT10_2 qhT10_3 qhT11_0 qhT11_1 qhT11_2 qhT11_3
    have hS := hb
    have hB3 := hB2.call hS rfl
    replace hT0 := blkb hT0 hS
    replace hst := hst.below hS
    replace HR2 := HR2.below hS
    replace hT10 := blkb hT10 hS
    replace hT11 := blkb hT11 hS
    clear hS hB2
    have qhT0_0 : w3.cell? ⟨w.heap.size, 0, none⟩ = some (.int .i8 a0) := cell_at hT0 rfl
    have qhT0_1 : w3.cell? ⟨w.heap.size, 1, none⟩ = some (.int .i8 a1) := cell_at hT0 rfl
    have qhT0_2 : w3.cell? ⟨w.heap.size, 2, none⟩ = some (.int .i8 a2) := cell_at hT0 rfl
    have qhT0_3 : w3.cell? ⟨w.heap.size, 3, none⟩ = some (.int .i8 a3) := cell_at hT0 rfl
    have qhT10_0 : w3.cell? ⟨b1, 0, none⟩ = some (.float .f32 (smB a0)) := cell_at hT10 rfl
    have qhT10_1 : w3.cell? ⟨b1, 1, none⟩ = some (.float .f32 (smB a1)) := cell_at hT10 rfl
    have qhT10_2 : w3.cell? ⟨b1, 2, none⟩ = some (.float .f32 (smB a2)) := cell_at hT10 rfl
    have qhT10_3 : w3.cell? ⟨b1, 3, none⟩ = some (.float .f32 (smB a3)) := cell_at hT10 rfl
    have qhT11_0 : w3.cell? ⟨b1 + 1, 0, none⟩ = some (.float .f32 (smB a3)) := cell_at hT11 rfl
    have qhT11_1 : w3.cell? ⟨b1 + 1, 1, none⟩ = some (.float .f32 (smB a0)) := cell_at hT11 rfl
    have qhT11_2 : w3.cell? ⟨b1 + 1, 2, none⟩ = some (.float .f32 (smB a1)) := cell_at hT11 rfl
    have qhT11_3 : w3.cell? ⟨b1 + 1, 3, none⟩ = some (.float .f32 (smB a2)) := cell_at hT11 rfl
    clear hb
    have hz : (w3.alloc (Obj.cells #[.complex .f32 0 0, .complex .f32 0 0, .complex .f32 0 0, .complex .f32 0 0] 84)).heap[w3.heap.size]? = some (Obj.cells #[.complex .f32 0 0, .complex .f32 0 0, .complex .f32 0 0, .complex .f32 0 0] 84) := heap_new rfl
    go_wp2_with (refine wpList_store_blk rfl 84 _ _ rfl w3.heap.size _ rfl rfl hz ?s1 ?s2 ?s3 ?_)
    case s1 => rfl
    case s2 => kernel_rfl
    case s3 => simp [Value.oneCell']
    intro w4 hP0 hg3 hs3
    clear qhT0_0 qhT0_1 qhT0_2 qhT0_3 qhT10_0 qhT10_1 qhT10_2 qhT10_3 qhT11_0 qhT11_1 qhT11_2 qhT11_3
    have hS := ((Below.refl _ _).alloc (Nat.le_refl _) _).grown hg3 (by simp) (fun j hj => by cases hj; exact Nat.le_refl _)
    have hB4 := hB3.call hS rfl
    replace hT0 := blkb hT0 hS
    replace hst := hst.below hS
    replace HR2 := HR2.below hS
    replace hT10 := blkb hT10 hS
    replace hT11 := blkb hT11 hS
    clear hS hB3
    have qhT0_0 : w4.cell? ⟨w.heap.size, 0, none⟩ = some (.int .i8 a0) := cell_at hT0 rfl
    have qhT0_1 : w4.cell? ⟨w.heap.size, 1, none⟩ = some (.int .i8 a1) := cell_at hT0 rfl
    have qhT0_2 : w4.cell? ⟨w.heap.size, 2, none⟩ = some (.int .i8 a2) := cell_at hT0 rfl
    have qhT0_3 : w4.cell? ⟨w.heap.size, 3, none⟩ = some (.int .i8 a3) := cell_at hT0 rfl
    have qhT10_0 : w4.cell? ⟨b1, 0, none⟩ = some (.float .f32 (smB a0)) := cell_at hT10 rfl
    have qhT10_1 : w4.cell? ⟨b1, 1, none⟩ = some (.float .f32 (smB a1)) := cell_at hT10 rfl
    have qhT10_2 : w4.cell? ⟨b1, 2, none⟩ = some (.float .f32 (smB a2)) := cell_at hT10 rfl
    have qhT10_3 : w4.cell? ⟨b1, 3, none⟩ = some (.float .f32 (smB a3)) := cell_at hT10 rfl
    have qhT11_0 : w4.cell? ⟨b1 + 1, 0, none⟩ = some (.float .f32 (smB a3)) := cell_at hT11 rfl
    have qhT11_1 : w4.cell? ⟨b1 + 1, 1, none⟩ = some (.float .f32 (smB a0)) := cell_at hT11 rfl
    have qhT11_2 : w4.cell? ⟨b1 + 1, 2, none⟩ = some (.float .f32 (smB a1)) := cell_at hT11 rfl
    have qhT11_3 : w4.cell? ⟨b1 + 1, 3, none⟩ = some (.float .f32 (smB a2)) := cell_at hT11 rfl
    clear hz hg3 hs3
    obtain ⟨bhP0, hbhP0⟩ : ∃ b, b = w3.heap.size := ⟨_, rfl⟩
    rw [← hbhP0] at hP0 ⊢
    clear hbhP0
    have qhP0_0 : w4.cell? ⟨bhP0, 0, none⟩ = some (.complex .f32 p0.a0 p0.b0) := cell_at hP0 rfl
    have qhP0_1 : w4.cell? ⟨bhP0, 1, none⟩ = some (.complex .f32 p0.a1 p0.b1) := cell_at hP0 rfl
    have qhP0_2 : w4.cell? ⟨bhP0, 2, none⟩ = some (.complex .f32 p0.a2 p0.b2) := cell_at hP0 rfl
    have qhP0_3 : w4.cell? ⟨bhP0, 3, none⟩ = some (.complex .f32 p0.a3 p0.b3) := cell_at hP0 rfl
    clear qhT0_0 qhT0_1 qhT0_2 qhT0_3 qhT10_0 qhT10_1 qhT10_2 qhT10_3 hT0 hT10
    as_aux_lemma =>
     go_wp2_with fail
     refine wp_region_planF (Φ := Fresh w4.heap.size #[.complex .f32 0 0, .complex .f32 0 0, .complex .f32 0 0, .complex .f32 0 0] 84) [(0, 1), (2, 1), (1, 0), (3, 0), (4, 0), (5, 1), (6, 1), (7, 1), (8, 2), (9, 3), (10, 1)] 8 w4.heap.size _ rfl (by kernel_rfl) (by kernel_rfl) (Nat.le_refl _) (fun _ _ d _ _ h => by cases d <;> exact h) (fun _ _ d _ _ h => by cases d <;> exact h) (fun v w w' hv hb => hv.below hb) ?hF ?_
     case hF =>
      intro a wq hq
      refine ⟨rfl, ?_⟩
      have hsz := hq.size
      go_simp
      exact ⟨_, rfl, ⟨_, rfl, hsz, heap_new rfl⟩, (Below.refl _ _).alloc (Nat.le_refl _) _⟩
     have hC : Below w4.heap.size w4 w4 := Below.refl _ _
     have hBr := hB4
     have zhT11 : b1 + 1 < w4.heap.size := (Array.getElem?_eq_some_iff.1 hT11).1
     have zhP0 : bhP0 < w4.heap.size := (Array.getElem?_eq_some_iff.1 hP0).1
     have hst0 := hst
     have HR20 := HR2
     have hT110 := hT11
     have hP00 := hP0
     repeat (first | (refine wpPlanFA_skip _ rfl (by rfl) ?_; simp only [Act.put, List.setIfInBounds_toArray, List.set_cons_zero, List.set_cons_succ]) | (refine wpPlanFA_soft _ ?_ rfl (by rfl) ?_ ?_; rotate_left; (intro wq hq hcq; go_simp; first | exact rfl | exact ⟨rfl, rfl⟩); simp only [Act.put, List.setIfInBounds_toArray, List.set_cons_zero, List.set_cons_succ]))
     refine wpPlanFA_hard _ rfl (by rfl) (fun w5 hS K hK => ?_)
     have hB5 := hB4.call hS rfl
     replace hC := hC.call hS rfl
     replace hst := hst.below hS
     replace HR2 := HR2.below hS
     replace hT11 := blkb hT11 hS
     replace hP0 := blkb hP0 hS
     clear hS hB4
     go_simp
     have hb := bl2 w5 (Obj.cells #[] 80)
     have hN7 : (w5.alloc (Obj.cells #[] 80)).heap[w5.heap.size]? = some (.cells #[] 80 (0, 0)) := heap_new rfl
     refine hK _ _ (hC.call hb rfl) hb ?_
     clear hK K
     generalize hWn : w5.alloc (Obj.cells #[] 80) = w6 at hb hN7 ⊢
     clear hWn
     obtain ⟨bN7, hbn⟩ : ∃ b, b = w5.heap.size := ⟨_, rfl⟩
     rw [← hbn] at hN7 ⊢
     clear hbn
     have hB6 := hB5.call hb rfl
     replace hC := hC.call hb rfl
     replace hst := hst.below hb
     replace HR2 := HR2.below hb
     replace hT11 := blkb hT11 hb
     replace hP0 := blkb hP0 hb
     clear hb hB5
     try simp only [Act.put, List.setIfInBounds_toArray, List.set_cons_zero, List.set_cons_succ]
     refine wpPlanFA_hard _ rfl (by rfl) (fun w7 hS K hK => ?_)
     have hB7 := hB6.call hS rfl
     replace hC := hC.call hS rfl
     replace hst := hst.below hS
     replace HR2 := HR2.below hS
     replace hT11 := blkb hT11 hS
     replace hP0 := blkb hP0 hS
     replace hN7 := blkb hN7 hS
     clear hS hB6
     refine wp_copyY _ _ rfl bN7 hN7 rfl A2 n cap2 rfl l HR2 (by omega) ?_
     intro X9 xc9 w8 hX9 hb
     have hB8 := hB7.call hb rfl
     replace hC := hC.call hb rfl
     replace hst := hst.below hb
     replace HR2 := HR2.below hb
     replace hT11 := blkb hT11 hb
     replace hP0 := blkb hP0 hb
     replace hN7 := blkb hN7 hb
     refine hK _ _ hC hb ?_
     clear hK K hb hB7
     try simp only [Act.put, List.setIfInBounds_toArray, List.set_cons_zero, List.set_cons_succ]
     repeat (first | (refine wpPlanFA_skip _ rfl (by rfl) ?_; simp only [Act.put, List.setIfInBounds_toArray, List.set_cons_zero, List.set_cons_succ]) | (refine wpPlanFA_soft _ ?_ rfl (by rfl) ?_ ?_; rotate_left; (intro wq hq hcq; go_simp; first | exact rfl | exact ⟨rfl, rfl⟩); simp only [Act.put, List.setIfInBounds_toArray, List.set_cons_zero, List.set_cons_succ]))
     refine wpPlanFA_hard _ rfl (by rfl) (fun w9 hS K hK => ?_)
     have hB9 := hB8.call hS rfl
     replace hC := hC.call hS rfl
     replace hst := hst.below hS
     replace HR2 := HR2.below hS
     replace hT11 := blkb hT11 hS
     replace hP0 := blkb hP0 hS
     replace hN7 := blkb hN7 hS
     replace hX9 := hX9.below hS
     clear hS hB8
     go_simp
     refine (K19.out _ _ _ hX9).mono ?_
     rintro e w10 ⟨rfl, hb⟩
     have hB10 := hB9.call hb rfl
     replace hC := hC.call hb rfl
     replace hst := hst.below hb
     replace HR2 := HR2.below hb
     replace hT11 := blkb hT11 hb
     replace hP0 := blkb hP0 hb
     replace hN7 := blkb hN7 hb
     replace hX9 := hX9.below hb
     refine hK _ _ hC hb ?_
     clear hK K hb hB9
     try simp only [Act.put, List.setIfInBounds_toArray, List.set_cons_zero, List.set_cons_succ]
     repeat (first | (refine wpPlanFA_skip _ rfl (by rfl) ?_; simp only [Act.put, List.setIfInBounds_toArray, List.set_cons_zero, List.set_cons_succ]) | (refine wpPlanFA_soft _ ?_ rfl (by rfl) ?_ ?_; rotate_left; (intro wq hq hcq; go_simp; first | exact rfl | exact ⟨rfl, rfl⟩); simp only [Act.put, List.setIfInBounds_toArray, List.set_cons_zero, List.set_cons_succ]))
     refine wpPlanFA_float _ rfl (fun v w11 hS hv => ?_)
     obtain ⟨bhQ1, rfl, hge, hQ1⟩ := hv
     have hB11 := hB10.call hS rfl
     replace hC := hC.call hS rfl
     replace hst := hst.below hS
     replace HR2 := HR2.below hS
     replace hT11 := blkb hT11 hS
     replace hP0 := blkb hP0 hS
     replace hN7 := blkb hN7 hS
     replace hX9 := hX9.below hS
     clear hS hB10
     try simp only [Act.put, List.setIfInBounds_toArray, List.set_cons_zero, List.set_cons_succ]
     refine wpPlanFA_late _ rfl (by rfl) (fun w12 hS K hK => ?_)
     replace hC := hC.call hS rfl
     replace hQ1 := blkb hQ1 hS
     clear hS hB11 hst HR2 hT11 hP0 hN7 hX9
     refine wp_store_blk 84 _ _ rfl bhQ1 _ rfl rfl hQ1 ?s1 ?s2 ?s3 ?_
     case s1 => rfl
     case s2 => kernel_rfl
     case s3 => simp [Value.oneCell']
     intro w13 hQ1n hg3 hs3
     replace hC : Below w4.heap.size w4 w13 := hC.grown hg3 hC.size (fun j hj => by cases hj; exact hge)
     refine hK _ _ hC ?_
     clear hK K hQ1 hg3 hs3
     have hQ1 := hQ1n
     clear hQ1n
     have hB13 := hBr.call hC rfl
     have hst := hst0.below hC
     have HR2 := HR20.below hC
     have hT11 := blkb hT110 hC
     have hP0 := blkb hP00 hC
     try simp only [Act.put, List.setIfInBounds_toArray, List.set_cons_zero, List.set_cons_succ]
     repeat (first | (refine wpPlanFA_skip _ rfl (by rfl) ?_; simp only [Act.put, List.setIfInBounds_toArray, List.set_cons_zero, List.set_cons_succ]) | (refine wpPlanFA_soft _ ?_ rfl (by rfl) ?_ ?_; rotate_left; (intro wq hq hcq; go_simp; first | exact rfl | exact ⟨rfl, rfl⟩); simp only [Act.put, List.setIfInBounds_toArray, List.set_cons_zero, List.set_cons_succ]))
     clear qhT11_0 qhT11_1 qhT11_2 qhT11_3 qhP0_0 qhP0_1 qhP0_2 qhP0_3
     refine wpPlanFA_nil (fun w14 hS => ?_)
     clear hC hge hBr zhT11 zhP0 hst0 HR20 hT110 hP00
     have hB14 := hB13.call hS rfl
     replace hst := hst.below hS
     replace HR2 := HR2.below hS
     replace hT11 := blkb hT11 hS
     replace hP0 := blkb hP0 hS
     replace hQ1 := blkb hQ1 hS
     clear hS hB13
     have qhT11_0 : w14.cell? ⟨b1 + 1, 0, none⟩ = some (.float .f32 (smB a3)) := cell_at hT11 rfl
     have qhT11_1 : w14.cell? ⟨b1 + 1, 1, none⟩ = some (.float .f32 (smB a0)) := cell_at hT11 rfl
     have qhT11_2 : w14.cell? ⟨b1 + 1, 2, none⟩ = some (.float .f32 (smB a1)) := cell_at hT11 rfl
     have qhT11_3 : w14.cell? ⟨b1 + 1, 3, none⟩ = some (.float .f32 (smB a2)) := cell_at hT11 rfl
     have qhP0_0 : w14.cell? ⟨bhP0, 0, none⟩ = some (.complex .f32 p0.a0 p0.b0) := cell_at hP0 rfl
     have qhP0_1 : w14.cell? ⟨bhP0, 1, none⟩ = some (.complex .f32 p0.a1 p0.b1) := cell_at hP0 rfl
     have qhP0_2 : w14.cell? ⟨bhP0, 2, none⟩ = some (.complex .f32 p0.a2 p0.b2) := cell_at hP0 rfl
     have qhP0_3 : w14.cell? ⟨bhP0, 3, none⟩ = some (.complex .f32 p0.a3 p0.b3) := cell_at hP0 rfl
     have qhQ1_0 : w14.cell? ⟨bhQ1, 0, none⟩ = some (.complex .f32 p1.a0 p1.b0) := cell_at hQ1 rfl
     have qhQ1_1 : w14.cell? ⟨bhQ1, 1, none⟩ = some (.complex .f32 p1.a1 p1.b1) := cell_at hQ1 rfl
     have qhQ1_2 : w14.cell? ⟨bhQ1, 2, none⟩ = some (.complex .f32 p1.a2 p1.b2) := cell_at hQ1 rfl
     have qhQ1_3 : w14.cell? ⟨bhQ1, 3, none⟩ = some (.complex .f32 p1.a3 p1.b3) := cell_at hQ1 rfl
     as_aux_lemma =>
      go_wp2_with fail
      refine wp_region_planF (Φ := Fresh w14.heap.size #[.complex .f32 0 0, .complex .f32 0 0, .complex .f32 0 0, .complex .f32 0 0] 84) [(0, 1), (2, 1), (1, 0), (3, 0), (4, 0), (5, 1), (6, 1), (7, 1), (8, 2), (9, 3), (10, 1)] 8 w14.heap.size _ rfl (by kernel_rfl) (by kernel_rfl) (Nat.le_refl _) (fun _ _ d _ _ h => by cases d <;> exact h) (fun _ _ d _ _ h => by cases d <;> exact h) (fun v w w' hv hb => hv.below hb) ?hF ?_
      case hF =>
       intro a wq hq
       refine ⟨rfl, ?_⟩
       have hsz := hq.size
       go_simp
       exact ⟨_, rfl, ⟨_, rfl, hsz, heap_new rfl⟩, (Below.refl _ _).alloc (Nat.le_refl _) _⟩
      have hC : Below w14.heap.size w14 w14 := Below.refl _ _
      have hBr := hB14
      have zhT11 : b1 + 1 < w14.heap.size := (Array.getElem?_eq_some_iff.1 hT11).1
      have zhP0 : bhP0 < w14.heap.size := (Array.getElem?_eq_some_iff.1 hP0).1
      have zhQ1 : bhQ1 < w14.heap.size := (Array.getElem?_eq_some_iff.1 hQ1).1
      have hst0 := hst
      have HR20 := HR2
      have hT110 := hT11
      have hP00 := hP0
      have hQ10 := hQ1
      repeat (first | (refine wpPlanFA_skip _ rfl (by rfl) ?_; simp only [Act.put, List.setIfInBounds_toArray, List.set_cons_zero, List.set_cons_succ]) | (refine wpPlanFA_soft _ ?_ rfl (by rfl) ?_ ?_; rotate_left; (intro wq hq hcq; go_simp; first | exact rfl | exact ⟨rfl, rfl⟩); simp only [Act.put, List.setIfInBounds_toArray, List.set_cons_zero, List.set_cons_succ]))
      refine wpPlanFA_hard _ rfl (by rfl) (fun w15 hS K hK => ?_)
      have hB15 := hB14.call hS rfl
      replace hC := hC.call hS rfl
      replace hst := hst.below hS
      replace HR2 := HR2.below hS
      replace hT11 := blkb hT11 hS
      replace hP0 := blkb hP0 hS
      replace hQ1 := blkb hQ1 hS
      clear hS hB14
      go_simp
      have hb := bl2 w15 (Obj.cells #[] 80)
      have hN7 : (w15.alloc (Obj.cells #[] 80)).heap[w15.heap.size]? = some (.cells #[] 80 (0, 0)) := heap_new rfl
      refine hK _ _ (hC.call hb rfl) hb ?_
      clear hK K
      generalize hWn : w15.alloc (Obj.cells #[] 80) = w16 at hb hN7 ⊢
      clear hWn
      obtain ⟨bN7, hbn⟩ : ∃ b, b = w15.heap.size := ⟨_, rfl⟩
      rw [← hbn] at hN7 ⊢
      clear hbn
      have hB16 := hB15.call hb rfl
      replace hC := hC.call hb rfl
      replace hst := hst.below hb
      replace HR2 := HR2.below hb
      replace hT11 := blkb hT11 hb
      replace hP0 := blkb hP0 hb
      replace hQ1 := blkb hQ1 hb
      clear hb hB15
      try simp only [Act.put, List.setIfInBounds_toArray, List.set_cons_zero, List.set_cons_succ]
      refine wpPlanFA_hard _ rfl (by rfl) (fun w17 hS K hK => ?_)
      have hB17 := hB16.call hS rfl
      replace hC := hC.call hS rfl
      replace hst := hst.below hS
      replace HR2 := HR2.below hS
      replace hT11 := blkb hT11 hS
      replace hP0 := blkb hP0 hS
      replace hQ1 := blkb hQ1 hS
      replace hN7 := blkb hN7 hS
      clear hS hB16
      refine wp_copyY _ _ rfl bN7 hN7 rfl A2 n cap2 rfl l HR2 (by omega) ?_
      intro X9 xc9 w18 hX9 hb
      have hB18 := hB17.call hb rfl
      replace hC := hC.call hb rfl
      replace hst := hst.below hb
      replace HR2 := HR2.below hb
      replace hT11 := blkb hT11 hb
      replace hP0 := blkb hP0 hb
      replace hQ1 := blkb hQ1 hb
      replace hN7 := blkb hN7 hb
      refine hK _ _ hC hb ?_
      clear hK K hb hB17
      try simp only [Act.put, List.setIfInBounds_toArray, List.set_cons_zero, List.set_cons_succ]
      repeat (first | (refine wpPlanFA_skip _ rfl (by rfl) ?_; simp only [Act.put, List.setIfInBounds_toArray, List.set_cons_zero, List.set_cons_succ]) | (refine wpPlanFA_soft _ ?_ rfl (by rfl) ?_ ?_; rotate_left; (intro wq hq hcq; go_simp; first | exact rfl | exact ⟨rfl, rfl⟩); simp only [Act.put, List.setIfInBounds_toArray, List.set_cons_zero, List.set_cons_succ]))
      refine wpPlanFA_hard _ rfl (by rfl) (fun w19 hS K hK => ?_)
      have hB19 := hB18.call hS rfl
      replace hC := hC.call hS rfl
      replace hst := hst.below hS
      replace HR2 := HR2.below hS
      replace hT11 := blkb hT11 hS
      replace hP0 := blkb hP0 hS
      replace hQ1 := blkb hQ1 hS
      replace hN7 := blkb hN7 hS
      replace hX9 := hX9.below hS
      clear hS hB18
      go_simp
      refine (K20.out _ _ _ hX9).mono ?_
      rintro e w20 ⟨rfl, hb⟩
      have hB20 := hB19.call hb rfl
      replace hC := hC.call hb rfl
      replace hst := hst.below hb
      replace HR2 := HR2.below hb
      replace hT11 := blkb hT11 hb
      replace hP0 := blkb hP0 hb
      replace hQ1 := blkb hQ1 hb
      replace hN7 := blkb hN7 hb
      replace hX9 := hX9.below hb
      refine hK _ _ hC hb ?_
      clear hK K hb hB19
      try simp only [Act.put, List.setIfInBounds_toArray, List.set_cons_zero, List.set_cons_succ]
      repeat (first | (refine wpPlanFA_skip _ rfl (by rfl) ?_; simp only [Act.put, List.setIfInBounds_toArray, List.set_cons_zero, List.set_cons_succ]) | (refine wpPlanFA_soft _ ?_ rfl (by rfl) ?_ ?_; rotate_left; (intro wq hq hcq; go_simp; first | exact rfl | exact ⟨rfl, rfl⟩); simp only [Act.put, List.setIfInBounds_toArray, List.set_cons_zero, List.set_cons_succ]))
      refine wpPlanFA_float _ rfl (fun v w21 hS hv => ?_)
      obtain ⟨bhQ2, rfl, hge, hQ2⟩ := hv
      have hB21 := hB20.call hS rfl
      replace hC := hC.call hS rfl
      replace hst := hst.below hS
      replace HR2 := HR2.below hS
      replace hT11 := blkb hT11 hS
      replace hP0 := blkb hP0 hS
      replace hQ1 := blkb hQ1 hS
      replace hN7 := blkb hN7 hS
      replace hX9 := hX9.below hS
      clear hS hB20
      try simp only [Act.put, List.setIfInBounds_toArray, List.set_cons_zero, List.set_cons_succ]
      refine wpPlanFA_late _ rfl (by rfl) (fun w22 hS K hK => ?_)
      replace hC := hC.call hS rfl
      replace hQ2 := blkb hQ2 hS
      clear hS hB21 hst HR2 hT11 hP0 hQ1 hN7 hX9
      refine wp_store_blk 84 _ _ rfl bhQ2 _ rfl rfl hQ2 ?s1 ?s2 ?s3 ?_
      case s1 => rfl
      case s2 => kernel_rfl
      case s3 => simp [Value.oneCell']
      intro w23 hQ2n hg3 hs3
      replace hC : Below w14.heap.size w14 w23 := hC.grown hg3 hC.size (fun j hj => by cases hj; exact hge)
      refine hK _ _ hC ?_
      clear hK K hQ2 hg3 hs3
      have hQ2 := hQ2n
      clear hQ2n
      have hB23 := hBr.call hC rfl
      have hst := hst0.below hC
      have HR2 := HR20.below hC
      have hT11 := blkb hT110 hC
      have hP0 := blkb hP00 hC
      have hQ1 := blkb hQ10 hC
      try simp only [Act.put, List.setIfInBounds_toArray, List.set_cons_zero, List.set_cons_succ]
      repeat (first | (refine wpPlanFA_skip _ rfl (by rfl) ?_; simp only [Act.put, List.setIfInBounds_toArray, List.set_cons_zero, List.set_cons_succ]) | (refine wpPlanFA_soft _ ?_ rfl (by rfl) ?_ ?_; rotate_left; (intro wq hq hcq; go_simp; first | exact rfl | exact ⟨rfl, rfl⟩); simp only [Act.put, List.setIfInBounds_toArray, List.set_cons_zero, List.set_cons_succ]))
      clear qhT11_0 qhT11_1 qhT11_2 qhT11_3 qhP0_0 qhP0_1 qhP0_2 qhP0_3 qhQ1_0 qhQ1_1 qhQ1_2 qhQ1_3
      refine wpPlanFA_nil (fun w24 hS => ?_)
      clear hC hge hBr zhT11 zhP0 zhQ1 hst0 HR20 hT110 hP00 hQ10
      have hB24 := hB23.call hS rfl
      replace hst := hst.below hS
      replace HR2 := HR2.below hS
      replace hT11 := blkb hT11 hS
      replace hP0 := blkb hP0 hS
      replace hQ1 := blkb hQ1 hS
      replace hQ2 := blkb hQ2 hS
      clear hS hB23
      have qhT11_0 : w24.cell? ⟨b1 + 1, 0, none⟩ = some (.float .f32 (smB a3)) := cell_at hT11 rfl
      have qhT11_1 : w24.cell? ⟨b1 + 1, 1, none⟩ = some (.float .f32 (smB a0)) := cell_at hT11 rfl
      have qhT11_2 : w24.cell? ⟨b1 + 1, 2, none⟩ = some (.float .f32 (smB a1)) := cell_at hT11 rfl
      have qhT11_3 : w24.cell? ⟨b1 + 1, 3, none⟩ = some (.float .f32 (smB a2)) := cell_at hT11 rfl
      have qhP0_0 : w24.cell? ⟨bhP0, 0, none⟩ = some (.complex .f32 p0.a0 p0.b0) := cell_at hP0 rfl
      have qhP0_1 : w24.cell? ⟨bhP0, 1, none⟩ = some (.complex .f32 p0.a1 p0.b1) := cell_at hP0 rfl
      have qhP0_2 : w24.cell? ⟨bhP0, 2, none⟩ = some (.complex .f32 p0.a2 p0.b2) := cell_at hP0 rfl
      have qhP0_3 : w24.cell? ⟨bhP0, 3, none⟩ = some (.complex .f32 p0.a3 p0.b3) := cell_at hP0 rfl
      have qhQ1_0 : w24.cell? ⟨bhQ1, 0, none⟩ = some (.complex .f32 p1.a0 p1.b0) := cell_at hQ1 rfl
      have qhQ1_1 : w24.cell? ⟨bhQ1, 1, none⟩ = some (.complex .f32 p1.a1 p1.b1) := cell_at hQ1 rfl
      have qhQ1_2 : w24.cell? ⟨bhQ1, 2, none⟩ = some (.complex .f32 p1.a2 p1.b2) := cell_at hQ1 rfl
      have qhQ1_3 : w24.cell? ⟨bhQ1, 3, none⟩ = some (.complex .f32 p1.a3 p1.b3) := cell_at hQ1 rfl
      have qhQ2_0 : w24.cell? ⟨bhQ2, 0, none⟩ = some (.complex .f32 p2.a0 p2.b0) := cell_at hQ2 rfl
      have qhQ2_1 : w24.cell? ⟨bhQ2, 1, none⟩ = some (.complex .f32 p2.a1 p2.b1) := cell_at hQ2 rfl
      have qhQ2_2 : w24.cell? ⟨bhQ2, 2, none⟩ = some (.complex .f32 p2.a2 p2.b2) := cell_at hQ2 rfl
      have qhQ2_3 : w24.cell? ⟨bhQ2, 3, none⟩ = some (.complex .f32 p2.a3 p2.b3) := cell_at hQ2 rfl
      clear HR2 qhQ1_0 qhQ1_1 qhQ1_2 qhQ1_3 hQ1
      as_aux_lemma =>
       go_wp2_with fail
       refine (K21.out _).mono ?_
       rintro e w25 ⟨rfl, hb⟩
       clear qhT11_0 qhT11_1 qhT11_2 qhT11_3 qhP0_0 qhP0_1 qhP0_2 qhP0_3 qhQ2_0 qhQ2_1 qhQ2_2 qhQ2_3
       have hS := hb
       have hB25 := hB24.call hS rfl
       replace hst := hst.below hS
       replace hT11 := blkb hT11 hS
       replace hP0 := blkb hP0 hS
       replace hQ2 := blkb hQ2 hS
       clear hS hB24
       have qhT11_0 : w25.cell? ⟨b1 + 1, 0, none⟩ = some (.float .f32 (smB a3)) := cell_at hT11 rfl
       have qhT11_1 : w25.cell? ⟨b1 + 1, 1, none⟩ = some (.float .f32 (smB a0)) := cell_at hT11 rfl
       have qhT11_2 : w25.cell? ⟨b1 + 1, 2, none⟩ = some (.float .f32 (smB a1)) := cell_at hT11 rfl
       have qhT11_3 : w25.cell? ⟨b1 + 1, 3, none⟩ = some (.float .f32 (smB a2)) := cell_at hT11 rfl
       have qhP0_0 : w25.cell? ⟨bhP0, 0, none⟩ = some (.complex .f32 p0.a0 p0.b0) := cell_at hP0 rfl
       have qhP0_1 : w25.cell? ⟨bhP0, 1, none⟩ = some (.complex .f32 p0.a1 p0.b1) := cell_at hP0 rfl
       have qhP0_2 : w25.cell? ⟨bhP0, 2, none⟩ = some (.complex .f32 p0.a2 p0.b2) := cell_at hP0 rfl
       have qhP0_3 : w25.cell? ⟨bhP0, 3, none⟩ = some (.complex .f32 p0.a3 p0.b3) := cell_at hP0 rfl
       have qhQ2_0 : w25.cell? ⟨bhQ2, 0, none⟩ = some (.complex .f32 p2.a0 p2.b0) := cell_at hQ2 rfl
       have qhQ2_1 : w25.cell? ⟨bhQ2, 1, none⟩ = some (.complex .f32 p2.a1 p2.b1) := cell_at hQ2 rfl
       have qhQ2_2 : w25.cell? ⟨bhQ2, 2, none⟩ = some (.complex .f32 p2.a2 p2.b2) := cell_at hQ2 rfl
       have qhQ2_3 : w25.cell? ⟨bhQ2, 3, none⟩ = some (.complex .f32 p2.a3 p2.b3) := cell_at hQ2 rfl
       clear hb
       have hz : (w25.alloc (Obj.cells #[.complex .f32 0 0, .complex .f32 0 0, .complex .f32 0 0, .complex .f32 0 0] 84)).heap[w25.heap.size]? = some (Obj.cells #[.complex .f32 0 0, .complex .f32 0 0, .complex .f32 0 0, .complex .f32 0 0] 84) := heap_new rfl
       go_wp2_with (refine wpList_store_blk rfl 84 _ _ rfl w25.heap.size _ rfl rfl hz ?s1 ?s2 ?s3 ?_)
       case s1 => rfl
       case s2 => kernel_rfl
       case s3 => simp [Value.oneCell']
       intro w26 hQ3 hg3 hs3
       clear qhT11_0 qhT11_1 qhT11_2 qhT11_3 qhP0_0 qhP0_1 qhP0_2 qhP0_3 qhQ2_0 qhQ2_1 qhQ2_2 qhQ2_3
       have hS := ((Below.refl _ _).alloc (Nat.le_refl _) _).grown hg3 (by simp) (fun j hj => by cases hj; exact Nat.le_refl _)
       have hB26 := hB25.call hS rfl
       replace hst := hst.below hS
       replace hT11 := blkb hT11 hS
       replace hP0 := blkb hP0 hS
       replace hQ2 := blkb hQ2 hS
       clear hS hB25
       have qhT11_0 : w26.cell? ⟨b1 + 1, 0, none⟩ = some (.float .f32 (smB a3)) := cell_at hT11 rfl
       have qhT11_1 : w26.cell? ⟨b1 + 1, 1, none⟩ = some (.float .f32 (smB a0)) := cell_at hT11 rfl
       have qhT11_2 : w26.cell? ⟨b1 + 1, 2, none⟩ = some (.float .f32 (smB a1)) := cell_at hT11 rfl
       have qhT11_3 : w26.cell? ⟨b1 + 1, 3, none⟩ = some (.float .f32 (smB a2)) := cell_at hT11 rfl
       have qhP0_0 : w26.cell? ⟨bhP0, 0, none⟩ = some (.complex .f32 p0.a0 p0.b0) := cell_at hP0 rfl
       have qhP0_1 : w26.cell? ⟨bhP0, 1, none⟩ = some (.complex .f32 p0.a1 p0.b1) := cell_at hP0 rfl
       have qhP0_2 : w26.cell? ⟨bhP0, 2, none⟩ = some (.complex .f32 p0.a2 p0.b2) := cell_at hP0 rfl
       have qhP0_3 : w26.cell? ⟨bhP0, 3, none⟩ = some (.complex .f32 p0.a3 p0.b3) := cell_at hP0 rfl
       have qhQ2_0 : w26.cell? ⟨bhQ2, 0, none⟩ = some (.complex .f32 p2.a0 p2.b0) := cell_at hQ2 rfl
       have qhQ2_1 : w26.cell? ⟨bhQ2, 1, none⟩ = some (.complex .f32 p2.a1 p2.b1) := cell_at hQ2 rfl
       have qhQ2_2 : w26.cell? ⟨bhQ2, 2, none⟩ = some (.complex .f32 p2.a2 p2.b2) := cell_at hQ2 rfl
       have qhQ2_3 : w26.cell? ⟨bhQ2, 3, none⟩ = some (.complex .f32 p2.a3 p2.b3) := cell_at hQ2 rfl
       clear hz hg3 hs3
       obtain ⟨bhQ3, hbhQ3⟩ : ∃ b, b = w25.heap.size := ⟨_, rfl⟩
       rw [← hbhQ3] at hQ3 ⊢
       clear hbhQ3
       have qhQ3_0 : w26.cell? ⟨bhQ3, 0, none⟩ = some (.complex .f32 p3.a0 p3.b0) := cell_at hQ3 rfl
       have qhQ3_1 : w26.cell? ⟨bhQ3, 1, none⟩ = some (.complex .f32 p3.a1 p3.b1) := cell_at hQ3 rfl
       have qhQ3_2 : w26.cell? ⟨bhQ3, 2, none⟩ = some (.complex .f32 p3.a2 p3.b2) := cell_at hQ3 rfl
       have qhQ3_3 : w26.cell? ⟨bhQ3, 3, none⟩ = some (.complex .f32 p3.a3 p3.b3) := cell_at hQ3 rfl
       go_wp2_with fail
       refine (K22.out _).mono ?_
       rintro e w27 ⟨rfl, hb⟩
       clear qhT11_0 qhT11_1 qhT11_2 qhT11_3 qhP0_0 qhP0_1 qhP0_2 qhP0_3 qhQ2_0 qhQ2_1 qhQ2_2 qhQ2_3 qhQ3_0 qhQ3_1 qhQ3_2 qhQ3_3
       have hS := hb
       have hB27 := hB26.call hS rfl
       replace hst := hst.below hS
       replace hT11 := blkb hT11 hS
       replace hP0 := blkb hP0 hS
       replace hQ2 := blkb hQ2 hS
       replace hQ3 := blkb hQ3 hS
       clear hS hB26
       have qhT11_0 : w27.cell? ⟨b1 + 1, 0, none⟩ = some (.float .f32 (smB a3)) := cell_at hT11 rfl
       have qhT11_1 : w27.cell? ⟨b1 + 1, 1, none⟩ = some (.float .f32 (smB a0)) := cell_at hT11 rfl
       have qhT11_2 : w27.cell? ⟨b1 + 1, 2, none⟩ = some (.float .f32 (smB a1)) := cell_at hT11 rfl
       have qhT11_3 : w27.cell? ⟨b1 + 1, 3, none⟩ = some (.float .f32 (smB a2)) := cell_at hT11 rfl
       have qhP0_0 : w27.cell? ⟨bhP0, 0, none⟩ = some (.complex .f32 p0.a0 p0.b0) := cell_at hP0 rfl
       have qhP0_1 : w27.cell? ⟨bhP0, 1, none⟩ = some (.complex .f32 p0.a1 p0.b1) := cell_at hP0 rfl
       have qhP0_2 : w27.cell? ⟨bhP0, 2, none⟩ = some (.complex .f32 p0.a2 p0.b2) := cell_at hP0 rfl
       have qhP0_3 : w27.cell? ⟨bhP0, 3, none⟩ = some (.complex .f32 p0.a3 p0.b3) := cell_at hP0 rfl
       have qhQ2_0 : w27.cell? ⟨bhQ2, 0, none⟩ = some (.complex .f32 p2.a0 p2.b0) := cell_at hQ2 rfl
       have qhQ2_1 : w27.cell? ⟨bhQ2, 1, none⟩ = some (.complex .f32 p2.a1 p2.b1) := cell_at hQ2 rfl
       have qhQ2_2 : w27.cell? ⟨bhQ2, 2, none⟩ = some (.complex .f32 p2.a2 p2.b2) := cell_at hQ2 rfl
       have qhQ2_3 : w27.cell? ⟨bhQ2, 3, none⟩ = some (.complex .f32 p2.a3 p2.b3) := cell_at hQ2 rfl
       have qhQ3_0 : w27.cell? ⟨bhQ3, 0, none⟩ = some (.complex .f32 p3.a0 p3.b0) := cell_at hQ3 rfl
       have qhQ3_1 : w27.cell? ⟨bhQ3, 1, none⟩ = some (.complex .f32 p3.a1 p3.b1) := cell_at hQ3 rfl
       have qhQ3_2 : w27.cell? ⟨bhQ3, 2, none⟩ = some (.complex .f32 p3.a2 p3.b2) := cell_at hQ3 rfl
       have qhQ3_3 : w27.cell? ⟨bhQ3, 3, none⟩ = some (.complex .f32 p3.a3 p3.b3) := cell_at hQ3 rfl
       clear hb
       have hz : (w27.alloc (Obj.cells #[.complex .f32 0 0, .complex .f32 0 0, .complex .f32 0 0, .complex .f32 0 0] 84)).heap[w27.heap.size]? = some (Obj.cells #[.complex .f32 0 0, .complex .f32 0 0, .complex .f32 0 0, .complex .f32 0 0] 84) := heap_new rfl
       go_wp2_with (refine wpList_store_blk rfl 84 _ _ rfl w27.heap.size _ rfl rfl hz ?s1 ?s2 ?s3 ?_)
       case s1 => rfl
       case s2 => kernel_rfl
       case s3 => simp [Value.oneCell']
       intro w28 hQ4 hg3 hs3
       clear qhT11_0 qhT11_1 qhT11_2 qhT11_3 qhP0_0 qhP0_1 qhP0_2 qhP0_3 qhQ2_0 qhQ2_1 qhQ2_2 qhQ2_3 qhQ3_0 qhQ3_1 qhQ3_2 qhQ3_3
       have hS := ((Below.refl _ _).alloc (Nat.le_refl _) _).grown hg3 (by simp) (fun j hj => by cases hj; exact Nat.le_refl _)
       have hB28 := hB27.call hS rfl
       replace hst := hst.below hS
       replace hT11 := blkb hT11 hS
       replace hP0 := blkb hP0 hS
       replace hQ2 := blkb hQ2 hS
       replace hQ3 := blkb hQ3 hS
       clear hS hB27
       have qhT11_0 : w28.cell? ⟨b1 + 1, 0, none⟩ = some (.float .f32 (smB a3)) := cell_at hT11 rfl
       have qhT11_1 : w28.cell? ⟨b1 + 1, 1, none⟩ = some (.float .f32 (smB a0)) := cell_at hT11 rfl
       have qhT11_2 : w28.cell? ⟨b1 + 1, 2, none⟩ = some (.float .f32 (smB a1)) := cell_at hT11 rfl
       have qhT11_3 : w28.cell? ⟨b1 + 1, 3, none⟩ = some (.float .f32 (smB a2)) := cell_at hT11 rfl
       have qhP0_0 : w28.cell? ⟨bhP0, 0, none⟩ = some (.complex .f32 p0.a0 p0.b0) := cell_at hP0 rfl
       have qhP0_1 : w28.cell? ⟨bhP0, 1, none⟩ = some (.complex .f32 p0.a1 p0.b1) := cell_at hP0 rfl
       have qhP0_2 : w28.cell? ⟨bhP0, 2, none⟩ = some (.complex .f32 p0.a2 p0.b2) := cell_at hP0 rfl
       have qhP0_3 : w28.cell? ⟨bhP0, 3, none⟩ = some (.complex .f32 p0.a3 p0.b3) := cell_at hP0 rfl
       have qhQ2_0 : w28.cell? ⟨bhQ2, 0, none⟩ = some (.complex .f32 p2.a0 p2.b0) := cell_at hQ2 rfl
       have qhQ2_1 : w28.cell? ⟨bhQ2, 1, none⟩ = some (.complex .f32 p2.a1 p2.b1) := cell_at hQ2 rfl
       have qhQ2_2 : w28.cell? ⟨bhQ2, 2, none⟩ = some (.complex .f32 p2.a2 p2.b2) := cell_at hQ2 rfl
       have qhQ2_3 : w28.cell? ⟨bhQ2, 3, none⟩ = some (.complex .f32 p2.a3 p2.b3) := cell_at hQ2 rfl
       have qhQ3_0 : w28.cell? ⟨bhQ3, 0, none⟩ = some (.complex .f32 p3.a0 p3.b0) := cell_at hQ3 rfl
       have qhQ3_1 : w28.cell? ⟨bhQ3, 1, none⟩ = some (.complex .f32 p3.a1 p3.b1) := cell_at hQ3 rfl
       have qhQ3_2 : w28.cell? ⟨bhQ3, 2, none⟩ = some (.complex .f32 p3.a2 p3.b2) := cell_at hQ3 rfl
       have qhQ3_3 : w28.cell? ⟨bhQ3, 3, none⟩ = some (.complex .f32 p3.a3 p3.b3) := cell_at hQ3 rfl
       clear hz hg3 hs3
       obtain ⟨bhQ4, hbhQ4⟩ : ∃ b, b = w27.heap.size := ⟨_, rfl⟩
       rw [← hbhQ4] at hQ4 ⊢
       clear hbhQ4
       have qhQ4_0 : w28.cell? ⟨bhQ4, 0, none⟩ = some (.complex .f32 p4.a0 p4.b0) := cell_at hQ4 rfl
       have qhQ4_1 : w28.cell? ⟨bhQ4, 1, none⟩ = some (.complex .f32 p4.a1 p4.b1) := cell_at hQ4 rfl
       have qhQ4_2 : w28.cell? ⟨bhQ4, 2, none⟩ = some (.complex .f32 p4.a2 p4.b2) := cell_at hQ4 rfl
       have qhQ4_3 : w28.cell? ⟨bhQ4, 3, none⟩ = some (.complex .f32 p4.a3 p4.b3) := cell_at hQ4 rfl
       go_wp2_with fail
       refine (K23.out _).mono ?_
       rintro e w29 ⟨rfl, hb⟩
       clear qhT11_0 qhT11_1 qhT11_2 qhT11_3 qhP0_0 qhP0_1 qhP0_2 qhP0_3 qhQ2_0 qhQ2_1 qhQ2_2 qhQ2_3 qhQ3_0 qhQ3_1 qhQ3_2 qhQ3_3 qhQ4_0 qhQ4_1 qhQ4_2 qhQ4_3
       have hS := hb
       have hB29 := hB28.call hS rfl
       replace hst := hst.below hS
       replace hT11 := blkb hT11 hS
       replace hP0 := blkb hP0 hS
       replace hQ2 := blkb hQ2 hS
       replace hQ3 := blkb hQ3 hS
       replace hQ4 := blkb hQ4 hS
       clear hS hB28
       have qhT11_0 : w29.cell? ⟨b1 + 1, 0, none⟩ = some (.float .f32 (smB a3)) := cell_at hT11 rfl
       have qhT11_1 : w29.cell? ⟨b1 + 1, 1, none⟩ = some (.float .f32 (smB a0)) := cell_at hT11 rfl
       have qhT11_2 : w29.cell? ⟨b1 + 1, 2, none⟩ = some (.float .f32 (smB a1)) := cell_at hT11 rfl
       have qhT11_3 : w29.cell? ⟨b1 + 1, 3, none⟩ = some (.float .f32 (smB a2)) := cell_at hT11 rfl
       have qhP0_0 : w29.cell? ⟨bhP0, 0, none⟩ = some (.complex .f32 p0.a0 p0.b0) := cell_at hP0 rfl
       have qhP0_1 : w29.cell? ⟨bhP0, 1, none⟩ = some (.complex .f32 p0.a1 p0.b1) := cell_at hP0 rfl
       have qhP0_2 : w29.cell? ⟨bhP0, 2, none⟩ = some (.complex .f32 p0.a2 p0.b2) := cell_at hP0 rfl
       have qhP0_3 : w29.cell? ⟨bhP0, 3, none⟩ = some (.complex .f32 p0.a3 p0.b3) := cell_at hP0 rfl
       have qhQ2_0 : w29.cell? ⟨bhQ2, 0, none⟩ = some (.complex .f32 p2.a0 p2.b0) := cell_at hQ2 rfl
       have qhQ2_1 : w29.cell? ⟨bhQ2, 1, none⟩ = some (.complex .f32 p2.a1 p2.b1) := cell_at hQ2 rfl
       have qhQ2_2 : w29.cell? ⟨bhQ2, 2, none⟩ = some (.complex .f32 p2.a2 p2.b2) := cell_at hQ2 rfl
       have qhQ2_3 : w29.cell? ⟨bhQ2, 3, none⟩ = some (.complex .f32 p2.a3 p2.b3) := cell_at hQ2 rfl
       have qhQ3_0 : w29.cell? ⟨bhQ3, 0, none⟩ = some (.complex .f32 p3.a0 p3.b0) := cell_at hQ3 rfl
       have qhQ3_1 : w29.cell? ⟨bhQ3, 1, none⟩ = some (.complex .f32 p3.a1 p3.b1) := cell_at hQ3 rfl
       have qhQ3_2 : w29.cell? ⟨bhQ3, 2, none⟩ = some (.complex .f32 p3.a2 p3.b2) := cell_at hQ3 rfl
       have qhQ3_3 : w29.cell? ⟨bhQ3, 3, none⟩ = some (.complex .f32 p3.a3 p3.b3) := cell_at hQ3 rfl
       have qhQ4_0 : w29.cell? ⟨bhQ4, 0, none⟩ = some (.complex .f32 p4.a0 p4.b0) := cell_at hQ4 rfl
       have qhQ4_1 : w29.cell? ⟨bhQ4, 1, none⟩ = some (.complex .f32 p4.a1 p4.b1) := cell_at hQ4 rfl
       have qhQ4_2 : w29.cell? ⟨bhQ4, 2, none⟩ = some (.complex .f32 p4.a2 p4.b2) := cell_at hQ4 rfl
       have qhQ4_3 : w29.cell? ⟨bhQ4, 3, none⟩ = some (.complex .f32 p4.a3 p4.b3) := cell_at hQ4 rfl
       clear hb
       have hz : (w29.alloc (Obj.cells #[.complex .f32 0 0, .complex .f32 0 0, .complex .f32 0 0, .complex .f32 0 0] 84)).heap[w29.heap.size]? = some (Obj.cells #[.complex .f32 0 0, .complex .f32 0 0, .complex .f32 0 0, .complex .f32 0 0] 84) := heap_new rfl
       go_wp2_with (refine wpList_store_blk rfl 84 _ _ rfl w29.heap.size _ rfl rfl hz ?s1 ?s2 ?s3 ?_)
       case s1 => rfl
       case s2 => kernel_rfl
       case s3 => simp [Value.oneCell']
       intro w30 hQ5 hg3 hs3
       clear qhT11_0 qhT11_1 qhT11_2 qhT11_3 qhP0_0 qhP0_1 qhP0_2 qhP0_3 qhQ2_0 qhQ2_1 qhQ2_2 qhQ2_3 qhQ3_0 qhQ3_1 qhQ3_2 qhQ3_3 qhQ4_0 qhQ4_1 qhQ4_2 qhQ4_3
       have hS := ((Below.refl _ _).alloc (Nat.le_refl _) _).grown hg3 (by simp) (fun j hj => by cases hj; exact Nat.le_refl _)
       have hB30 := hB29.call hS rfl
       replace hst := hst.below hS
       replace hT11 := blkb hT11 hS
       replace hP0 := blkb hP0 hS
       replace hQ2 := blkb hQ2 hS
       replace hQ3 := blkb hQ3 hS
       replace hQ4 := blkb hQ4 hS
       clear hS hB29
       have qhT11_0 : w30.cell? ⟨b1 + 1, 0, none⟩ = some (.float .f32 (smB a3)) := cell_at hT11 rfl
       have qhT11_1 : w30.cell? ⟨b1 + 1, 1, none⟩ = some (.float .f32 (smB a0)) := cell_at hT11 rfl
       have qhT11_2 : w30.cell? ⟨b1 + 1, 2, none⟩ = some (.float .f32 (smB a1)) := cell_at hT11 rfl
       have qhT11_3 : w30.cell? ⟨b1 + 1, 3, none⟩ = some (.float .f32 (smB a2)) := cell_at hT11 rfl
       have qhP0_0 : w30.cell? ⟨bhP0, 0, none⟩ = some (.complex .f32 p0.a0 p0.b0) := cell_at hP0 rfl
       have qhP0_1 : w30.cell? ⟨bhP0, 1, none⟩ = some (.complex .f32 p0.a1 p0.b1) := cell_at hP0 rfl
       have qhP0_2 : w30.cell? ⟨bhP0, 2, none⟩ = some (.complex .f32 p0.a2 p0.b2) := cell_at hP0 rfl
       have qhP0_3 : w30.cell? ⟨bhP0, 3, none⟩ = some (.complex .f32 p0.a3 p0.b3) := cell_at hP0 rfl
       have qhQ2_0 : w30.cell? ⟨bhQ2, 0, none⟩ = some (.complex .f32 p2.a0 p2.b0) := cell_at hQ2 rfl
       have qhQ2_1 : w30.cell? ⟨bhQ2, 1, none⟩ = some (.complex .f32 p2.a1 p2.b1) := cell_at hQ2 rfl
       have qhQ2_2 : w30.cell? ⟨bhQ2, 2, none⟩ = some (.complex .f32 p2.a2 p2.b2) := cell_at hQ2 rfl
       have qhQ2_3 : w30.cell? ⟨bhQ2, 3, none⟩ = some (.complex .f32 p2.a3 p2.b3) := cell_at hQ2 rfl
       have qhQ3_0 : w30.cell? ⟨bhQ3, 0, none⟩ = some (.complex .f32 p3.a0 p3.b0) := cell_at hQ3 rfl
       have qhQ3_1 : w30.cell? ⟨bhQ3, 1, none⟩ = some (.complex .f32 p3.a1 p3.b1) := cell_at hQ3 rfl
       have qhQ3_2 : w30.cell? ⟨bhQ3, 2, none⟩ = some (.complex .f32 p3.a2 p3.b2) := cell_at hQ3 rfl
       have qhQ3_3 : w30.cell? ⟨bhQ3, 3, none⟩ = some (.complex .f32 p3.a3 p3.b3) := cell_at hQ3 rfl
       have qhQ4_0 : w30.cell? ⟨bhQ4, 0, none⟩ = some (.complex .f32 p4.a0 p4.b0) := cell_at hQ4 rfl
       have qhQ4_1 : w30.cell? ⟨bhQ4, 1, none⟩ = some (.complex .f32 p4.a1 p4.b1) := cell_at hQ4 rfl
       have qhQ4_2 : w30.cell? ⟨bhQ4, 2, none⟩ = some (.complex .f32 p4.a2 p4.b2) := cell_at hQ4 rfl
       have qhQ4_3 : w30.cell? ⟨bhQ4, 3, none⟩ = some (.complex .f32 p4.a3 p4.b3) := cell_at hQ4 rfl
       clear hz hg3 hs3
       obtain ⟨bhQ5, hbhQ5⟩ : ∃ b, b = w29.heap.size := ⟨_, rfl⟩
       rw [← hbhQ5] at hQ5 ⊢
       clear hbhQ5
       have qhQ5_0 : w30.cell? ⟨bhQ5, 0, none⟩ = some (.complex .f32 p5.a0 p5.b0) := cell_at hQ5 rfl
       have qhQ5_1 : w30.cell? ⟨bhQ5, 1, none⟩ = some (.complex .f32 p5.a1 p5.b1) := cell_at hQ5 rfl
       have qhQ5_2 : w30.cell? ⟨bhQ5, 2, none⟩ = some (.complex .f32 p5.a2 p5.b2) := cell_at hQ5 rfl
       have qhQ5_3 : w30.cell? ⟨bhQ5, 3, none⟩ = some (.complex .f32 p5.a3 p5.b3) := cell_at hQ5 rfl
       go_wp2_with fail
       refine (K24.out _).mono ?_
       rintro e w31 ⟨rfl, hb⟩
       clear qhT11_0 qhT11_1 qhT11_2 qhT11_3 qhP0_0 qhP0_1 qhP0_2 qhP0_3 qhQ2_0 qhQ2_1 qhQ2_2 qhQ2_3 qhQ3_0 qhQ3_1 qhQ3_2 qhQ3_3 qhQ4_0 qhQ4_1 qhQ4_2 qhQ4_3 qhQ5_0 qhQ5_1 qhQ5_2 qhQ5_3
       have hS := hb
       have hB31 := hB30.call hS rfl
       replace hst := hst.below hS
       replace hT11 := blkb hT11 hS
       replace hP0 := blkb hP0 hS
       replace hQ2 := blkb hQ2 hS
       replace hQ3 := blkb hQ3 hS
       replace hQ4 := blkb hQ4 hS
       replace hQ5 := blkb hQ5 hS
       clear hS hB30
       have qhT11_0 : w31.cell? ⟨b1 + 1, 0, none⟩ = some (.float .f32 (smB a3)) := cell_at hT11 rfl
       have qhT11_1 : w31.cell? ⟨b1 + 1, 1, none⟩ = some (.float .f32 (smB a0)) := cell_at hT11 rfl
       have qhT11_2 : w31.cell? ⟨b1 + 1, 2, none⟩ = some (.float .f32 (smB a1)) := cell_at hT11 rfl
       have qhT11_3 : w31.cell? ⟨b1 + 1, 3, none⟩ = some (.float .f32 (smB a2)) := cell_at hT11 rfl
       have qhP0_0 : w31.cell? ⟨bhP0, 0, none⟩ = some (.complex .f32 p0.a0 p0.b0) := cell_at hP0 rfl
       have qhP0_1 : w31.cell? ⟨bhP0, 1, none⟩ = some (.complex .f32 p0.a1 p0.b1) := cell_at hP0 rfl
       have qhP0_2 : w31.cell? ⟨bhP0, 2, none⟩ = some (.complex .f32 p0.a2 p0.b2) := cell_at hP0 rfl
       have qhP0_3 : w31.cell? ⟨bhP0, 3, none⟩ = some (.complex .f32 p0.a3 p0.b3) := cell_at hP0 rfl
       have qhQ2_0 : w31.cell? ⟨bhQ2, 0, none⟩ = some (.complex .f32 p2.a0 p2.b0) := cell_at hQ2 rfl
       have qhQ2_1 : w31.cell? ⟨bhQ2, 1, none⟩ = some (.complex .f32 p2.a1 p2.b1) := cell_at hQ2 rfl
       have qhQ2_2 : w31.cell? ⟨bhQ2, 2, none⟩ = some (.complex .f32 p2.a2 p2.b2) := cell_at hQ2 rfl
       have qhQ2_3 : w31.cell? ⟨bhQ2, 3, none⟩ = some (.complex .f32 p2.a3 p2.b3) := cell_at hQ2 rfl
       have qhQ3_0 : w31.cell? ⟨bhQ3, 0, none⟩ = some (.complex .f32 p3.a0 p3.b0) := cell_at hQ3 rfl
       have qhQ3_1 : w31.cell? ⟨bhQ3, 1, none⟩ = some (.complex .f32 p3.a1 p3.b1) := cell_at hQ3 rfl
       have qhQ3_2 : w31.cell? ⟨bhQ3, 2, none⟩ = some (.complex .f32 p3.a2 p3.b2) := cell_at hQ3 rfl
       have qhQ3_3 : w31.cell? ⟨bhQ3, 3, none⟩ = some (.complex .f32 p3.a3 p3.b3) := cell_at hQ3 rfl
       have qhQ4_0 : w31.cell? ⟨bhQ4, 0, none⟩ = some (.complex .f32 p4.a0 p4.b0) := cell_at hQ4 rfl
       have qhQ4_1 : w31.cell? ⟨bhQ4, 1, none⟩ = some (.complex .f32 p4.a1 p4.b1) := cell_at hQ4 rfl
       have qhQ4_2 : w31.cell? ⟨bhQ4, 2, none⟩ = some (.complex .f32 p4.a2 p4.b2) := cell_at hQ4 rfl
       have qhQ4_3 : w31.cell? ⟨bhQ4, 3, none⟩ = some (.complex .f32 p4.a3 p4.b3) := cell_at hQ4 rfl
       have qhQ5_0 : w31.cell? ⟨bhQ5, 0, none⟩ = some (.complex .f32 p5.a0 p5.b0) := cell_at hQ5 rfl
       have qhQ5_1 : w31.cell? ⟨bhQ5, 1, none⟩ = some (.complex .f32 p5.a1 p5.b1) := cell_at hQ5 rfl
       have qhQ5_2 : w31.cell? ⟨bhQ5, 2, none⟩ = some (.complex .f32 p5.a2 p5.b2) := cell_at hQ5 rfl
       have qhQ5_3 : w31.cell? ⟨bhQ5, 3, none⟩ = some (.complex .f32 p5.a3 p5.b3) := cell_at hQ5 rfl
       clear hb
       have hz : (w31.alloc (Obj.cells #[.complex .f32 0 0, .complex .f32 0 0, .complex .f32 0 0, .complex .f32 0 0] 84)).heap[w31.heap.size]? = some (Obj.cells #[.complex .f32 0 0, .complex .f32 0 0, .complex .f32 0 0, .complex .f32 0 0] 84) := heap_new rfl
       go_wp2_with (refine wpList_store_blk rfl 84 _ _ rfl w31.heap.size _ rfl rfl hz ?s1 ?s2 ?s3 ?_)
       case s1 => rfl
       case s2 => kernel_rfl
       case s3 => simp [Value.oneCell']
       intro w32 hQ6 hg3 hs3
       clear qhT11_0 qhT11_1 qhT11_2 qhT11_3 qhP0_0 qhP0_1 qhP0_2 qhP0_3 qhQ2_0 qhQ2_1 qhQ2_2 qhQ2_3 qhQ3_0 qhQ3_1 qhQ3_2 qhQ3_3 qhQ4_0 qhQ4_1 qhQ4_2 qhQ4_3 qhQ5_0 qhQ5_1 qhQ5_2 qhQ5_3
       have hS := ((Below.refl _ _).alloc (Nat.le_refl _) _).grown hg3 (by simp) (fun j hj => by cases hj; exact Nat.le_refl _)
       have hB32 := hB31.call hS rfl
       replace hst := hst.below hS
       replace hT11 := blkb hT11 hS
       replace hP0 := blkb hP0 hS
       replace hQ2 := blkb hQ2 hS
       replace hQ3 := blkb hQ3 hS
       replace hQ4 := blkb hQ4 hS
       replace hQ5 := blkb hQ5 hS
       clear hS hB31
       have qhT11_0 : w32.cell? ⟨b1 + 1, 0, none⟩ = some (.float .f32 (smB a3)) := cell_at hT11 rfl
       have qhT11_1 : w32.cell? ⟨b1 + 1, 1, none⟩ = some (.float .f32 (smB a0)) := cell_at hT11 rfl
       have qhT11_2 : w32.cell? ⟨b1 + 1, 2, none⟩ = some (.float .f32 (smB a1)) := cell_at hT11 rfl
       have qhT11_3 : w32.cell? ⟨b1 + 1, 3, none⟩ = some (.float .f32 (smB a2)) := cell_at hT11 rfl
       have qhP0_0 : w32.cell? ⟨bhP0, 0, none⟩ = some (.complex .f32 p0.a0 p0.b0) := cell_at hP0 rfl
       have qhP0_1 : w32.cell? ⟨bhP0, 1, none⟩ = some (.complex .f32 p0.a1 p0.b1) := cell_at hP0 rfl
       have qhP0_2 : w32.cell? ⟨bhP0, 2, none⟩ = some (.complex .f32 p0.a2 p0.b2) := cell_at hP0 rfl
       have qhP0_3 : w32.cell? ⟨bhP0, 3, none⟩ = some (.complex .f32 p0.a3 p0.b3) := cell_at hP0 rfl
       have qhQ2_0 : w32.cell? ⟨bhQ2, 0, none⟩ = some (.complex .f32 p2.a0 p2.b0) := cell_at hQ2 rfl
       have qhQ2_1 : w32.cell? ⟨bhQ2, 1, none⟩ = some (.complex .f32 p2.a1 p2.b1) := cell_at hQ2 rfl
       have qhQ2_2 : w32.cell? ⟨bhQ2, 2, none⟩ = some (.complex .f32 p2.a2 p2.b2) := cell_at hQ2 rfl
       have qhQ2_3 : w32.cell? ⟨bhQ2, 3, none⟩ = some (.complex .f32 p2.a3 p2.b3) := cell_at hQ2 rfl
       have qhQ3_0 : w32.cell? ⟨bhQ3, 0, none⟩ = some (.complex .f32 p3.a0 p3.b0) := cell_at hQ3 rfl
       have qhQ3_1 : w32.cell? ⟨bhQ3, 1, none⟩ = some (.complex .f32 p3.a1 p3.b1) := cell_at hQ3 rfl
       have qhQ3_2 : w32.cell? ⟨bhQ3, 2, none⟩ = some (.complex .f32 p3.a2 p3.b2) := cell_at hQ3 rfl
       have qhQ3_3 : w32.cell? ⟨bhQ3, 3, none⟩ = some (.complex .f32 p3.a3 p3.b3) := cell_at hQ3 rfl
       have qhQ4_0 : w32.cell? ⟨bhQ4, 0, none⟩ = some (.complex .f32 p4.a0 p4.b0) := cell_at hQ4 rfl
       have qhQ4_1 : w32.cell? ⟨bhQ4, 1, none⟩ = some (.complex .f32 p4.a1 p4.b1) := cell_at hQ4 rfl
       have qhQ4_2 : w32.cell? ⟨bhQ4, 2, none⟩ = some (.complex .f32 p4.a2 p4.b2) := cell_at hQ4 rfl
       have qhQ4_3 : w32.cell? ⟨bhQ4, 3, none⟩ = some (.complex .f32 p4.a3 p4.b3) := cell_at hQ4 rfl
       have qhQ5_0 : w32.cell? ⟨bhQ5, 0, none⟩ = some (.complex .f32 p5.a0 p5.b0) := cell_at hQ5 rfl
       have qhQ5_1 : w32.cell? ⟨bhQ5, 1, none⟩ = some (.complex .f32 p5.a1 p5.b1) := cell_at hQ5 rfl
       have qhQ5_2 : w32.cell? ⟨bhQ5, 2, none⟩ = some (.complex .f32 p5.a2 p5.b2) := cell_at hQ5 rfl
       have qhQ5_3 : w32.cell? ⟨bhQ5, 3, none⟩ = some (.complex .f32 p5.a3 p5.b3) := cell_at hQ5 rfl
       clear hz hg3 hs3
       obtain ⟨bhQ6, hbhQ6⟩ : ∃ b, b = w31.heap.size := ⟨_, rfl⟩
       rw [← hbhQ6] at hQ6 ⊢
       clear hbhQ6
       have qhQ6_0 : w32.cell? ⟨bhQ6, 0, none⟩ = some (.complex .f32 p6.a0 p6.b0) := cell_at hQ6 rfl
       have qhQ6_1 : w32.cell? ⟨bhQ6, 1, none⟩ = some (.complex .f32 p6.a1 p6.b1) := cell_at hQ6 rfl
       have qhQ6_2 : w32.cell? ⟨bhQ6, 2, none⟩ = some (.complex .f32 p6.a2 p6.b2) := cell_at hQ6 rfl
       have qhQ6_3 : w32.cell? ⟨bhQ6, 3, none⟩ = some (.complex .f32 p6.a3 p6.b3) := cell_at hQ6 rfl
       go_wp2_with fail
       refine (K25.out _).mono ?_
       rintro e w33 ⟨rfl, hb⟩
       clear qhT11_0 qhT11_1 qhT11_2 qhT11_3 qhP0_0 qhP0_1 qhP0_2 qhP0_3 qhQ2_0 qhQ2_1 qhQ2_2 qhQ2_3 qhQ3_0 qhQ3_1 qhQ3_2 qhQ3_3 qhQ4_0 qhQ4_1 qhQ4_2 qhQ4_3 qhQ5_0 qhQ5_1 qhQ5_2 qhQ5_3 qhQ6_0 qhQ6_1 qhQ6_2 qhQ6_3
       have hS := hb
       have hB33 := hB32.call hS rfl
       replace hst := hst.below hS
       replace hT11 := blkb hT11 hS
       replace hP0 := blkb hP0 hS
       replace hQ2 := blkb hQ2 hS
       replace hQ3 := blkb hQ3 hS
       replace hQ4 := blkb hQ4 hS
       replace hQ5 := blkb hQ5 hS
       replace hQ6 := blkb hQ6 hS
       clear hS hB32
       have qhT11_0 : w33.cell? ⟨b1 + 1, 0, none⟩ = some (.float .f32 (smB a3)) := cell_at hT11 rfl
       have qhT11_1 : w33.cell? ⟨b1 + 1, 1, none⟩ = some (.float .f32 (smB a0)) := cell_at hT11 rfl
       have qhT11_2 : w33.cell? ⟨b1 + 1, 2, none⟩ = some (.float .f32 (smB a1)) := cell_at hT11 rfl
       have qhT11_3 : w33.cell? ⟨b1 + 1, 3, none⟩ = some (.float .f32 (smB a2)) := cell_at hT11 rfl
       have qhP0_0 : w33.cell? ⟨bhP0, 0, none⟩ = some (.complex .f32 p0.a0 p0.b0) := cell_at hP0 rfl
       have qhP0_1 : w33.cell? ⟨bhP0, 1, none⟩ = some (.complex .f32 p0.a1 p0.b1) := cell_at hP0 rfl
       have qhP0_2 : w33.cell? ⟨bhP0, 2, none⟩ = some (.complex .f32 p0.a2 p0.b2) := cell_at hP0 rfl
       have qhP0_3 : w33.cell? ⟨bhP0, 3, none⟩ = some (.complex .f32 p0.a3 p0.b3) := cell_at hP0 rfl
       have qhQ2_0 : w33.cell? ⟨bhQ2, 0, none⟩ = some (.complex .f32 p2.a0 p2.b0) := cell_at hQ2 rfl
       have qhQ2_1 : w33.cell? ⟨bhQ2, 1, none⟩ = some (.complex .f32 p2.a1 p2.b1) := cell_at hQ2 rfl
       have qhQ2_2 : w33.cell? ⟨bhQ2, 2, none⟩ = some (.complex .f32 p2.a2 p2.b2) := cell_at hQ2 rfl
       have qhQ2_3 : w33.cell? ⟨bhQ2, 3, none⟩ = some (.complex .f32 p2.a3 p2.b3) := cell_at hQ2 rfl
       have qhQ3_0 : w33.cell? ⟨bhQ3, 0, none⟩ = some (.complex .f32 p3.a0 p3.b0) := cell_at hQ3 rfl
       have qhQ3_1 : w33.cell? ⟨bhQ3, 1, none⟩ = some (.complex .f32 p3.a1 p3.b1) := cell_at hQ3 rfl
       have qhQ3_2 : w33.cell? ⟨bhQ3, 2, none⟩ = some (.complex .f32 p3.a2 p3.b2) := cell_at hQ3 rfl
       have qhQ3_3 : w33.cell? ⟨bhQ3, 3, none⟩ = some (.complex .f32 p3.a3 p3.b3) := cell_at hQ3 rfl
       have qhQ4_0 : w33.cell? ⟨bhQ4, 0, none⟩ = some (.complex .f32 p4.a0 p4.b0) := cell_at hQ4 rfl
       have qhQ4_1 : w33.cell? ⟨bhQ4, 1, none⟩ = some (.complex .f32 p4.a1 p4.b1) := cell_at hQ4 rfl
       have qhQ4_2 : w33.cell? ⟨bhQ4, 2, none⟩ = some (.complex .f32 p4.a2 p4.b2) := cell_at hQ4 rfl
       have qhQ4_3 : w33.cell? ⟨bhQ4, 3, none⟩ = some (.complex .f32 p4.a3 p4.b3) := cell_at hQ4 rfl
       have qhQ5_0 : w33.cell? ⟨bhQ5, 0, none⟩ = some (.complex .f32 p5.a0 p5.b0) := cell_at hQ5 rfl
       have qhQ5_1 : w33.cell? ⟨bhQ5, 1, none⟩ = some (.complex .f32 p5.a1 p5.b1) := cell_at hQ5 rfl
       have qhQ5_2 : w33.cell? ⟨bhQ5, 2, none⟩ = some (.complex .f32 p5.a2 p5.b2) := cell_at hQ5 rfl
       have qhQ5_3 : w33.cell? ⟨bhQ5, 3, none⟩ = some (.complex .f32 p5.a3 p5.b3) := cell_at hQ5 rfl
       have qhQ6_0 : w33.cell? ⟨bhQ6, 0, none⟩ = some (.complex .f32 p6.a0 p6.b0) := cell_at hQ6 rfl
       have qhQ6_1 : w33.cell? ⟨bhQ6, 1, none⟩ = some (.complex .f32 p6.a1 p6.b1) := cell_at hQ6 rfl
       have qhQ6_2 : w33.cell? ⟨bhQ6, 2, none⟩ = some (.complex .f32 p6.a2 p6.b2) := cell_at hQ6 rfl
       have qhQ6_3 : w33.cell? ⟨bhQ6, 3, none⟩ = some (.complex .f32 p6.a3 p6.b3) := cell_at hQ6 rfl
       clear hb
       have hz : (w33.alloc (Obj.cells #[.complex .f32 0 0, .complex .f32 0 0, .complex .f32 0 0, .complex .f32 0 0] 84)).heap[w33.heap.size]? = some (Obj.cells #[.complex .f32 0 0, .complex .f32 0 0, .complex .f32 0 0, .complex .f32 0 0] 84) := heap_new rfl
       go_wp2_with (refine wpList_store_blk rfl 84 _ _ rfl w33.heap.size _ rfl rfl hz ?s1 ?s2 ?s3 ?_)
       case s1 => rfl
       case s2 => kernel_rfl
       case s3 => simp [Value.oneCell']
       intro w34 hQ7 hg3 hs3
       clear qhT11_0 qhT11_1 qhT11_2 qhT11_3 qhP0_0 qhP0_1 qhP0_2 qhP0_3 qhQ2_0 qhQ2_1 qhQ2_2 qhQ2_3 qhQ3_0 qhQ3_1 qhQ3_2 qhQ3_3 qhQ4_0 qhQ4_1 qhQ4_2 qhQ4_3 qhQ5_0 qhQ5_1 qhQ5_2 qhQ5_3 qhQ6_0 qhQ6_1 qhQ6_2 qhQ6_3
       have hS := ((Below.refl _ _).alloc (Nat.le_refl _) _).grown hg3 (by simp) (fun j hj => by cases hj; exact Nat.le_refl _)
       have hB34 := hB33.call hS rfl
       replace hst := hst.below hS
       replace hT11 := blkb hT11 hS
       replace hP0 := blkb hP0 hS
       replace hQ2 := blkb hQ2 hS
       replace hQ3 := blkb hQ3 hS
       replace hQ4 := blkb hQ4 hS
       replace hQ5 := blkb hQ5 hS
       replace hQ6 := blkb hQ6 hS
       clear hS hB33
       have qhT11_0 : w34.cell? ⟨b1 + 1, 0, none⟩ = some (.float .f32 (smB a3)) := cell_at hT11 rfl
       have qhT11_1 : w34.cell? ⟨b1 + 1, 1, none⟩ = some (.float .f32 (smB a0)) := cell_at hT11 rfl
       have qhT11_2 : w34.cell? ⟨b1 + 1, 2, none⟩ = some (.float .f32 (smB a1)) := cell_at hT11 rfl
       have qhT11_3 : w34.cell? ⟨b1 + 1, 3, none⟩ = some (.float .f32 (smB a2)) := cell_at hT11 rfl
       have qhP0_0 : w34.cell? ⟨bhP0, 0, none⟩ = some (.complex .f32 p0.a0 p0.b0) := cell_at hP0 rfl
       have qhP0_1 : w34.cell? ⟨bhP0, 1, none⟩ = some (.complex .f32 p0.a1 p0.b1) := cell_at hP0 rfl
       have qhP0_2 : w34.cell? ⟨bhP0, 2, none⟩ = some (.complex .f32 p0.a2 p0.b2) := cell_at hP0 rfl
       have qhP0_3 : w34.cell? ⟨bhP0, 3, none⟩ = some (.complex .f32 p0.a3 p0.b3) := cell_at hP0 rfl
       have qhQ2_0 : w34.cell? ⟨bhQ2, 0, none⟩ = some (.complex .f32 p2.a0 p2.b0) := cell_at hQ2 rfl
       have qhQ2_1 : w34.cell? ⟨bhQ2, 1, none⟩ = some (.complex .f32 p2.a1 p2.b1) := cell_at hQ2 rfl
       have qhQ2_2 : w34.cell? ⟨bhQ2, 2, none⟩ = some (.complex .f32 p2.a2 p2.b2) := cell_at hQ2 rfl
       have qhQ2_3 : w34.cell? ⟨bhQ2, 3, none⟩ = some (.complex .f32 p2.a3 p2.b3) := cell_at hQ2 rfl
       have qhQ3_0 : w34.cell? ⟨bhQ3, 0, none⟩ = some (.complex .f32 p3.a0 p3.b0) := cell_at hQ3 rfl
       have qhQ3_1 : w34.cell? ⟨bhQ3, 1, none⟩ = some (.complex .f32 p3.a1 p3.b1) := cell_at hQ3 rfl
       have qhQ3_2 : w34.cell? ⟨bhQ3, 2, none⟩ = some (.complex .f32 p3.a2 p3.b2) := cell_at hQ3 rfl
       have qhQ3_3 : w34.cell? ⟨bhQ3, 3, none⟩ = some (.complex .f32 p3.a3 p3.b3) := cell_at hQ3 rfl
       have qhQ4_0 : w34.cell? ⟨bhQ4, 0, none⟩ = some (.complex .f32 p4.a0 p4.b0) := cell_at hQ4 rfl
       have qhQ4_1 : w34.cell? ⟨bhQ4, 1, none⟩ = some (.complex .f32 p4.a1 p4.b1) := cell_at hQ4 rfl
       have qhQ4_2 : w34.cell? ⟨bhQ4, 2, none⟩ = some (.complex .f32 p4.a2 p4.b2) := cell_at hQ4 rfl
       have qhQ4_3 : w34.cell? ⟨bhQ4, 3, none⟩ = some (.complex .f32 p4.a3 p4.b3) := cell_at hQ4 rfl
       have qhQ5_0 : w34.cell? ⟨bhQ5, 0, none⟩ = some (.complex .f32 p5.a0 p5.b0) := cell_at hQ5 rfl
       have qhQ5_1 : w34.cell? ⟨bhQ5, 1, none⟩ = some (.complex .f32 p5.a1 p5.b1) := cell_at hQ5 rfl
       have qhQ5_2 : w34.cell? ⟨bhQ5, 2, none⟩ = some (.complex .f32 p5.a2 p5.b2) := cell_at hQ5 rfl
       have qhQ5_3 : w34.cell? ⟨bhQ5, 3, none⟩ = some (.complex .f32 p5.a3 p5.b3) := cell_at hQ5 rfl
       have qhQ6_0 : w34.cell? ⟨bhQ6, 0, none⟩ = some (.complex .f32 p6.a0 p6.b0) := cell_at hQ6 rfl
       have qhQ6_1 : w34.cell? ⟨bhQ6, 1, none⟩ = some (.complex .f32 p6.a1 p6.b1) := cell_at hQ6 rfl
       have qhQ6_2 : w34.cell? ⟨bhQ6, 2, none⟩ = some (.complex .f32 p6.a2 p6.b2) := cell_at hQ6 rfl
       have qhQ6_3 : w34.cell? ⟨bhQ6, 3, none⟩ = some (.complex .f32 p6.a3 p6.b3) := cell_at hQ6 rfl
       clear hz hg3 hs3
       obtain ⟨bhQ7, hbhQ7⟩ : ∃ b, b = w33.heap.size := ⟨_, rfl⟩
       rw [← hbhQ7] at hQ7 ⊢
       clear hbhQ7
       have qhQ7_0 : w34.cell? ⟨bhQ7, 0, none⟩ = some (.complex .f32 p7.a0 p7.b0) := cell_at hQ7 rfl
       have qhQ7_1 : w34.cell? ⟨bhQ7, 1, none⟩ = some (.complex .f32 p7.a1 p7.b1) := cell_at hQ7 rfl
       have qhQ7_2 : w34.cell? ⟨bhQ7, 2, none⟩ = some (.complex .f32 p7.a2 p7.b2) := cell_at hQ7 rfl
       have qhQ7_3 : w34.cell? ⟨bhQ7, 3, none⟩ = some (.complex .f32 p7.a3 p7.b3) := cell_at hQ7 rfl
       go_wp2_with fail
       refine (K26.out _).mono ?_
       rintro e w35 ⟨rfl, hb⟩
       clear qhT11_0 qhT11_1 qhT11_2 qhT11_3 qhP0_0 qhP0_1 qhP0_2 qhP0_3 qhQ2_0 qhQ2_1 qhQ2_2 qhQ2_3 qhQ3_0 qhQ3_1 qhQ3_2 qhQ3_3 qhQ4_0 qhQ4_1 qhQ4_2 qhQ4_3 qhQ5_0 qhQ5_1 qhQ5_2 qhQ5_3 qhQ6_0 qhQ6_1 qhQ6_2 qhQ6_3 qhQ7_0 qhQ7_1 qhQ7_2 qhQ7_3
       have hS := hb
       have hB35 := hB34.call hS rfl
       replace hst := hst.below hS
       replace hT11 := blkb hT11 hS
       replace hP0 := blkb hP0 hS
       replace hQ2 := blkb hQ2 hS
       replace hQ3 := blkb hQ3 hS
       replace hQ4 := blkb hQ4 hS
       replace hQ5 := blkb hQ5 hS
       replace hQ6 := blkb hQ6 hS
       replace hQ7 := blkb hQ7 hS
       clear hS hB34
       have qhT11_0 : w35.cell? ⟨b1 + 1, 0, none⟩ = some (.float .f32 (smB a3)) := cell_at hT11 rfl
       have qhT11_1 : w35.cell? ⟨b1 + 1, 1, none⟩ = some (.float .f32 (smB a0)) := cell_at hT11 rfl
       have qhT11_2 : w35.cell? ⟨b1 + 1, 2, none⟩ = some (.float .f32 (smB a1)) := cell_at hT11 rfl
       have qhT11_3 : w35.cell? ⟨b1 + 1, 3, none⟩ = some (.float .f32 (smB a2)) := cell_at hT11 rfl
       have qhP0_0 : w35.cell? ⟨bhP0, 0, none⟩ = some (.complex .f32 p0.a0 p0.b0) := cell_at hP0 rfl
       have qhP0_1 : w35.cell? ⟨bhP0, 1, none⟩ = some (.complex .f32 p0.a1 p0.b1) := cell_at hP0 rfl
       have qhP0_2 : w35.cell? ⟨bhP0, 2, none⟩ = some (.complex .f32 p0.a2 p0.b2) := cell_at hP0 rfl
       have qhP0_3 : w35.cell? ⟨bhP0, 3, none⟩ = some (.complex .f32 p0.a3 p0.b3) := cell_at hP0 rfl
       have qhQ2_0 : w35.cell? ⟨bhQ2, 0, none⟩ = some (.complex .f32 p2.a0 p2.b0) := cell_at hQ2 rfl
       have qhQ2_1 : w35.cell? ⟨bhQ2, 1, none⟩ = some (.complex .f32 p2.a1 p2.b1) := cell_at hQ2 rfl
       have qhQ2_2 : w35.cell? ⟨bhQ2, 2, none⟩ = some (.complex .f32 p2.a2 p2.b2) := cell_at hQ2 rfl
       have qhQ2_3 : w35.cell? ⟨bhQ2, 3, none⟩ = some (.complex .f32 p2.a3 p2.b3) := cell_at hQ2 rfl
       have qhQ3_0 : w35.cell? ⟨bhQ3, 0, none⟩ = some (.complex .f32 p3.a0 p3.b0) := cell_at hQ3 rfl
       have qhQ3_1 : w35.cell? ⟨bhQ3, 1, none⟩ = some (.complex .f32 p3.a1 p3.b1) := cell_at hQ3 rfl
       have qhQ3_2 : w35.cell? ⟨bhQ3, 2, none⟩ = some (.complex .f32 p3.a2 p3.b2) := cell_at hQ3 rfl
       have qhQ3_3 : w35.cell? ⟨bhQ3, 3, none⟩ = some (.complex .f32 p3.a3 p3.b3) := cell_at hQ3 rfl
       have qhQ4_0 : w35.cell? ⟨bhQ4, 0, none⟩ = some (.complex .f32 p4.a0 p4.b0) := cell_at hQ4 rfl
       have qhQ4_1 : w35.cell? ⟨bhQ4, 1, none⟩ = some (.complex .f32 p4.a1 p4.b1) := cell_at hQ4 rfl
       have qhQ4_2 : w35.cell? ⟨bhQ4, 2, none⟩ = some (.complex .f32 p4.a2 p4.b2) := cell_at hQ4 rfl
       have qhQ4_3 : w35.cell? ⟨bhQ4, 3, none⟩ = some (.complex .f32 p4.a3 p4.b3) := cell_at hQ4 rfl
       have qhQ5_0 : w35.cell? ⟨bhQ5, 0, none⟩ = some (.complex .f32 p5.a0 p5.b0) := cell_at hQ5 rfl
       have qhQ5_1 : w35.cell? ⟨bhQ5, 1, none⟩ = some (.complex .f32 p5.a1 p5.b1) := cell_at hQ5 rfl
       have qhQ5_2 : w35.cell? ⟨bhQ5, 2, none⟩ = some (.complex .f32 p5.a2 p5.b2) := cell_at hQ5 rfl
       have qhQ5_3 : w35.cell? ⟨bhQ5, 3, none⟩ = some (.complex .f32 p5.a3 p5.b3) := cell_at hQ5 rfl
       have qhQ6_0 : w35.cell? ⟨bhQ6, 0, none⟩ = some (.complex .f32 p6.a0 p6.b0) := cell_at hQ6 rfl
       have qhQ6_1 : w35.cell? ⟨bhQ6, 1, none⟩ = some (.complex .f32 p6.a1 p6.b1) := cell_at hQ6 rfl
       have qhQ6_2 : w35.cell? ⟨bhQ6, 2, none⟩ = some (.complex .f32 p6.a2 p6.b2) := cell_at hQ6 rfl
       have qhQ6_3 : w35.cell? ⟨bhQ6, 3, none⟩ = some (.complex .f32 p6.a3 p6.b3) := cell_at hQ6 rfl
       have qhQ7_0 : w35.cell? ⟨bhQ7, 0, none⟩ = some (.complex .f32 p7.a0 p7.b0) := cell_at hQ7 rfl
       have qhQ7_1 : w35.cell? ⟨bhQ7, 1, none⟩ = some (.complex .f32 p7.a1 p7.b1) := cell_at hQ7 rfl
       have qhQ7_2 : w35.cell? ⟨bhQ7, 2, none⟩ = some (.complex .f32 p7.a2 p7.b2) := cell_at hQ7 rfl
       have qhQ7_3 : w35.cell? ⟨bhQ7, 3, none⟩ = some (.complex .f32 p7.a3 p7.b3) := cell_at hQ7 rfl
       clear hb
       have hz : (w35.alloc (Obj.cells #[.complex .f32 0 0, .complex .f32 0 0, .complex .f32 0 0, .complex .f32 0 0] 84)).heap[w35.heap.size]? = some (Obj.cells #[.complex .f32 0 0, .complex .f32 0 0, .complex .f32 0 0, .complex .f32 0 0] 84) := heap_new rfl
       go_wp2_with (refine wpList_store_blk rfl 84 _ _ rfl w35.heap.size _ rfl rfl hz ?s1 ?s2 ?s3 ?_)
       case s1 => rfl
       case s2 => kernel_rfl
       case s3 => simp [Value.oneCell']
       intro w36 hQ8 hg3 hs3
       clear qhT11_0 qhT11_1 qhT11_2 qhT11_3 qhP0_0 qhP0_1 qhP0_2 qhP0_3 qhQ2_0 qhQ2_1 qhQ2_2 qhQ2_3 qhQ3_0 qhQ3_1 qhQ3_2 qhQ3_3 qhQ4_0 qhQ4_1 qhQ4_2 qhQ4_3 qhQ5_0 qhQ5_1 qhQ5_2 qhQ5_3 qhQ6_0 qhQ6_1 qhQ6_2 qhQ6_3 qhQ7_0 qhQ7_1 qhQ7_2 qhQ7_3
       have hS := ((Below.refl _ _).alloc (Nat.le_refl _) _).grown hg3 (by simp) (fun j hj => by cases hj; exact Nat.le_refl _)
       have hB36 := hB35.call hS rfl
       replace hst := hst.below hS
       replace hT11 := blkb hT11 hS
       replace hP0 := blkb hP0 hS
       replace hQ2 := blkb hQ2 hS
       replace hQ3 := blkb hQ3 hS
       replace hQ4 := blkb hQ4 hS
       replace hQ5 := blkb hQ5 hS
       replace hQ6 := blkb hQ6 hS
       replace hQ7 := blkb hQ7 hS
       clear hS hB35
       have qhT11_0 : w36.cell? ⟨b1 + 1, 0, none⟩ = some (.float .f32 (smB a3)) := cell_at hT11 rfl
       have qhT11_1 : w36.cell? ⟨b1 + 1, 1, none⟩ = some (.float .f32 (smB a0)) := cell_at hT11 rfl
       have qhT11_2 : w36.cell? ⟨b1 + 1, 2, none⟩ = some (.float .f32 (smB a1)) := cell_at hT11 rfl
       have qhT11_3 : w36.cell? ⟨b1 + 1, 3, none⟩ = some (.float .f32 (smB a2)) := cell_at hT11 rfl
       have qhP0_0 : w36.cell? ⟨bhP0, 0, none⟩ = some (.complex .f32 p0.a0 p0.b0) := cell_at hP0 rfl
       have qhP0_1 : w36.cell? ⟨bhP0, 1, none⟩ = some (.complex .f32 p0.a1 p0.b1) := cell_at hP0 rfl
       have qhP0_2 : w36.cell? ⟨bhP0, 2, none⟩ = some (.complex .f32 p0.a2 p0.b2) := cell_at hP0 rfl
       have qhP0_3 : w36.cell? ⟨bhP0, 3, none⟩ = some (.complex .f32 p0.a3 p0.b3) := cell_at hP0 rfl
       have qhQ2_0 : w36.cell? ⟨bhQ2, 0, none⟩ = some (.complex .f32 p2.a0 p2.b0) := cell_at hQ2 rfl
       have qhQ2_1 : w36.cell? ⟨bhQ2, 1, none⟩ = some (.complex .f32 p2.a1 p2.b1) := cell_at hQ2 rfl
       have qhQ2_2 : w36.cell? ⟨bhQ2, 2, none⟩ = some (.complex .f32 p2.a2 p2.b2) := cell_at hQ2 rfl
       have qhQ2_3 : w36.cell? ⟨bhQ2, 3, none⟩ = some (.complex .f32 p2.a3 p2.b3) := cell_at hQ2 rfl
       have qhQ3_0 : w36.cell? ⟨bhQ3, 0, none⟩ = some (.complex .f32 p3.a0 p3.b0) := cell_at hQ3 rfl
       have qhQ3_1 : w36.cell? ⟨bhQ3, 1, none⟩ = some (.complex .f32 p3.a1 p3.b1) := cell_at hQ3 rfl
       have qhQ3_2 : w36.cell? ⟨bhQ3, 2, none⟩ = some (.complex .f32 p3.a2 p3.b2) := cell_at hQ3 rfl
       have qhQ3_3 : w36.cell? ⟨bhQ3, 3, none⟩ = some (.complex .f32 p3.a3 p3.b3) := cell_at hQ3 rfl
       have qhQ4_0 : w36.cell? ⟨bhQ4, 0, none⟩ = some (.complex .f32 p4.a0 p4.b0) := cell_at hQ4 rfl
       have qhQ4_1 : w36.cell? ⟨bhQ4, 1, none⟩ = some (.complex .f32 p4.a1 p4.b1) := cell_at hQ4 rfl
       have qhQ4_2 : w36.cell? ⟨bhQ4, 2, none⟩ = some (.complex .f32 p4.a2 p4.b2) := cell_at hQ4 rfl
       have qhQ4_3 : w36.cell? ⟨bhQ4, 3, none⟩ = some (.complex .f32 p4.a3 p4.b3) := cell_at hQ4 rfl
       have qhQ5_0 : w36.cell? ⟨bhQ5, 0, none⟩ = some (.complex .f32 p5.a0 p5.b0) := cell_at hQ5 rfl
       have qhQ5_1 : w36.cell? ⟨bhQ5, 1, none⟩ = some (.complex .f32 p5.a1 p5.b1) := cell_at hQ5 rfl
       have qhQ5_2 : w36.cell? ⟨bhQ5, 2, none⟩ = some (.complex .f32 p5.a2 p5.b2) := cell_at hQ5 rfl
       have qhQ5_3 : w36.cell? ⟨bhQ5, 3, none⟩ = some (.complex .f32 p5.a3 p5.b3) := cell_at hQ5 rfl
       have qhQ6_0 : w36.cell? ⟨bhQ6, 0, none⟩ = some (.complex .f32 p6.a0 p6.b0) := cell_at hQ6 rfl
       have qhQ6_1 : w36.cell? ⟨bhQ6, 1, none⟩ = some (.complex .f32 p6.a1 p6.b1) := cell_at hQ6 rfl
       have qhQ6_2 : w36.cell? ⟨bhQ6, 2, none⟩ = some (.complex .f32 p6.a2 p6.b2) := cell_at hQ6 rfl
       have qhQ6_3 : w36.cell? ⟨bhQ6, 3, none⟩ = some (.complex .f32 p6.a3 p6.b3) := cell_at hQ6 rfl
       have qhQ7_0 : w36.cell? ⟨bhQ7, 0, none⟩ = some (.complex .f32 p7.a0 p7.b0) := cell_at hQ7 rfl
       have qhQ7_1 : w36.cell? ⟨bhQ7, 1, none⟩ = some (.complex .f32 p7.a1 p7.b1) := cell_at hQ7 rfl
       have qhQ7_2 : w36.cell? ⟨bhQ7, 2, none⟩ = some (.complex .f32 p7.a2 p7.b2) := cell_at hQ7 rfl
       have qhQ7_3 : w36.cell? ⟨bhQ7, 3, none⟩ = some (.complex .f32 p7.a3 p7.b3) := cell_at hQ7 rfl
       clear hz hg3 hs3
       obtain ⟨bhQ8, hbhQ8⟩ : ∃ b, b = w35.heap.size := ⟨_, rfl⟩
       rw [← hbhQ8] at hQ8 ⊢
       clear hbhQ8
       have qhQ8_0 : w36.cell? ⟨bhQ8, 0, none⟩ = some (.complex .f32 p8.a0 p8.b0) := cell_at hQ8 rfl
       have qhQ8_1 : w36.cell? ⟨bhQ8, 1, none⟩ = some (.complex .f32 p8.a1 p8.b1) := cell_at hQ8 rfl
       have qhQ8_2 : w36.cell? ⟨bhQ8, 2, none⟩ = some (.complex .f32 p8.a2 p8.b2) := cell_at hQ8 rfl
       have qhQ8_3 : w36.cell? ⟨bhQ8, 3, none⟩ = some (.complex .f32 p8.a3 p8.b3) := cell_at hQ8 rfl
       clear qhQ3_0 qhQ3_1 qhQ3_2 qhQ3_3 hQ3
       as_aux_lemma =>
        have e1 := E1.out
        have e2 := E2.out
        have e3 := E3.out
        have e4 := E4.out
        have e5 := E5.out
        go_wp2_with fail
        refine wp_region_plan [(0, true), (1, true), (2, true), (3, true), (4, true), (5, true), (6, true), (7, true), (8, true), (9, true), (10, true), (11, true), (12, true), (13, true), (14, true), (15, true), (16, true), (17, true), (18, true), (19, true), (20, true), (21, true), (22, true), (23, true), (24, true), (25, true), (26, true), (27, true), (28, true), (29, true), (30, true), (31, true), (32, true), (33, true), (34, false), (35, true), (36, true), (37, true), (38, true), (39, true), (40, true), (41, true), (42, true), (43, false), (44, true), (45, true)] w36.heap.size (by kernel_rfl) (by kernel_rfl) (Nat.le_refl _) (fun _ _ d _ _ h => by cases d <;> exact h) ?_
        have hC : Below w36.heap.size w36 w36 := Below.refl _ _
        have zhT11 : b1 + 1 < w36.heap.size := (Array.getElem?_eq_some_iff.1 hT11).1
        have zhP0 : bhP0 < w36.heap.size := (Array.getElem?_eq_some_iff.1 hP0).1
        have zhQ2 : bhQ2 < w36.heap.size := (Array.getElem?_eq_some_iff.1 hQ2).1
        have zhQ4 : bhQ4 < w36.heap.size := (Array.getElem?_eq_some_iff.1 hQ4).1
        have zhQ5 : bhQ5 < w36.heap.size := (Array.getElem?_eq_some_iff.1 hQ5).1
        have zhQ6 : bhQ6 < w36.heap.size := (Array.getElem?_eq_some_iff.1 hQ6).1
        have zhQ7 : bhQ7 < w36.heap.size := (Array.getElem?_eq_some_iff.1 hQ7).1
        have zhQ8 : bhQ8 < w36.heap.size := (Array.getElem?_eq_some_iff.1 hQ8).1
        repeat (first | (refine wpPlanA_skip _ rfl (by rfl) ?_; simp only [Act.put, List.setIfInBounds_toArray, List.set_cons_zero, List.set_cons_succ]) | (refine wpPlanA_soft _ ?_ rfl (by rfl) ?_ ?_; rotate_left; (intro wq hq hcq; go_simp; first | exact rfl | exact ⟨rfl, rfl⟩); simp only [Act.put, List.setIfInBounds_toArray, List.set_cons_zero, List.set_cons_succ]))
        refine wpPlanA_hard _ rfl (by rfl) (fun w37 hS K hK => ?_)
        have hB37 := hB36.call hS rfl
        replace hC := hC.call hS rfl
        replace hst := hst.below hS
        replace hT11 := blkb hT11 hS
        replace hP0 := blkb hP0 hS
        replace hQ2 := blkb hQ2 hS
        replace hQ4 := blkb hQ4 hS
        replace hQ5 := blkb hQ5 hS
        replace hQ6 := blkb hQ6 hS
        replace hQ7 := blkb hQ7 hS
        replace hQ8 := blkb hQ8 hS
        clear hS hB36
        go_simp
        refine (K43b.out _).mono ?_
        rintro e w38 ⟨rfl, hb⟩
        have hB38 := hB37.call hb rfl
        replace hC := hC.call hb rfl
        replace hst := hst.below hb
        replace hT11 := blkb hT11 hb
        replace hP0 := blkb hP0 hb
        replace hQ2 := blkb hQ2 hb
        replace hQ4 := blkb hQ4 hb
        replace hQ5 := blkb hQ5 hb
        replace hQ6 := blkb hQ6 hb
        replace hQ7 := blkb hQ7 hb
        replace hQ8 := blkb hQ8 hb
        clear hb hB37
        refine hK _ _ hC ?_
        clear hK K
        try simp only [Act.put, List.setIfInBounds_toArray, List.set_cons_zero, List.set_cons_succ]
        repeat (first | (refine wpPlanA_skip _ rfl (by rfl) ?_; simp only [Act.put, List.setIfInBounds_toArray, List.set_cons_zero, List.set_cons_succ]) | (refine wpPlanA_soft _ ?_ rfl (by rfl) ?_ ?_; rotate_left; (intro wq hq hcq; go_simp; first | exact rfl | exact ⟨rfl, rfl⟩); simp only [Act.put, List.setIfInBounds_toArray, List.set_cons_zero, List.set_cons_succ]))
        refine wpPlanA_hard _ rfl (by rfl) (fun w39 hS K hK => ?_)
        have hB39 := hB38.call hS rfl
        replace hC := hC.call hS rfl
        replace hst := hst.below hS
        replace hT11 := blkb hT11 hS
        replace hP0 := blkb hP0 hS
        replace hQ2 := blkb hQ2 hS
        replace hQ4 := blkb hQ4 hS
        replace hQ5 := blkb hQ5 hS
        replace hQ6 := blkb hQ6 hS
        replace hQ7 := blkb hQ7 hS
        replace hQ8 := blkb hQ8 hS
        clear hS hB38
        go_simp
        refine (c18 _ hst).mono ?_
        rintro e w40 ⟨rfl, hb⟩
        have hB40 := hB39.call hb rfl
        replace hC := hC.call hb rfl
        replace hst := hst.below hb
        replace hT11 := blkb hT11 hb
        replace hP0 := blkb hP0 hb
        replace hQ2 := blkb hQ2 hb
        replace hQ4 := blkb hQ4 hb
        replace hQ5 := blkb hQ5 hb
        replace hQ6 := blkb hQ6 hb
        replace hQ7 := blkb hQ7 hb
        replace hQ8 := blkb hQ8 hb
        clear hb hB39
        refine hK _ _ hC ?_
        clear hK K
        try simp only [Act.put, List.setIfInBounds_toArray, List.set_cons_zero, List.set_cons_succ]
        repeat (first | (refine wpPlanA_skip _ rfl (by rfl) ?_; simp only [Act.put, List.setIfInBounds_toArray, List.set_cons_zero, List.set_cons_succ]) | (refine wpPlanA_soft _ ?_ rfl (by rfl) ?_ ?_; rotate_left; (intro wq hq hcq; go_simp; first | exact rfl | exact ⟨rfl, rfl⟩); simp only [Act.put, List.setIfInBounds_toArray, List.set_cons_zero, List.set_cons_succ]))
        clear qhT11_0 qhT11_1 qhT11_2 qhT11_3 qhP0_0 qhP0_1 qhP0_2 qhP0_3 qhQ2_0 qhQ2_1 qhQ2_2 qhQ2_3 qhQ4_0 qhQ4_1 qhQ4_2 qhQ4_3 qhQ5_0 qhQ5_1 qhQ5_2 qhQ5_3 qhQ6_0 qhQ6_1 qhQ6_2 qhQ6_3 qhQ7_0 qhQ7_1 qhQ7_2 qhQ7_3 qhQ8_0 qhQ8_1 qhQ8_2 qhQ8_3
        refine wpPlanA_nil (fun w41 hS => ?_)
        clear hC zhT11 zhP0 zhQ2 zhQ4 zhQ5 zhQ6 zhQ7 zhQ8
        have hB41 := hB40.call hS rfl
        replace hst := hst.below hS
        replace hT11 := blkb hT11 hS
        replace hP0 := blkb hP0 hS
        replace hQ2 := blkb hQ2 hS
        replace hQ4 := blkb hQ4 hS
        replace hQ5 := blkb hQ5 hS
        replace hQ6 := blkb hQ6 hS
        replace hQ7 := blkb hQ7 hS
        replace hQ8 := blkb hQ8 hS
        clear hS hB40
        have qhT11_0 : w41.cell? ⟨b1 + 1, 0, none⟩ = some (.float .f32 (smB a3)) := cell_at hT11 rfl
        have qhT11_1 : w41.cell? ⟨b1 + 1, 1, none⟩ = some (.float .f32 (smB a0)) := cell_at hT11 rfl
        have qhT11_2 : w41.cell? ⟨b1 + 1, 2, none⟩ = some (.float .f32 (smB a1)) := cell_at hT11 rfl
        have qhT11_3 : w41.cell? ⟨b1 + 1, 3, none⟩ = some (.float .f32 (smB a2)) := cell_at hT11 rfl
        have qhP0_0 : w41.cell? ⟨bhP0, 0, none⟩ = some (.complex .f32 p0.a0 p0.b0) := cell_at hP0 rfl
        have qhP0_1 : w41.cell? ⟨bhP0, 1, none⟩ = some (.complex .f32 p0.a1 p0.b1) := cell_at hP0 rfl
        have qhP0_2 : w41.cell? ⟨bhP0, 2, none⟩ = some (.complex .f32 p0.a2 p0.b2) := cell_at hP0 rfl
        have qhP0_3 : w41.cell? ⟨bhP0, 3, none⟩ = some (.complex .f32 p0.a3 p0.b3) := cell_at hP0 rfl
        have qhQ2_0 : w41.cell? ⟨bhQ2, 0, none⟩ = some (.complex .f32 p2.a0 p2.b0) := cell_at hQ2 rfl
        have qhQ2_1 : w41.cell? ⟨bhQ2, 1, none⟩ = some (.complex .f32 p2.a1 p2.b1) := cell_at hQ2 rfl
        have qhQ2_2 : w41.cell? ⟨bhQ2, 2, none⟩ = some (.complex .f32 p2.a2 p2.b2) := cell_at hQ2 rfl
        have qhQ2_3 : w41.cell? ⟨bhQ2, 3, none⟩ = some (.complex .f32 p2.a3 p2.b3) := cell_at hQ2 rfl
        have qhQ4_0 : w41.cell? ⟨bhQ4, 0, none⟩ = some (.complex .f32 p4.a0 p4.b0) := cell_at hQ4 rfl
        have qhQ4_1 : w41.cell? ⟨bhQ4, 1, none⟩ = some (.complex .f32 p4.a1 p4.b1) := cell_at hQ4 rfl
        have qhQ4_2 : w41.cell? ⟨bhQ4, 2, none⟩ = some (.complex .f32 p4.a2 p4.b2) := cell_at hQ4 rfl
        have qhQ4_3 : w41.cell? ⟨bhQ4, 3, none⟩ = some (.complex .f32 p4.a3 p4.b3) := cell_at hQ4 rfl
        have qhQ5_0 : w41.cell? ⟨bhQ5, 0, none⟩ = some (.complex .f32 p5.a0 p5.b0) := cell_at hQ5 rfl
        have qhQ5_1 : w41.cell? ⟨bhQ5, 1, none⟩ = some (.complex .f32 p5.a1 p5.b1) := cell_at hQ5 rfl
        have qhQ5_2 : w41.cell? ⟨bhQ5, 2, none⟩ = some (.complex .f32 p5.a2 p5.b2) := cell_at hQ5 rfl
        have qhQ5_3 : w41.cell? ⟨bhQ5, 3, none⟩ = some (.complex .f32 p5.a3 p5.b3) := cell_at hQ5 rfl
        have qhQ6_0 : w41.cell? ⟨bhQ6, 0, none⟩ = some (.complex .f32 p6.a0 p6.b0) := cell_at hQ6 rfl
        have qhQ6_1 : w41.cell? ⟨bhQ6, 1, none⟩ = some (.complex .f32 p6.a1 p6.b1) := cell_at hQ6 rfl
        have qhQ6_2 : w41.cell? ⟨bhQ6, 2, none⟩ = some (.complex .f32 p6.a2 p6.b2) := cell_at hQ6 rfl
        have qhQ6_3 : w41.cell? ⟨bhQ6, 3, none⟩ = some (.complex .f32 p6.a3 p6.b3) := cell_at hQ6 rfl
        have qhQ7_0 : w41.cell? ⟨bhQ7, 0, none⟩ = some (.complex .f32 p7.a0 p7.b0) := cell_at hQ7 rfl
        have qhQ7_1 : w41.cell? ⟨bhQ7, 1, none⟩ = some (.complex .f32 p7.a1 p7.b1) := cell_at hQ7 rfl
        have qhQ7_2 : w41.cell? ⟨bhQ7, 2, none⟩ = some (.complex .f32 p7.a2 p7.b2) := cell_at hQ7 rfl
        have qhQ7_3 : w41.cell? ⟨bhQ7, 3, none⟩ = some (.complex .f32 p7.a3 p7.b3) := cell_at hQ7 rfl
        have qhQ8_0 : w41.cell? ⟨bhQ8, 0, none⟩ = some (.complex .f32 p8.a0 p8.b0) := cell_at hQ8 rfl
        have qhQ8_1 : w41.cell? ⟨bhQ8, 1, none⟩ = some (.complex .f32 p8.a1 p8.b1) := cell_at hQ8 rfl
        have qhQ8_2 : w41.cell? ⟨bhQ8, 2, none⟩ = some (.complex .f32 p8.a2 p8.b2) := cell_at hQ8 rfl
        have qhQ8_3 : w41.cell? ⟨bhQ8, 3, none⟩ = some (.complex .f32 p8.a3 p8.b3) := cell_at hQ8 rfl
        go_wp2
        go_ret
        exact ⟨rfl, hB41⟩
end Go.Proofs.YtdimmlljjmmdbaaGreatDoor
