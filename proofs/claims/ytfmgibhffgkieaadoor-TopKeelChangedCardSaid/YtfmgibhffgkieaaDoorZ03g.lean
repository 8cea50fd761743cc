/- A part of the proofs about traces, tides and horizons: contracts of functions and plain laws (K38, K39, K33, K42, KO1). -/
import Derived.LaidLaws
import Derived.LaidMore
import Derived.LaidHandle
import Derived.Stop.Joined
import Derived.SevenTiedAt
import Derived.MakeChecks
import Derived.Stop.LaidErr
import Derived.Lib.LaidTab
import Derived.Lay
import Derived.Test.YtfmgibhffgkieaaDoorRows
import Derived.Test.YtfmgibhffgkieaaDoorZ03a
import Derived.Test.YtfmgibhffgkieaaDoorZ03e
import Derived.Test.YtfmgibhffgkieaaDoorZ03f
set_option linter.all false
namespace Go.Proofs.YtfmgibhffgkieaaDoor
open Go.RowKit Go.Shelf
set_option maxHeartbeats 8000000
set_option maxRecDepth 100000
attribute [local go_sem] Oper.semAt_some
theorem eq66 (a b c d : Int) (w : World) : (Op.equalIn 10000 66 (.agg #[.int .i64 a, .int .i64 b]) (.agg #[.int .i64 c, .int .i64 d])).run Tryd.prog w = .ok (decide (a = c) && decide (b = d)) w := by
 have u3 := Tryd.underlying3
 have a3 := Tryd.isAgg3
 have z3 := Tryd.sizeOf3
 rw [show (10000 : Nat) = 9999 + 1 from rfl, run_equalIn_struct w 9999 66 _ _ (by unfold Program.fieldsOf; rw [Tryd.underlying66]) (by kernel_rfl)]
 unfold Program.fieldsOf
 rw [Tryd.underlying66]
 simp only [Op.eqFields]
 go_simp
 by_cases h1 : a = c <;> by_cases h2 : b = d <;> simp [h1, h2]
theorem op66 (a b c d : Int) (w : World) : (binOp .eql 66 (.agg #[.int .i64 a, .int .i64 b]) (.agg #[.int .i64 c, .int .i64 d])).run Tryd.prog w = .ok (.bool (decide (a = c) && decide (b = d))) w := by
 simp only [binOp]
 simp [Op.equal, Op.maxDepth, eq66]
def fsG : List Nat := [0, 0, 0, 0, 0, 0, 0, 1065353216, 0]
theorem fsG_or : ∀ v ∈ fsG, v = 0 ∨ v = 1065353216 := by decide
theorem fsG_p : (shiftF fsG 2)[5]? = some 1065353216 ∧ ∀ j, j < 5 → (shiftF fsG 2)[j]? = some 0 := by
 refine ⟨by decide +kernel, fun j hj => ?_⟩
 match j, hj with
 | 0, _ => decide +kernel
 | 1, _ => decide +kernel
 | 2, _ => decide +kernel
 | 3, _ => decide +kernel
 | 4, _ => decide +kernel
 | j + 5, h => omega
theorem okT1 : OkT [⟨3, 2⟩] := by
 refine ⟨fun x hx => ?_, fun k x y hx hy => ?_⟩
 ·simp only [List.mem_cons, List.not_mem_nil, or_false] at hx
  subst hx
  decide
 ·match k with
  | 0 => exact absurd hy (by simp)
  | k + 1 => exact absurd hy (by simp)
theorem k10g (V : Option Addr) (vc : Nat) (A : Option Addr) (w : World) (HR : Rng w) (H : RdC w V 1 [⟨0, A, 9, fsG⟩]) (HA : RdS w 1 A 9 (encF fsG)) (X : Option Addr) (xc : Nat) (HX : RdT w X 1 [⟨3, 2⟩]) :
  Calls Tryd.prog 10 #[.agg #[.string { data := #[115] }, .slice V 1 vc], .slice X 1 xc] w fun en w' => ∃ A' c' y, en = .returned (.tuple #[.agg #[.string { data := #[115] }, .slice A' 1 c'], .int .i64 0]) ∧ OwR w.heap.size A' 1 c' [y] w' ∧ pco w.heap.size [y] (fun _ => shiftF fsG 2) w' ∧ Below w.heap.size w w' := by
 have hok : OkC w 9 [⟨0, A, 9, fsG⟩] := fun x hx => by
  simp only [List.mem_cons, List.not_mem_nil, or_false] at hx
  subst hx
  exact ⟨HA, fsG_or, rfl, by simp only; omega, by simp only; omega⟩
 have key := c10 { data := #[115] } V 1 vc [⟨0, A, 9, fsG⟩] (fun x => shiftF x.fs 2) X 1 xc w (fun W hb => c19 _ V 1 vc _ W nm115 (by decide) (HR.below hb) (H.below hb) 9 (by decide) (hok.below hb)) (fun W hb => c20 X 1 xc [⟨3, 2⟩] W (by decide) (by decide) (HX.below hb) okT1)
  (fun W pT hb hpT => c21 _ V 1 vc _ _ pT W (by decide) (H.below hb) (fun x hx => shiftF_len _ _) (fun x hx W2 hb2 => by
   simp only [List.mem_cons, List.not_mem_nil, or_false] at hx
   subst hx
   exact c22 0 A 9 9 fsG pT X 1 xc 2 1 W2 (by decide) rfl (RdS.below (RdS.below HA hb) hb2) fsG_or (blkb hpT hb2) (by decide) (by decide) (by decide) (fun W3 hb3 => c23_0 X 1 xc [⟨3, 2⟩] 0 ⟨3, 2⟩ ⟨3, 2⟩ W3 (by decide) (((HX.below hb).below hb2).below hb3) rfl rfl (by decide))))
 refine key.mono ?_
 rintro e w' ⟨A', c', l'', rfl, hl, hrow, hcor, hb⟩
 match l'', hl with
 | [y], _ =>
  refine ⟨A', c', y, rfl, hrow, fun k z hz => ?_, hb⟩
  obtain ⟨x, hx, h1, h2, h3⟩ := hcor k z hz
  match k with
  | 0 =>
   cases hx
   exact ⟨h2, h3⟩
  | k + 1 => exact absurd hz (by simp)
theorem nm97 : Nm { data := #[97] } := ⟨rfl, fun _ => (by decide : 97 ≤ (97 : UInt8).toNat ∧ (97 : UInt8).toNat ≤ 122)⟩
theorem nm98 : Nm { data := #[98] } := ⟨rfl, fun _ => (by decide : 97 ≤ (98 : UInt8).toNat ∧ (98 : UInt8).toNat ≤ 122)⟩
theorem c4 (w : World) (HR : Rng w) :
  Calls Tryd.prog 4 #[] w fun en w' => en = .returned (.bool true) ∧ Below w.heap.size w w' := by
 have HRR := Lib.hid HR
 go_enter Tryd.func4, Tryd.ntmps4
 obtain ⟨w0, hw0⟩ : ∃ W, W = w := ⟨_, rfl⟩
 subst hw0
 have hB0 : Below w0.heap.size w0 w0 := Below.refl _ _
 go_wp2_with fail
 obtain ⟨w1, hw1⟩ : ∃ W, W = w0.alloc (Obj.cells #[.float .f32 0, .float .f32 0, .float .f32 0, .float .f32 0, .float .f32 0, .float .f32 0, .float .f32 0, .float .f32 1065353216, .float .f32 0] 44) := ⟨_, rfl⟩
 obtain ⟨w2, hw2⟩ : ∃ W, W = w1.alloc (Obj.cells #[.int .i64 0, .int .i64 0, .int .i64 0, .int .i64 0, .int .i64 0, .int .i64 0, .int .i64 0, .int .i64 0, .bool false, .slice (some ⟨w0.heap.size, 0, none⟩) 9 9] 48) := ⟨_, rfl⟩
 obtain ⟨w3, hw3⟩ : ∃ W, W = w2.alloc (Obj.cells #[.string { data := #[115] }, .slice (some ⟨w0.heap.size + 1, 0, none⟩) 1 1] 51) := ⟨_, rfl⟩
 obtain ⟨w4, hw4⟩ : ∃ W, W = w3.alloc (Obj.cells #[.int .i64 3, .int .i64 2] 55) := ⟨_, rfl⟩
 rw [← hw1]
 rw [← hw2]
 rw [← hw3]
 rw [← hw4]
 have z1 : w1.heap.size = w0.heap.size + 1 := by rw [hw1]; simp
 have z2 : w2.heap.size = w0.heap.size + 1 + 1 := by rw [hw2]; simp [z1]
 have z3 : w3.heap.size = w0.heap.size + 1 + 1 + 1 := by rw [hw3]; simp [z2]
 have b1 : Below w0.heap.size w0 w1 := by rw [hw1]; exact bl2 _ _
 have b2 : Below w1.heap.size w1 w2 := by rw [hw2]; exact bl2 _ _
 have b3 : Below w2.heap.size w2 w3 := by rw [hw3]; exact bl2 _ _
 have b4 : Below w3.heap.size w3 w4 := by rw [hw4]; exact bl2 _ _
 have H1 : RdS w4 1 (some ⟨w0.heap.size, 0, none⟩) 9 (encF fsG) := by
  have : RdS w1 1 (some ⟨w0.heap.size, 0, none⟩) 9 (encF fsG) := by rw [hw1]; exact RdS.of_new (cs := encF fsG) rfl rfl
  exact RdS.below (RdS.below (RdS.below this b2) b3) b4
 have H2 : RdC w4 (some ⟨w0.heap.size + 1, 0, none⟩) 1 [⟨0, some ⟨w0.heap.size, 0, none⟩, 9, fsG⟩] := by
  have : RdC w2 (some ⟨w0.heap.size + 1, 0, none⟩) 1 [⟨0, some ⟨w0.heap.size, 0, none⟩, 9, fsG⟩] := by
   rw [hw2]
   unfold RdC
   exact RdS.of_new (cs := [.int .i64 0, .int .i64 0, .int .i64 0, .int .i64 0, .int .i64 0, .int .i64 0, .int .i64 0, .int .i64 0, .bool false, .slice (some ⟨w0.heap.size, 0, none⟩) 9 9]) z1.symm rfl
  exact (this.below b3).below b4
 have H3 : RdT w4 (some ⟨w0.heap.size + 1 + 1 + 1, 0, none⟩) 1 [⟨3, 2⟩] := by
  rw [hw4]; unfold RdT; exact RdS.of_new (cs := [.int .i64 3, .int .i64 2]) z3.symm rfl
 have b04 : Below w0.heap.size w0 w4 := ((b1.call b2 rfl).call b3 rfl).call b4 rfl
 clear hw1 hw2 hw3 hw4 z1 z2 z3 b1 b2 b3 b4
 refine (k10g _ _ _ w4 (HRR.out.below b04) H2 H1 _ _ H3).mono ?_
 rintro e w5 ⟨A', c', y, rfl, hrow, hpc, hb5⟩
 obtain ⟨w6, hw6⟩ : ∃ W, W = w5.alloc (Obj.cells #[.string { data := #[115] }, .slice A' 1 c'] 51) := ⟨_, rfl⟩
 have b6 : Below w5.heap.size w5 w6 := by rw [hw6]; exact bl2 _ _
 have b06 : Below w0.heap.size w0 w6 := (b04.call hb5 rfl).call b6 rfl
 have k2 : w6.heap[w5.heap.size]? = some (.cells #[.string { data := #[115] }, .slice A' 1 c'] 51 (0, 0)) := by rw [hw6]; exact heap_new rfl
 have hrow6 := hrow.rd
 obtain ⟨hfs, how⟩ := hpc 0 y rfl
 obtain ⟨b, off, hAe, hb, h0, h1, h2, h3, h4, h5, h6, h7, h8, h9⟩ := hrow6.at (k := 0) rfl
 subst hAe
 simp only at hfs
 have hln : y.fs.length = 9 := by rw [hfs, shiftF_len]; rfl
 have hrd := how.rd
 rw [hln] at h9 hrd
 obtain ⟨b', off', hxA, hb', _⟩ := RdS.at hrd (k := 0) (by omega)
 obtain ⟨xc, hxc⟩ : ∃ d, d = y.cap := ⟨_, rfl⟩
 rw [hxA, ← hxc] at h9
 rw [hxA] at hrd
 obtain ⟨fs, hfs2⟩ : ∃ f, f = y.fs := ⟨_, rfl⟩
 rw [← hfs2] at hfs hln hrd
 obtain ⟨p2, hp2⟩ : ∃ p, p = w5.heap.size := ⟨_, rfl⟩
 have hsz6 : w6.heap.size = w5.heap.size + 1 := by rw [hw6]; simp
 obtain ⟨w7, hw7⟩ : ∃ W, W = w6.alloc (Obj.cells #[] 44) := ⟨_, rfl⟩
 obtain ⟨p7, hp7⟩ : ∃ p, p = w5.heap.size + 1 := ⟨_, rfl⟩
 have b7 : Below w6.heap.size w6 w7 := by rw [hw7]; exact bl2 _ _
 have H7 := Lib.hid (RdS.below (RdS.below hrd b6) b7)
 have B7 := Lib.hid (b06.call b7 rfl)
 have HP2 := Lib.hid hp2
 have HP7 := Lib.hid hp7
 have HFS := Lib.hid (⟨hfs, hln⟩ : _ ∧ _)
 clear hp2 hp7 hfs hln hfs2 hxA hxc hrd H1 H2 H3 b04 hb5 b6 b06 b7 k2 hrow6 how hpc hrow hsz6 h0 h1 h2 h3 h4 h5 h6 h7 h8 hb'
 simp only [Nat.zero_mul, Nat.add_zero] at h9
 rw [hw6] at hw7
 have HW7 := Lib.hid hw7
 clear hw6 hw7
 go_wp2_with (at_builtin; rw [← HP7.out, ← HW7.out]; refine wpList_plain rfl fun K hK => wp_copyF _ _ rfl p7 rfl ⟨b', off', none⟩ 9 xc rfl fs H7.out (by omega) (fun X xc2 w8 hX hb8 => ?_); refine hK _ _ (stopq ?_))
 unfold StopQ
 have B8 := Lib.hid (B7.out.call hb8 rfl)
 have HX := Lib.hid hX
 clear hb8 hX h9 hb
 go_wp2_with fail
 refine (c11 X 9 xc2 fs 5 w8 (by omega) HFS.out.2 HX.out (by rw [HFS.out.1]; exact shiftF_or _ _) (by rw [HFS.out.1]; exact fsG_p.1) (by rw [HFS.out.1]; exact fsG_p.2)).mono ?_
 rintro e w9 ⟨rfl, hb9⟩
 have B9 := Lib.hid (B8.out.call hb9 rfl)
 clear hb9
 go_wp2_with fail
 obtain ⟨g, hg⟩ : ∃ g, g = w9.heap.size := ⟨_, rfl⟩
 obtain ⟨wF, hwF⟩ : ∃ W, W = (((((w9.alloc (Obj.cells #[.int .i64 2, .int .i64 5] 60)).alloc (Obj.cells #[.int .i64 2, .int .i64 7] 60)).alloc (Obj.cells #[.string { data := #[97] }, .int .i64 1, .slice (some ⟨g, 0, none⟩) 1 1] 40)).alloc (Obj.cells #[.string { data := #[98] }, .int .i64 1, .slice (some ⟨g + 1, 0, none⟩) 1 1] 40)).alloc (Obj.cells #[.int .i64 2, .int .i64 8] 60)).alloc (Obj.cells #[.string { data := #[98] }, .int .i64 1, .slice (some ⟨g + 1 + 1 + 1 + 1, 0, none⟩) 1 1] 40) := ⟨_, rfl⟩
 rw [← hg]
 rw [← hwF]
 have k0 : wF.heap[g]? = some (.cells #[.int .i64 2, .int .i64 5] 60 (0, 0)) := by rw [hwF]; exact heap_old (by simp <;> omega) (heap_old (by simp <;> omega) (heap_old (by simp <;> omega) (heap_old (by simp <;> omega) (heap_old (by simp <;> omega) (heap_new (by first | omega | (simp <;> omega)))))))
 have k1 : wF.heap[g + 1]? = some (.cells #[.int .i64 2, .int .i64 7] 60 (0, 0)) := by rw [hwF]; exact heap_old (by simp <;> omega) (heap_old (by simp <;> omega) (heap_old (by simp <;> omega) (heap_old (by simp <;> omega) (heap_new (by first | omega | (simp <;> omega))))))
 have k2 : wF.heap[g + 1 + 1]? = some (.cells #[.string { data := #[97] }, .int .i64 1, .slice (some ⟨g, 0, none⟩) 1 1] 40 (0, 0)) := by rw [hwF]; exact heap_old (by simp <;> omega) (heap_old (by simp <;> omega) (heap_old (by simp <;> omega) (heap_new (by first | omega | (simp <;> omega)))))
 have k3 : wF.heap[g + 1 + 1 + 1]? = some (.cells #[.string { data := #[98] }, .int .i64 1, .slice (some ⟨g + 1, 0, none⟩) 1 1] 40 (0, 0)) := by rw [hwF]; exact heap_old (by simp <;> omega) (heap_old (by simp <;> omega) (heap_new (by first | omega | (simp <;> omega))))
 have k4 : wF.heap[g + 1 + 1 + 1 + 1]? = some (.cells #[.int .i64 2, .int .i64 8] 60 (0, 0)) := by rw [hwF]; exact heap_old (by simp <;> omega) (heap_new (by first | omega | (simp <;> omega)))
 have k5 : wF.heap[g + 1 + 1 + 1 + 1 + 1]? = some (.cells #[.string { data := #[98] }, .int .i64 1, .slice (some ⟨g + 1 + 1 + 1 + 1, 0, none⟩) 1 1] 40 (0, 0)) := by rw [hwF]; exact heap_new (by first | omega | (simp <;> omega))
 have hbF : Below w9.heap.size w9 wF := by rw [hwF]; exact ((((((Below.refl _ _).alloc (by first | exact Nat.le_refl _ | (simp <;> omega)) _).alloc (by first | exact Nat.le_refl _ | (simp <;> omega)) _).alloc (by first | exact Nat.le_refl _ | (simp <;> omega)) _).alloc (by first | exact Nat.le_refl _ | (simp <;> omega)) _).alloc (by first | exact Nat.le_refl _ | (simp <;> omega)) _).alloc (by first | exact Nat.le_refl _ | (simp <;> omega)) _
 have RA : RdT wF (some ⟨g, 0, none⟩) 1 (pkh 2 1 fun _ => 5) := RdS.of_block k0 rfl
 have RB : RdT wF (some ⟨g + 1, 0, none⟩) 1 (pkh 2 1 fun _ => 7) := RdS.of_block k1 rfl
 have RF : RdT wF (some ⟨g + 1 + 1 + 1 + 1, 0, none⟩) 1 (pkh 2 1 fun _ => 8) := RdS.of_block k4 rfl
 have BF := Lib.hid (B9.out.call hbF rfl)
 clear hwF hg k0 k1 k4 hbF
 have d1 : dif (fun _ => 5) (fun _ => 7) 1 1 2 1 = [] := by decide +kernel
 have d2 : dif (fun _ => 5) (fun _ => 8) 1 1 2 1 = [2] := by decide +kernel
 have K7a := Lib.hid (fun (W : World) (hA : RdT W (some ⟨g, 0, none⟩) 1 (pkh 2 1 fun _ => 5)) (hB : RdT W (some ⟨g + 1, 0, none⟩) 1 (pkh 2 1 fun _ => 7)) => h7 { data := #[97] } { data := #[98] } 1 1 _ _ 1 1 1 2 _ _ W nm97 nm98 (by decide) (by decide) (fun k hk => by decide) (fun k hk => by decide) (by decide) (by decide) hA hB)
 have K7b := Lib.hid (fun (W : World) (hA : RdT W (some ⟨g, 0, none⟩) 1 (pkh 2 1 fun _ => 5)) (hB : RdT W (some ⟨g + 1 + 1 + 1 + 1, 0, none⟩) 1 (pkh 2 1 fun _ => 8)) => h7 { data := #[97] } { data := #[98] } 1 1 _ _ 1 1 1 2 _ _ W nm97 nm98 (by decide) (by decide) (fun k hk => by decide) (fun k hk => by decide) (by decide) (by decide) hA hB)
 have K12 := Lib.hid (fun (W : World) (hA : RdT W (some ⟨g, 0, none⟩) 1 (pkh 2 1 fun _ => 5)) (hB : RdT W (some ⟨g + 1, 0, none⟩) 1 (pkh 2 1 fun _ => 7)) => c12g { data := #[97] } { data := #[98] } _ _ 1 1 1 1 W
  (fun V hV => h16 { data := #[97] } { data := #[98] } 1 1 _ _ 1 1 1 2 _ _ V nm97 nm98 (by decide) (by decide) (fun k hk => by decide) (fun k hk => by decide) (by decide) (by decide) (hA.below hV) (hB.below hV))
  (fun V hV => h61 _ 1 _ 1 1 2 _ V (by decide) (hA.below hV)) (fun V hV => h61 _ 1 _ 1 1 2 _ V (by decide) (hB.below hV))
  (fun V hV => h35 _ 1 _ 1 1 2 _ 0 V (by decide) (by decide) (fun k hk => by decide) (by decide) (by decide) (hA.below hV)) (fun V hV => h35 _ 1 _ 1 1 2 _ 0 V (by decide) (by decide) (fun k hk => by decide) (by decide) (by decide) (hB.below hV)))
 rw [d1] at K7a
 rw [d2] at K7b
 refine (K7a.out _ RA RB).mono ?_
 rintro e w10 ⟨V1, c1, rfl, R1, hb⟩
 have B10 := Lib.hid (BF.out.call hb rfl)
 replace k2 := blkb k2 hb
 replace k3 := blkb k3 hb
 replace k5 := blkb k5 hb
 replace RA := RA.below hb
 replace RB := RB.below hb
 replace RF := RF.below hb
 have q2_0 : w10.cell? ⟨g + 1 + 1, 0, none⟩ = some (.string { data := #[97] }) := cell_at k2 rfl
 have q2_1 : w10.cell? ⟨g + 1 + 1, 1, none⟩ = some (.int .i64 1) := cell_at k2 rfl
 have q2_2 : w10.cell? ⟨g + 1 + 1, 2, none⟩ = some (.slice (some ⟨g, 0, none⟩) 1 1) := cell_at k2 rfl
 have l2 := cell_lt q2_0
 have q3_0 : w10.cell? ⟨g + 1 + 1 + 1, 0, none⟩ = some (.string { data := #[98] }) := cell_at k3 rfl
 have q3_1 : w10.cell? ⟨g + 1 + 1 + 1, 1, none⟩ = some (.int .i64 1) := cell_at k3 rfl
 have q3_2 : w10.cell? ⟨g + 1 + 1 + 1, 2, none⟩ = some (.slice (some ⟨g + 1, 0, none⟩) 1 1) := cell_at k3 rfl
 have l3 := cell_lt q3_0
 have q5_0 : w10.cell? ⟨g + 1 + 1 + 1 + 1 + 1, 0, none⟩ = some (.string { data := #[98] }) := cell_at k5 rfl
 have q5_1 : w10.cell? ⟨g + 1 + 1 + 1 + 1 + 1, 1, none⟩ = some (.int .i64 1) := cell_at k5 rfl
 have q5_2 : w10.cell? ⟨g + 1 + 1 + 1 + 1 + 1, 2, none⟩ = some (.slice (some ⟨g + 1 + 1 + 1 + 1, 0, none⟩) 1 1) := cell_at k5 rfl
 have l5 := cell_lt q5_0
 clear hb R1
 go_wp2_with fail
 refine (K7b.out _ RA RF).mono ?_
 rintro e w11 ⟨V2, c2, rfl, R2, hb⟩
 have B11 := Lib.hid (B10.out.call hb rfl)
 clear q2_0 q2_1 q2_2 q3_0 q3_1 q3_2 q5_0 q5_1 q5_2 l2 l3 l5
 replace k2 := blkb k2 hb
 replace k3 := blkb k3 hb
 replace k5 := blkb k5 hb
 replace RA := RA.below hb
 replace RB := RB.below hb
 replace RF := RF.below hb
 have q2_0 : w11.cell? ⟨g + 1 + 1, 0, none⟩ = some (.string { data := #[97] }) := cell_at k2 rfl
 have q2_1 : w11.cell? ⟨g + 1 + 1, 1, none⟩ = some (.int .i64 1) := cell_at k2 rfl
 have q2_2 : w11.cell? ⟨g + 1 + 1, 2, none⟩ = some (.slice (some ⟨g, 0, none⟩) 1 1) := cell_at k2 rfl
 have l2 := cell_lt q2_0
 have q3_0 : w11.cell? ⟨g + 1 + 1 + 1, 0, none⟩ = some (.string { data := #[98] }) := cell_at k3 rfl
 have q3_1 : w11.cell? ⟨g + 1 + 1 + 1, 1, none⟩ = some (.int .i64 1) := cell_at k3 rfl
 have q3_2 : w11.cell? ⟨g + 1 + 1 + 1, 2, none⟩ = some (.slice (some ⟨g + 1, 0, none⟩) 1 1) := cell_at k3 rfl
 have l3 := cell_lt q3_0
 have q5_0 : w11.cell? ⟨g + 1 + 1 + 1 + 1 + 1, 0, none⟩ = some (.string { data := #[98] }) := cell_at k5 rfl
 have q5_1 : w11.cell? ⟨g + 1 + 1 + 1 + 1 + 1, 1, none⟩ = some (.int .i64 1) := cell_at k5 rfl
 have q5_2 : w11.cell? ⟨g + 1 + 1 + 1 + 1 + 1, 2, none⟩ = some (.slice (some ⟨g + 1 + 1 + 1 + 1, 0, none⟩) 1 1) := cell_at k5 rfl
 have l5 := cell_lt q5_0
 clear hb
 replace R2 : RdI w11 V2 1 [2] := R2
 go_wp2_with fail
 refine (K12.out _ RA RB).mono ?_
 rintro e w12 ⟨V3, c3, rfl, R3, hb⟩
 have B12 := Lib.hid (B11.out.call hb rfl)
 clear q2_0 q2_1 q2_2 q3_0 q3_1 q3_2 q5_0 q5_1 q5_2 l2 l3 l5
 replace R2 := R2.below hb
 clear hb k2 k3 k5 RA RB RF d1 d2
 obtain ⟨bv, ov, hV3, hbv, t0, t1⟩ := R3.at (k := 0) rfl
 subst hV3
 simp only [Nat.zero_mul, Nat.add_zero] at t0 t1
 have R2H := Lib.hid R2
 have R3H := Lib.hid R3
 have O66 := op66 6 6 6 6
 clear R2 R3
 go_wp2_with fail
 obtain ⟨w13, hw13⟩ : ∃ W, W = w12.alloc (Obj.cells #[.int .i64 2] 3) := ⟨_, rfl⟩
 have b13 : Below w12.heap.size w12 w13 := by rw [hw13]; exact bl2 _ _
 have hI : RdI w13 (some ⟨w12.heap.size, 0, none⟩) 1 [2] := by rw [hw13]; exact RdS.of_new (cs := [.int .i64 2]) rfl rfl
 rw [← hw13]
 refine (c13 V2 _ 1 1 _ _ [2] [2] w13 (by omega) (by omega) (R2H.out.below b13) hI).mono ?_
 rintro e w14 ⟨rfl, hb⟩
 obtain ⟨bv2, ov2, hV3, hbv2, t02, t12⟩ := ((R3H.out.below b13).below hb).at (k := 0) rfl
 cases hV3
 simp only [Nat.zero_mul, Nat.add_zero] at t02 t12
 have B14 := Lib.hid ((B12.out.call b13 rfl).call hb rfl)
 clear hw13 b13 hI hb t0 t1 hbv
 go_wp2
 go_ret
 exact ⟨rfl, B14.out⟩
end Go.Proofs.YtfmgibhffgkieaaDoor
namespace Go.Proofs.YtfmgibhffgkieaaDoor
open Go.RowKit Go.Shelf
set_option maxHeartbeats 8000000
set_option maxRecDepth 100000
attribute [local go_sem] Oper.semAt_some
theorem c5_ok (A : Option Addr) (n cap : Nat) (xs : Nat → Int) (e0 e1 d0 d1 : Int) (w : World) (hn : 1 ≤ n ∧ n ≤ 6) :
  Calls Tryd.prog 5 #[.agg #[.slice A n cap, .int .u8 e0, .int .u8 e1, .int .i8 (xs 0), .int .i8 (xs 1), .int .i8 (xs 2), .int .i8 (xs 3), .int .i8 (xs 4), .int .i8 (xs 5), .int .i8 (xs 6), .int .i8 (xs 7), .int .i8 (xs 8), .int .i8 (xs 9), .int .i8 (xs 10), .int .i8 (xs 11), .int .i8 d0, .int .i8 d1]] w fun en w' => en = .returned (.bool true) ∧ Below w.heap.size w w' := by
 have g1 : decide ((1 : Int) ≤ (n : Int)) = true := by simp; omega
 have g2 : decide ((n : Int) ≤ 6) = true := by simp; omega
 have g3 : decide (1 ≤ n) = true := by simp; omega
 have g4 : decide (n ≤ 6) = true := by simp; omega
 clear hn
 obtain ⟨w0, hW⟩ : ∃ W, W = w.alloc (Obj.cells #[.slice A n cap, .int .u8 e0, .int .u8 e1, .int .i8 (xs 0), .int .i8 (xs 1), .int .i8 (xs 2), .int .i8 (xs 3), .int .i8 (xs 4), .int .i8 (xs 5), .int .i8 (xs 6), .int .i8 (xs 7), .int .i8 (xs 8), .int .i8 (xs 9), .int .i8 (xs 10), .int .i8 (xs 11), .int .i8 d0, .int .i8 d1] 29) := ⟨_, rfl⟩
 have hT0 : w0.heap[w.heap.size]? = some (.cells #[.slice A n cap, .int .u8 e0, .int .u8 e1, .int .i8 (xs 0), .int .i8 (xs 1), .int .i8 (xs 2), .int .i8 (xs 3), .int .i8 (xs 4), .int .i8 (xs 5), .int .i8 (xs 6), .int .i8 (xs 7), .int .i8 (xs 8), .int .i8 (xs 9), .int .i8 (xs 10), .int .i8 (xs 11), .int .i8 d0, .int .i8 d1] 29 (0, 0)) := by rw [hW]; exact heap_new (by simp)
 have hB0 : Below w.heap.size w w0 := by rw [hW]; exact ((Below.refl _ _).alloc (by first | omega | (simp <;> omega)) _)
 go_enter Tryd.func5, Tryd.ntmps5
 go_wp2_with fail
 rw [← hW]
 clear hW
 have qhT0_0 : w0.cell? ⟨w.heap.size, 0, none⟩ = some (.slice A n cap) := cell_at hT0 rfl
 have qhT0_1 : w0.cell? ⟨w.heap.size, 1, none⟩ = some (.int .u8 e0) := cell_at hT0 rfl
 have qhT0_2 : w0.cell? ⟨w.heap.size, 2, none⟩ = some (.int .u8 e1) := cell_at hT0 rfl
 have qhT0_3 : w0.cell? ⟨w.heap.size, 3, none⟩ = some (.int .i8 (xs 0)) := cell_at hT0 rfl
 have qhT0_4 : w0.cell? ⟨w.heap.size, 4, none⟩ = some (.int .i8 (xs 1)) := cell_at hT0 rfl
 have qhT0_5 : w0.cell? ⟨w.heap.size, 5, none⟩ = some (.int .i8 (xs 2)) := cell_at hT0 rfl
 have qhT0_6 : w0.cell? ⟨w.heap.size, 6, none⟩ = some (.int .i8 (xs 3)) := cell_at hT0 rfl
 have qhT0_7 : w0.cell? ⟨w.heap.size, 7, none⟩ = some (.int .i8 (xs 4)) := cell_at hT0 rfl
 have qhT0_8 : w0.cell? ⟨w.heap.size, 8, none⟩ = some (.int .i8 (xs 5)) := cell_at hT0 rfl
 have qhT0_9 : w0.cell? ⟨w.heap.size, 9, none⟩ = some (.int .i8 (xs 6)) := cell_at hT0 rfl
 have qhT0_10 : w0.cell? ⟨w.heap.size, 10, none⟩ = some (.int .i8 (xs 7)) := cell_at hT0 rfl
 have qhT0_11 : w0.cell? ⟨w.heap.size, 11, none⟩ = some (.int .i8 (xs 8)) := cell_at hT0 rfl
 have qhT0_12 : w0.cell? ⟨w.heap.size, 12, none⟩ = some (.int .i8 (xs 9)) := cell_at hT0 rfl
 have qhT0_13 : w0.cell? ⟨w.heap.size, 13, none⟩ = some (.int .i8 (xs 10)) := cell_at hT0 rfl
 have qhT0_14 : w0.cell? ⟨w.heap.size, 14, none⟩ = some (.int .i8 (xs 11)) := cell_at hT0 rfl
 have qhT0_15 : w0.cell? ⟨w.heap.size, 15, none⟩ = some (.int .i8 d0) := cell_at hT0 rfl
 have qhT0_16 : w0.cell? ⟨w.heap.size, 16, none⟩ = some (.int .i8 d1) := cell_at hT0 rfl
 go_wp2
 go_ret
 exact ⟨rfl, hB0⟩
theorem c5_0 (A : Option Addr) (n cap : Nat) (xs : Nat → Int) (e0 e1 d0 d1 : Int) (w : World) (hn : n = 0) :
  Calls Tryd.prog 5 #[.agg #[.slice A n cap, .int .u8 e0, .int .u8 e1, .int .i8 (xs 0), .int .i8 (xs 1), .int .i8 (xs 2), .int .i8 (xs 3), .int .i8 (xs 4), .int .i8 (xs 5), .int .i8 (xs 6), .int .i8 (xs 7), .int .i8 (xs 8), .int .i8 (xs 9), .int .i8 (xs 10), .int .i8 (xs 11), .int .i8 d0, .int .i8 d1]] w fun en w' => en = .returned (.bool false) ∧ Below w.heap.size w w' := by
 have g1 : decide ((1 : Int) ≤ (n : Int)) = false := by simp; omega
 have g3 : decide (1 ≤ n) = false := by simp; omega
 clear hn
 obtain ⟨w0, hW⟩ : ∃ W, W = w.alloc (Obj.cells #[.slice A n cap, .int .u8 e0, .int .u8 e1, .int .i8 (xs 0), .int .i8 (xs 1), .int .i8 (xs 2), .int .i8 (xs 3), .int .i8 (xs 4), .int .i8 (xs 5), .int .i8 (xs 6), .int .i8 (xs 7), .int .i8 (xs 8), .int .i8 (xs 9), .int .i8 (xs 10), .int .i8 (xs 11), .int .i8 d0, .int .i8 d1] 29) := ⟨_, rfl⟩
 have hT0 : w0.heap[w.heap.size]? = some (.cells #[.slice A n cap, .int .u8 e0, .int .u8 e1, .int .i8 (xs 0), .int .i8 (xs 1), .int .i8 (xs 2), .int .i8 (xs 3), .int .i8 (xs 4), .int .i8 (xs 5), .int .i8 (xs 6), .int .i8 (xs 7), .int .i8 (xs 8), .int .i8 (xs 9), .int .i8 (xs 10), .int .i8 (xs 11), .int .i8 d0, .int .i8 d1] 29 (0, 0)) := by rw [hW]; exact heap_new (by simp)
 have hB0 : Below w.heap.size w w0 := by rw [hW]; exact ((Below.refl _ _).alloc (by first | omega | (simp <;> omega)) _)
 go_enter Tryd.func5, Tryd.ntmps5
 go_wp2_with fail
 rw [← hW]
 clear hW
 have qhT0_0 : w0.cell? ⟨w.heap.size, 0, none⟩ = some (.slice A n cap) := cell_at hT0 rfl
 have qhT0_1 : w0.cell? ⟨w.heap.size, 1, none⟩ = some (.int .u8 e0) := cell_at hT0 rfl
 have qhT0_2 : w0.cell? ⟨w.heap.size, 2, none⟩ = some (.int .u8 e1) := cell_at hT0 rfl
 have qhT0_3 : w0.cell? ⟨w.heap.size, 3, none⟩ = some (.int .i8 (xs 0)) := cell_at hT0 rfl
 have qhT0_4 : w0.cell? ⟨w.heap.size, 4, none⟩ = some (.int .i8 (xs 1)) := cell_at hT0 rfl
 have qhT0_5 : w0.cell? ⟨w.heap.size, 5, none⟩ = some (.int .i8 (xs 2)) := cell_at hT0 rfl
 have qhT0_6 : w0.cell? ⟨w.heap.size, 6, none⟩ = some (.int .i8 (xs 3)) := cell_at hT0 rfl
 have qhT0_7 : w0.cell? ⟨w.heap.size, 7, none⟩ = some (.int .i8 (xs 4)) := cell_at hT0 rfl
 have qhT0_8 : w0.cell? ⟨w.heap.size, 8, none⟩ = some (.int .i8 (xs 5)) := cell_at hT0 rfl
 have qhT0_9 : w0.cell? ⟨w.heap.size, 9, none⟩ = some (.int .i8 (xs 6)) := cell_at hT0 rfl
 have qhT0_10 : w0.cell? ⟨w.heap.size, 10, none⟩ = some (.int .i8 (xs 7)) := cell_at hT0 rfl
 have qhT0_11 : w0.cell? ⟨w.heap.size, 11, none⟩ = some (.int .i8 (xs 8)) := cell_at hT0 rfl
 have qhT0_12 : w0.cell? ⟨w.heap.size, 12, none⟩ = some (.int .i8 (xs 9)) := cell_at hT0 rfl
 have qhT0_13 : w0.cell? ⟨w.heap.size, 13, none⟩ = some (.int .i8 (xs 10)) := cell_at hT0 rfl
 have qhT0_14 : w0.cell? ⟨w.heap.size, 14, none⟩ = some (.int .i8 (xs 11)) := cell_at hT0 rfl
 have qhT0_15 : w0.cell? ⟨w.heap.size, 15, none⟩ = some (.int .i8 d0) := cell_at hT0 rfl
 have qhT0_16 : w0.cell? ⟨w.heap.size, 16, none⟩ = some (.int .i8 d1) := cell_at hT0 rfl
 go_wp2
 go_ret
 exact ⟨rfl, hB0⟩
theorem c5_7 (A : Option Addr) (n cap : Nat) (xs : Nat → Int) (e0 e1 d0 d1 : Int) (w : World) (hn : 6 < n) :
  Calls Tryd.prog 5 #[.agg #[.slice A n cap, .int .u8 e0, .int .u8 e1, .int .i8 (xs 0), .int .i8 (xs 1), .int .i8 (xs 2), .int .i8 (xs 3), .int .i8 (xs 4), .int .i8 (xs 5), .int .i8 (xs 6), .int .i8 (xs 7), .int .i8 (xs 8), .int .i8 (xs 9), .int .i8 (xs 10), .int .i8 (xs 11), .int .i8 d0, .int .i8 d1]] w fun en w' => en = .returned (.bool false) ∧ Below w.heap.size w w' := by
 have g1 : decide ((1 : Int) ≤ (n : Int)) = true := by simp; omega
 have g2 : decide ((n : Int) ≤ 6) = false := by simp; omega
 have g3 : decide (1 ≤ n) = true := by simp; omega
 have g4 : decide (n ≤ 6) = false := by simp; omega
 clear hn
 obtain ⟨w0, hW⟩ : ∃ W, W = w.alloc (Obj.cells #[.slice A n cap, .int .u8 e0, .int .u8 e1, .int .i8 (xs 0), .int .i8 (xs 1), .int .i8 (xs 2), .int .i8 (xs 3), .int .i8 (xs 4), .int .i8 (xs 5), .int .i8 (xs 6), .int .i8 (xs 7), .int .i8 (xs 8), .int .i8 (xs 9), .int .i8 (xs 10), .int .i8 (xs 11), .int .i8 d0, .int .i8 d1] 29) := ⟨_, rfl⟩
 have hT0 : w0.heap[w.heap.size]? = some (.cells #[.slice A n cap, .int .u8 e0, .int .u8 e1, .int .i8 (xs 0), .int .i8 (xs 1), .int .i8 (xs 2), .int .i8 (xs 3), .int .i8 (xs 4), .int .i8 (xs 5), .int .i8 (xs 6), .int .i8 (xs 7), .int .i8 (xs 8), .int .i8 (xs 9), .int .i8 (xs 10), .int .i8 (xs 11), .int .i8 d0, .int .i8 d1] 29 (0, 0)) := by rw [hW]; exact heap_new (by simp)
 have hB0 : Below w.heap.size w w0 := by rw [hW]; exact ((Below.refl _ _).alloc (by first | omega | (simp <;> omega)) _)
 go_enter Tryd.func5, Tryd.ntmps5
 go_wp2_with fail
 rw [← hW]
 clear hW
 have qhT0_0 : w0.cell? ⟨w.heap.size, 0, none⟩ = some (.slice A n cap) := cell_at hT0 rfl
 have qhT0_1 : w0.cell? ⟨w.heap.size, 1, none⟩ = some (.int .u8 e0) := cell_at hT0 rfl
 have qhT0_2 : w0.cell? ⟨w.heap.size, 2, none⟩ = some (.int .u8 e1) := cell_at hT0 rfl
 have qhT0_3 : w0.cell? ⟨w.heap.size, 3, none⟩ = some (.int .i8 (xs 0)) := cell_at hT0 rfl
 have qhT0_4 : w0.cell? ⟨w.heap.size, 4, none⟩ = some (.int .i8 (xs 1)) := cell_at hT0 rfl
 have qhT0_5 : w0.cell? ⟨w.heap.size, 5, none⟩ = some (.int .i8 (xs 2)) := cell_at hT0 rfl
 have qhT0_6 : w0.cell? ⟨w.heap.size, 6, none⟩ = some (.int .i8 (xs 3)) := cell_at hT0 rfl
 have qhT0_7 : w0.cell? ⟨w.heap.size, 7, none⟩ = some (.int .i8 (xs 4)) := cell_at hT0 rfl
 have qhT0_8 : w0.cell? ⟨w.heap.size, 8, none⟩ = some (.int .i8 (xs 5)) := cell_at hT0 rfl
 have qhT0_9 : w0.cell? ⟨w.heap.size, 9, none⟩ = some (.int .i8 (xs 6)) := cell_at hT0 rfl
 have qhT0_10 : w0.cell? ⟨w.heap.size, 10, none⟩ = some (.int .i8 (xs 7)) := cell_at hT0 rfl
 have qhT0_11 : w0.cell? ⟨w.heap.size, 11, none⟩ = some (.int .i8 (xs 8)) := cell_at hT0 rfl
 have qhT0_12 : w0.cell? ⟨w.heap.size, 12, none⟩ = some (.int .i8 (xs 9)) := cell_at hT0 rfl
 have qhT0_13 : w0.cell? ⟨w.heap.size, 13, none⟩ = some (.int .i8 (xs 10)) := cell_at hT0 rfl
 have qhT0_14 : w0.cell? ⟨w.heap.size, 14, none⟩ = some (.int .i8 (xs 11)) := cell_at hT0 rfl
 have qhT0_15 : w0.cell? ⟨w.heap.size, 15, none⟩ = some (.int .i8 d0) := cell_at hT0 rfl
 have qhT0_16 : w0.cell? ⟨w.heap.size, 16, none⟩ = some (.int .i8 d1) := cell_at hT0 rfl
 go_wp2
 go_ret
 exact ⟨rfl, hB0⟩
theorem info5 : (Tryd.prog.info? 5).map (fun i => (i.zero, i.size, i.bytes)) = some (some (.int .u8 0), 1, 1) := by kernel_rfl
theorem wp_copyU {o : Oper} {a : Act} {w : World} {K : Act → World → Prop} {Q : Exit → Act → World → Prop} (s x : Operand)
  (ho : o.op = .call { callee := .builtin .append, args := #[s, x], argTypes := #[22, 22] }) (g : Nat)
  (hs : a.eval s = .slice (some ⟨g, 0, none⟩) 0 0) (ad : Addr) (m c : Nat) (hx : a.eval x = .slice (some ad) m c) (l : List Int) (H : RdS w 1 (some ad) m (l.map (Value.int .u8))) (hm : 1 ≤ m ∧ m ≤ 1000000)
  (h : ∀ X xc w', w'.ownsRow w.heap.size 5 1 (.slice X m xc) m (l.map (Value.int .u8)) → Below w.heap.size w w' → K (a.put o.dst (.slice X m xc)) w') : o.wp Tryd.prog a w K Q := by
 obtain ⟨i0, hi, hz0, hz1, hz2⟩ := info_parts info5
 obtain ⟨v', w', hrun, r1, r2⟩ := run_append_arg_grows (P := Tryd.prog) w 22 o.type 5 i0 (.int .u8 0) 1 1 Tryd.underlying22 hi hz0 hz1 hz2 rfl (by decide) ⟨g, 0, none⟩ 0 0 [] rfl (fun j u hu => by simp at hu) ad m c _ (by rw [H.1]) (RdS.news H (by decide)) (by omega) (by unfold maxLen; omega) (by omega)
 have hb : Below w.heap.size w w' := (Below.refl _ _).grown r2 (Nat.le_refl _) (fun g hg => by cases hg)
 rw [Nat.zero_add, List.nil_append] at r1
 obtain ⟨X, xc, rfl, hX, hxc, _⟩ := own_form r1
 have hk := h X xc w' r1 hb
 unfold Oper.wp
 simp only [execOp, ho, resolve, invoke, builtin, Sem.run_bind, Sem.run_pure, Result.andThen_ok, List.map_toArray, List.map_cons, List.map_nil, hs, hx, hrun]
 exact hk
theorem pk6_pkh (n : Nat) (tm wv : Nat → Int) (h : ∀ k, k < n → 0 ≤ 20 + tm k + wv k) : pk6 n tm wv = pkh 0 n (fun k => (20 + tm k + wv k).toNat) := by
 unfold pk6 pkh
 apply List.map_congr_left
 intro k hk
 have := h k (List.mem_range.1 hk)
 simp only [Td.mk.injEq]
 omega
theorem tmod_bd (x M : Int) (hM : 1 ≤ M) : -(M - 1) ≤ x.tmod M ∧ x.tmod M ≤ M - 1 := by
 have h1 := Int.tmod_lt_of_pos x (by omega : 0 < M)
 have h2 := Int.tmod_lt_of_pos (-x) (by omega : 0 < M)
 rw [Int.neg_tmod] at h2
 omega
/-- the plain law -/
theorem keel_plain (n at0 : Nat) (t wa wb : Nat → Int) (ea eb ch : Int) (v u : Nat → Nat) (hat : at0 < n) (hea : 0 ≤ ea) (heb : 0 ≤ eb)
  (hv : ∀ k, k < n → (v k : Int) = 20 + t k + wa k) (hu : ∀ k, k < n → (u k : Int) = 20 + (if k = at0 then t k + ch else t k) + wb k)
  (hwa : ∀ k, k < n → -ea ≤ wa k ∧ wa k ≤ ea) (hwb : ∀ k, k < n → -eb ≤ wb k ∧ wb k ≤ eb) :
  (∀ q ∈ dif v u ea eb 0 n, 2 * (at0 : Int) - 2 < q ∧ q < 2 * (at0 : Int) + 2) ∧ (ch = 0 → dif v u ea eb 0 n = []) ∧ (2 * (ea + eb) < ch ∨ 2 * (ea + eb) < -ch → 2 * (at0 : Int) ∈ dif v u ea eb 0 n) := by
 have key : ∀ j, j < 2 * n - 1 → (decide (iv2 v ea j < iv1 u eb j + 0) || decide (iv2 u eb j + 0 < iv1 v ea j)) = true → ch ≠ 0 ∧ 2 * (at0 : Int) - 2 < j ∧ (j : Int) < 2 * (at0 : Int) + 2 := by
  intro j hj h
  simp only [Bool.or_eq_true, decide_eq_true_eq] at h
  unfold iv1 iv2 flo cei at h
  by_cases h2 : j % 2 = 0
  ·simp only [if_pos h2] at h
   have a1 := hv (j / 2) (by omega)
   have a2 := hu (j / 2) (by omega)
   have a3 := hwa (j / 2) (by omega)
   have a4 := hwb (j / 2) (by omega)
   by_cases e : j / 2 = at0
   ·rw [if_pos e] at a2
    omega
   ·rw [if_neg e] at a2
    omega
  ·simp only [if_neg h2] at h
   have a1 := hv (j / 2) (by omega)
   have a2 := hu (j / 2) (by omega)
   have a3 := hwa (j / 2) (by omega)
   have a4 := hwb (j / 2) (by omega)
   have b1 := hv (j / 2 + 1) (by omega)
   have b2 := hu (j / 2 + 1) (by omega)
   have b3 := hwa (j / 2 + 1) (by omega)
   have b4 := hwb (j / 2 + 1) (by omega)
   by_cases e : j / 2 = at0
   ·rw [if_pos e] at a2
    rw [if_neg (by omega)] at b2
    omega
   ·rw [if_neg e] at a2
    by_cases e2 : j / 2 + 1 = at0
    ·rw [if_pos e2] at b2
     omega
    ·rw [if_neg e2] at b2
     omega
 have mem : ∀ q ∈ dif v u ea eb 0 n, ∃ j : Nat, q = (j : Int) ∧ j < 2 * n - 1 ∧ (decide (iv2 v ea j < iv1 u eb j + 0) || decide (iv2 u eb j + 0 < iv1 v ea j)) = true := by
  intro q hq
  unfold dif selK at hq
  obtain ⟨j, hj, rfl⟩ := List.mem_map.1 hq
  obtain ⟨h1, h2⟩ := List.mem_filter.1 hj
  exact ⟨j, by simp, List.mem_range.1 h1, h2⟩
 refine ⟨fun q hq => ?_, fun h0 => ?_, fun hc => ?_⟩
 ·obtain ⟨j, rfl, hj, h⟩ := mem q hq
  exact (key j hj h).2
 ·refine List.eq_nil_iff_forall_not_mem.2 fun q hq => ?_
  obtain ⟨j, rfl, hj, h⟩ := mem q hq
  exact (key j hj h).1 h0
 ·unfold dif selK
  refine List.mem_map.2 ⟨2 * at0, List.mem_filter.2 ⟨List.mem_range.2 (by omega), ?_⟩, by simp⟩
  have h2 : (2 * at0) % 2 = 0 := by omega
  have h3 : (2 * at0) / 2 = at0 := by omega
  simp only [Bool.or_eq_true, decide_eq_true_eq]
  unfold iv1 iv2 flo cei
  simp only [if_pos h2, h3]
  have a1 := hv at0 hat
  have a2 := hu at0 hat
  have a3 := hwa at0 hat
  have a4 := hwb at0 hat
  rw [if_pos rfl] at a2
  omega
end Go.Proofs.YtfmgibhffgkieaaDoor
namespace Go.Proofs.YtfmgibhffgkieaaDoor
open Go.RowKit Go.Shelf
set_option maxHeartbeats 8000000
set_option maxRecDepth 100000
attribute [local go_sem] Oper.semAt_some
theorem c6_0 (A : Option Addr) (n cap : Nat) (ts : List Int) (xs : Nat → Int) (e0 e1 d0 d1 e h M : Int) (tm wv : Nat → Int) (w : World) (hn : 1 ≤ n ∧ n ≤ 6) (HR : Rng w) (H : RdS w 1 A n (ts.map (Value.int .u8))) (he : (wrap64 e0).tmod 4 = e) (hee : 0 ≤ e ∧ e ≤ 3) (hM : e + 1 = M) (hd : (wrap64 d0).tmod 9 = h) (hh : -8 ≤ h ∧ h ≤ 8) (hts : ∀ k x, ts[k]? = some x → (wrap64 x).tmod 40 = tm k ∧ 0 ≤ tm k ∧ tm k ≤ 39) (hws : ∀ k, k < 6 → (wrap64 (xs k)).tmod M = wv k ∧ -3 ≤ wv k ∧ wv k ≤ 3) :
  Calls Tryd.prog 6 #[.agg #[.slice A n cap, .int .u8 e0, .int .u8 e1, .int .i8 (xs 0), .int .i8 (xs 1), .int .i8 (xs 2), .int .i8 (xs 3), .int .i8 (xs 4), .int .i8 (xs 5), .int .i8 (xs 6), .int .i8 (xs 7), .int .i8 (xs 8), .int .i8 (xs 9), .int .i8 (xs 10), .int .i8 (xs 11), .int .i8 d0, .int .i8 d1], .int .i64 0] w fun en w' => ∃ A' c', en = .returned (.tuple #[.slice A' n c', .bool true]) ∧ RdT w' A' n (pk6 n tm wv) ∧ Below w.heap.size w w' := by
 have HN := Lib.hid hn
 have HTS := Lib.hid hts
 have HWS := Lib.hid hws
 have HHH := Lib.hid hh
 have HEE := Lib.hid hee
 have HM := Lib.hid hM
 have he1 : IntKind.i64.wrap (e + 1) = M := by rw [wrapI (by omega)]; exact hM
 have he10 : ¬ (M = 0) := by omega
 have hwe : wrap64 e = e := wrap64_ok (by omega)
 have hwh : wrap64 h = h := wrap64_ok (by omega)
 have hwh2 : wrap64 (-h) = -h := wrap64_ok (by omega)
 have HE1 := Lib.hid he1
 have HE10 := Lib.hid he10
 clear hn hts hws hee hM hh he1 he10
 obtain ⟨w0, hW⟩ : ∃ W, W = w.alloc (Obj.cells #[.slice A n cap, .int .u8 e0, .int .u8 e1, .int .i8 (xs 0), .int .i8 (xs 1), .int .i8 (xs 2), .int .i8 (xs 3), .int .i8 (xs 4), .int .i8 (xs 5), .int .i8 (xs 6), .int .i8 (xs 7), .int .i8 (xs 8), .int .i8 (xs 9), .int .i8 (xs 10), .int .i8 (xs 11), .int .i8 d0, .int .i8 d1] 29) := ⟨_, rfl⟩
 have hT0 : w0.heap[w.heap.size]? = some (.cells #[.slice A n cap, .int .u8 e0, .int .u8 e1, .int .i8 (xs 0), .int .i8 (xs 1), .int .i8 (xs 2), .int .i8 (xs 3), .int .i8 (xs 4), .int .i8 (xs 5), .int .i8 (xs 6), .int .i8 (xs 7), .int .i8 (xs 8), .int .i8 (xs 9), .int .i8 (xs 10), .int .i8 (xs 11), .int .i8 d0, .int .i8 d1] 29 (0, 0)) := by rw [hW]; exact heap_new (by simp)
 have hB0 : Below w.heap.size w w0 := by rw [hW]; exact ((Below.refl _ _).alloc (by first | omega | (simp <;> omega)) _)
 replace H := H.below hB0
 replace HR := HR.below hB0
 go_enter Tryd.func6, Tryd.ntmps6
 have hz00 : w0.heap.size = w.heap.size + 1 := by rw [hW]; simp
 obtain ⟨w1, hw1⟩ : ∃ W, W = w0.alloc (Obj.cells #[.int .i64 0, .int .i64 0, .int .i64 100, .int .i64 h, .int .i64 101, .int .i64 (-h)] 55) := ⟨_, rfl⟩
 obtain ⟨w2, hw2⟩ : ∃ W, W = w1.alloc (Obj.cells #[.string { data := #[115] }, .slice none 0 0] 51) := ⟨_, rfl⟩
 go_wp2_with fail
 rw [← hW]
 rw [← hw1]
 rw [← hw2]
 clear hW
 have qhT0_0 : w0.cell? ⟨w.heap.size, 0, none⟩ = some (.slice A n cap) := cell_at hT0 rfl
 have qhT0_1 : w0.cell? ⟨w.heap.size, 1, none⟩ = some (.int .u8 e0) := cell_at hT0 rfl
 have qhT0_2 : w0.cell? ⟨w.heap.size, 2, none⟩ = some (.int .u8 e1) := cell_at hT0 rfl
 have qhT0_3 : w0.cell? ⟨w.heap.size, 3, none⟩ = some (.int .i8 (xs 0)) := cell_at hT0 rfl
 have qhT0_4 : w0.cell? ⟨w.heap.size, 4, none⟩ = some (.int .i8 (xs 1)) := cell_at hT0 rfl
 have qhT0_5 : w0.cell? ⟨w.heap.size, 5, none⟩ = some (.int .i8 (xs 2)) := cell_at hT0 rfl
 have qhT0_6 : w0.cell? ⟨w.heap.size, 6, none⟩ = some (.int .i8 (xs 3)) := cell_at hT0 rfl
 have qhT0_7 : w0.cell? ⟨w.heap.size, 7, none⟩ = some (.int .i8 (xs 4)) := cell_at hT0 rfl
 have qhT0_8 : w0.cell? ⟨w.heap.size, 8, none⟩ = some (.int .i8 (xs 5)) := cell_at hT0 rfl
 have qhT0_9 : w0.cell? ⟨w.heap.size, 9, none⟩ = some (.int .i8 (xs 6)) := cell_at hT0 rfl
 have qhT0_10 : w0.cell? ⟨w.heap.size, 10, none⟩ = some (.int .i8 (xs 7)) := cell_at hT0 rfl
 have qhT0_11 : w0.cell? ⟨w.heap.size, 11, none⟩ = some (.int .i8 (xs 8)) := cell_at hT0 rfl
 have qhT0_12 : w0.cell? ⟨w.heap.size, 12, none⟩ = some (.int .i8 (xs 9)) := cell_at hT0 rfl
 have qhT0_13 : w0.cell? ⟨w.heap.size, 13, none⟩ = some (.int .i8 (xs 10)) := cell_at hT0 rfl
 have qhT0_14 : w0.cell? ⟨w.heap.size, 14, none⟩ = some (.int .i8 (xs 11)) := cell_at hT0 rfl
 have qhT0_15 : w0.cell? ⟨w.heap.size, 15, none⟩ = some (.int .i8 d0) := cell_at hT0 rfl
 have qhT0_16 : w0.cell? ⟨w.heap.size, 16, none⟩ = some (.int .i8 d1) := cell_at hT0 rfl
 obtain ⟨p8, hp8⟩ : ∃ p, p = w.heap.size + 1 := ⟨_, rfl⟩
 obtain ⟨p9, hp9⟩ : ∃ p, p = w.heap.size + 1 + 1 := ⟨_, rfl⟩
 have hz0 : w1.heap.size = w0.heap.size + 1 := by rw [hw1]; simp
 have hb1 : Below w0.heap.size w0 w1 := by rw [hw1]; exact bl2 _ _
 have hb2 : Below w1.heap.size w1 w2 := by rw [hw2]; exact bl2 _ _
 have hT9 : w2.heap[p9]? = some (.cells #[.string { data := #[115] }, .slice none 0 0] 51 (0, 0)) := by rw [hw2, hp9]; exact heap_new (by omega)
 have hTD : RdT w1 (some ⟨p8, 0, none⟩) 3 (tdl h) := by rw [hw1, hp8]; unfold RdT tdl; exact RdS.of_new hz00.symm rfl
 have hB1 := hB0.call hb1 rfl
 have hT0' := blkb hT0 hb1
 have H2 := H.below hb1
 have HR2 := HR.below hb1
 have hlt0 : w.heap.size < p8 := by omega
 have hp89 : p9 = p8 + 1 := by omega
 have hz1 : w1.heap.size = p9 := by omega
 clear hz0 hz00
 have hpz2 : p9 + 1 = w2.heap.size := by rw [hw2]; simp; omega
 have hb2' : Below p9 w1 w2 := by rw [← hz1]; exact hb2
 rw [← hp9, ← hp8]
 clear qhT0_0 qhT0_1 qhT0_2 qhT0_3 qhT0_4 qhT0_5 qhT0_6 qhT0_7 qhT0_8 qhT0_9 qhT0_10 qhT0_11 qhT0_12 qhT0_13 qhT0_14 qhT0_15 qhT0_16 hT0 H HR hB0 hb1 hb2 hw1 hw2 hp8 hp9
 have HT0 := Lib.hid hT0'
 have HH := Lib.hid H2
 have HRG := Lib.hid HR2
 have HB1 := Lib.hid hB1
 have HTD := Lib.hid hTD
 have HT9 := Lib.hid hT9
 have HB2 := Lib.hid hb2'
 have HZ := Lib.hid (⟨hlt0, hp89, hz1⟩ : w.heap.size < p8 ∧ p9 = p8 + 1 ∧ w1.heap.size = p9)
 clear hT0' H2 HR2 hB1 hTD hT9 hlt0 hp89 hpz2 hb2' hz1 hwe hwh hwh2 he hd
 go_loopw [47] (fun iv wr => ∃ (k : Nat) (V : Option Addr) (vc : Nat) (l' : List Tc), k ≤ n ∧ iv = .int .i64 k ∧ Hid (wr.heap[p9]? = some (.cells #[.string { data := #[115] }, .slice V k vc] 51 (0, 0))) ∧ Hid (wr.ownsRow (p9 + 1) 48 10 (.slice V k vc) k (l'.flatMap Tc.enc)) ∧ Hid (l'.length = k ∧ trk l' (p9 + 1) (fun i => 20 + tm i + wv i + lvS h (20 * (i : Int))) wr) ∧ Hid (Below p9 w1 wr)) (fun iv _ => n - (intOf iv).toNat)
 case atStart => exact ⟨0, none, 0, [], Nat.zero_le _, rfl, HT9, Lib.hid (World.ownsRow_nil _ _ _ _), Lib.hid ⟨rfl, trk.nil _ _ _⟩, HB2⟩
 case round =>
  obtain ⟨k, V, vc, l', hk, rfl, K9, HROW, HTRK, HBR⟩ := hrel
  have hwk : IntKind.i64.wrap ((k : Int) + 1) = ((k + 1 : Nat) : Int) := by rw [wrapI (by have := HN.out; omega)]; simp
  by_cases hlt : k < n
  ·have hk6 : k < 6 := by have := HN.out; omega
   have hlti : (k : Int) < (n : Int) := by omega
   have hk20 : IntKind.i64.wrap (20 * (k : Int)) = 20 * (k : Int) := wrapI (by omega)
   obtain ⟨hlt0, hp89, hpz1⟩ := HZ.out
   have hB1r : Below w1.heap.size w1 wr := by rw [hpz1]; exact HBR.out
   have hszr : p9 < wr.heap.size := (Array.getElem?_eq_some_iff.1 K9.out).1
   obtain ⟨b, off, x, hAe, hx, hb, h0⟩ := enc_at (enc := Value.int .u8) (HH.out.below hB1r) hlt
   subst hAe
   obtain ⟨ht1, ht2⟩ := HTS.out k x hx
   obtain ⟨hv1, hv2⟩ := HWS.out k hk6
   obtain ⟨tk, htk⟩ : ∃ v, v = tm k := ⟨_, rfl⟩
   obtain ⟨wk, hwkk⟩ : ∃ v, v = wv k := ⟨_, rfl⟩
   obtain ⟨S, hS⟩ : ∃ v, v = lvS h (20 * (k : Int)) := ⟨_, rfl⟩
   obtain ⟨N, hNN⟩ : ∃ v, v = lvN h (20 * (k : Int)) := ⟨_, rfl⟩
   obtain ⟨D, hDD⟩ : ∃ v, v = lvD h (20 * (k : Int)) := ⟨_, rfl⟩
   have hlv := lv_ok HHH.out hk6
   rw [← hS, ← hNN, ← hDD] at hlv
   rw [← htk] at ht1 ht2
   rw [← hwkk] at hv1 hv2
   have hSN : Mo.near N D = S := by rw [hS, hNN, hDD]; rfl
   have h23 := fun (T : Option Addr) (tc : Nat) (W : World) (HT : RdT W T 3 (tdl h)) => c23_at T tc h k W HHH.out hk6 HT
   rw [← hNN, ← hDD] at h23
   obtain ⟨p, hp⟩ : ∃ p : Nat, (p : Int) = 20 + tk + wk + S := ⟨(20 + tk + wk + S).toNat, by omega⟩
   have hp80 : p < 80 := by omega
   have hq0 := cell_at (blkb HT0.out hB1r) (i := 3 + k) (wgetX _ _ _ _ _ xs k (by omega))
   have H23 := Lib.hid h23
   have HV := Lib.hid (⟨ht1, ht2, hv1, hv2⟩ : _ ∧ _ ∧ _ ∧ _)
   have HLV := Lib.hid hlv
   have HSN := Lib.hid hSN
   have HP := Lib.hid (⟨hp, hp80⟩ : _ ∧ _)
   have HE := Lib.hid (⟨htk, hwkk, hS⟩ : _ ∧ _ ∧ _)
   have HQ := Lib.hid hq0
   have HX := Lib.hid hx
   have HB1R := Lib.hid hB1r
   have HK6 := Lib.hid hk6
   have HSZ := Lib.hid hszr
   obtain ⟨p10, hp10⟩ : ∃ p, p = wr.heap.size := ⟨_, rfl⟩
   obtain ⟨w3, hw3⟩ : ∃ W, W = wr.alloc (Obj.cells #[] 55) := ⟨_, rfl⟩
   have hown : w3.ownsRow p10 55 2 (.slice (some ⟨p10, 0, none⟩) 0 0) 0 (([] : List Td).flatMap Td.enc) := ⟨rfl, .inr ⟨p10, 0, #[], rfl, Nat.le_refl _, by rw [hw3, hp10]; exact heap_new rfl, Nat.le_refl _, by decide, rfl, rfl⟩⟩
   have hb3 : Below wr.heap.size wr w3 := by rw [hw3]; exact bl2 _ _
   have hz3 : w3.heap.size = p10 + 1 := by rw [hw3, hp10]; simp
   have htd3 : RdT w3 (some ⟨p8, 0, none⟩) 3 (tdl h) := (HTD.out.below hB1r).below hb3
   have HOWN := Lib.hid hown
   have HTD3 := Lib.hid htd3
   have HB3 := Lib.hid hb3
   have HZ3 := Lib.hid (⟨hz3, hp10⟩ : _ ∧ _)
   clear hlt0 hp89 hpz1 hB1r hszr ht1 ht2 hv1 hv2 hlv hSN h23 hp hp80 hq0 hx hk6 hS hNN hDD htk hwkk hown hb3 hz3 htd3 hp10
   have HW3 := Lib.hid hw3
   clear hw3
   go_wp2_with (at_builtin; rw [← HW3.out, ← HZ3.out.2]; refine wpList_plain rfl fun K hK => wp_appD _ _ rfl p10 _ 0 [] (tdl h) rfl HOWN.out (some ⟨p8, 0, none⟩) 3 3 rfl HTD3.out (by omega) (by have := HZ3.out.1; omega) (fun v' w4 g2 g3 => ?_); obtain ⟨A2, cap2, rfl, hr2, hc2, _⟩ := own_form g2; refine hK _ _ (stopq ?_))
   unfold StopQ
   have hb4 : Below wr.heap.size wr w4 := HB3.out.trans (by rw [← HZ3.out.2]; exact g3)
   have hr4 : RdT w4 A2 3 (tdl h) := by unfold RdT; simpa using hr2
   have HB4 := Lib.hid hb4
   have HR4 := Lib.hid hr4
   clear g2 g3 hr2 hc2 hb4 hr4
   have hlv := HLV.out
   have hk6 := HK6.out
   go_wp2_with fail
   refine (c14 A2 3 cap2 (tdl h) (20 * (k : Int)) N D w4 (by omega) (by omega) HR4.out (tdl_ok HHH.out) (by omega) (fun W hb => H23.out A2 cap2 W (HR4.out.below hb))).mono ?_
   rintro e w5 ⟨rfl, hb5⟩
   obtain ⟨p13, hp13⟩ : ∃ p, p = w5.heap.size := ⟨_, rfl⟩
   obtain ⟨w6, hw6⟩ : ∃ W, W = w5.alloc (Obj.cells #[.int .i64 N, .int .i64 D] 68) := ⟨_, rfl⟩
   have hT13 : w6.heap[p13]? = some (.cells #[.int .i64 N, .int .i64 D] 68 (0, 0)) := by rw [hw6, hp13]; exact heap_new rfl
   have hb6 : Below w5.heap.size w5 w6 := by rw [hw6]; exact bl2 _ _
   have hB6 : Below wr.heap.size wr w6 := (HB4.out.call hb5 rfl).call hb6 rfl
   have hT0 := blkb (blkb HT0.out HB1R.out) hB6
   have hqx := cell_at hT0 (i := 3 + k) (by rw [show 3 + k = 3 + k by omega]; exact wgetX _ _ _ _ _ xs k (by omega))
   obtain ⟨b0, hb0⟩ : ∃ b, b = w.heap.size := ⟨_, rfl⟩
   rw [← hb0] at hT0 hqx ⊢
   have qhN_0 := cell_at hT13 (i := 0) rfl
   have qhN_1 := cell_at hT13 (i := 1) rfl
   have l13 := cell_lt qhN_0
   have l0 := cell_lt hqx
   have HB0 := Lib.hid hb0
   have HT0r := Lib.hid hT0
   have HT13 := Lib.hid hT13
   have HB6 := Lib.hid hB6
   clear hb5 hb6 hT13 hB6 hT0 hb0
   have n1 : decide (D < 1) = false := by simp; omega
   have n2 : decide (100 < D) = false := by simp; omega
   have n3 : decide (1000 < N) = false := by simp; omega
   have n4 : decide (N < -1000) = false := by simp; omega
   go_wp2_with fail
   rw [← hw6]
   rw [← hp13]
   have HE1o := HE1.out
   have HE10o := HE10.out
   have hv := HV.out
   obtain ⟨ht1, ht2, hv1, hv2⟩ := hv
   have hwt : wrap64 tk = tk := wrap64_ok (by omega)
   have hww : wrap64 wk = wk := wrap64_ok (by omega)
   have hk6i : (k : Int) < 6 := by omega
   have hk0i : (0 : Int) ≤ (k : Int) := by omega
   clear hw6 hp13 n1 n2 n3 n4
   have hB6 := HB6.out
   have hT0 := HT0r.out
   have hT13 := HT13.out
   have qhT0_0 : w6.cell? ⟨b0, 0, none⟩ = some (.slice (some ⟨b, off, none⟩) n cap) := cell_at hT0 rfl
   have qhT0_1 : w6.cell? ⟨b0, 1, none⟩ = some (.int .u8 e0) := cell_at hT0 rfl
   have qhT0_2 : w6.cell? ⟨b0, 2, none⟩ = some (.int .u8 e1) := cell_at hT0 rfl
   have qhT0_3 : w6.cell? ⟨b0, 3, none⟩ = some (.int .i8 (xs 0)) := cell_at hT0 rfl
   have qhT0_4 : w6.cell? ⟨b0, 4, none⟩ = some (.int .i8 (xs 1)) := cell_at hT0 rfl
   have qhT0_5 : w6.cell? ⟨b0, 5, none⟩ = some (.int .i8 (xs 2)) := cell_at hT0 rfl
   have qhT0_6 : w6.cell? ⟨b0, 6, none⟩ = some (.int .i8 (xs 3)) := cell_at hT0 rfl
   have qhT0_7 : w6.cell? ⟨b0, 7, none⟩ = some (.int .i8 (xs 4)) := cell_at hT0 rfl
   have qhT0_8 : w6.cell? ⟨b0, 8, none⟩ = some (.int .i8 (xs 5)) := cell_at hT0 rfl
   have qhT0_9 : w6.cell? ⟨b0, 9, none⟩ = some (.int .i8 (xs 6)) := cell_at hT0 rfl
   have qhT0_10 : w6.cell? ⟨b0, 10, none⟩ = some (.int .i8 (xs 7)) := cell_at hT0 rfl
   have qhT0_11 : w6.cell? ⟨b0, 11, none⟩ = some (.int .i8 (xs 8)) := cell_at hT0 rfl
   have qhT0_12 : w6.cell? ⟨b0, 12, none⟩ = some (.int .i8 (xs 9)) := cell_at hT0 rfl
   have qhT0_13 : w6.cell? ⟨b0, 13, none⟩ = some (.int .i8 (xs 10)) := cell_at hT0 rfl
   have qhT0_14 : w6.cell? ⟨b0, 14, none⟩ = some (.int .i8 (xs 11)) := cell_at hT0 rfl
   have qhT0_15 : w6.cell? ⟨b0, 15, none⟩ = some (.int .i8 d0) := cell_at hT0 rfl
   have qhT0_16 : w6.cell? ⟨b0, 16, none⟩ = some (.int .i8 d1) := cell_at hT0 rfl
   have qhT13_0 : w6.cell? ⟨p13, 0, none⟩ = some (.int .i64 N) := cell_at hT13 rfl
   have qhT13_1 : w6.cell? ⟨p13, 1, none⟩ = some (.int .i64 D) := cell_at hT13 rfl
   refine wp_region_plan [(0, true), (1, true), (2, true), (3, true), (4, true), (5, true), (6, true), (7, true), (8, true), (9, true), (10, true), (11, true), (12, true), (13, true), (14, true), (15, true), (16, true), (17, true), (18, true), (19, false), (20, true), (21, true)] w6.heap.size (by kernel_rfl) (by kernel_rfl) (Nat.le_refl _) (fun _ _ d _ _ h => by cases d <;> exact h) ?_
   have hC : Below w6.heap.size w6 w6 := Below.refl _ _
   have zhT0 : b0 < w6.heap.size := (Array.getElem?_eq_some_iff.1 hT0).1
   have zhT13 : p13 < w6.heap.size := (Array.getElem?_eq_some_iff.1 hT13).1
   repeat (first | (refine wpPlanA_skip _ rfl (by rfl) ?_; simp only [Act.put, List.setIfInBounds_toArray, List.set_cons_zero, List.set_cons_succ]) | (refine wpPlanA_soft _ ?_ rfl (by rfl) ?_ ?_; rotate_left; (intro wq hq hcq; go_simp; first | exact rfl | exact ⟨rfl, rfl⟩); simp only [Act.put, List.setIfInBounds_toArray, List.set_cons_zero, List.set_cons_succ]))
   refine wpPlanA_hard _ rfl (by rfl) (fun w7 hS K hK => ?_)
   have hB7 := hB6.call hS rfl
   replace hC := hC.call hS rfl
   replace hT0 := blkb hT0 hS
   replace hT13 := blkb hT13 hS
   clear hS hB6
   go_simp
   refine (c15 N D _ (by have := HLV.out; omega) (by have := HLV.out; omega)).mono ?_
   rintro e w' ⟨rfl, rfl⟩
   refine hK _ _ hC ?_
   clear hK K
   try simp only [Act.put, List.setIfInBounds_toArray, List.set_cons_zero, List.set_cons_succ]
   rw [HSN.out]
   repeat (first | (refine wpPlanA_skip _ rfl (by rfl) ?_; simp only [Act.put, List.setIfInBounds_toArray, List.set_cons_zero, List.set_cons_succ]) | (refine wpPlanA_soft _ ?_ rfl (by rfl) ?_ ?_; rotate_left; (intro wq hq hcq; go_simp; first | exact rfl | exact ⟨rfl, rfl⟩); simp only [Act.put, List.setIfInBounds_toArray, List.set_cons_zero, List.set_cons_succ]))
   clear qhT0_0 qhT0_1 qhT0_2 qhT0_3 qhT0_4 qhT0_5 qhT0_6 qhT0_7 qhT0_8 qhT0_9 qhT0_10 qhT0_11 qhT0_12 qhT0_13 qhT0_14 qhT0_15 qhT0_16 qhT13_0 qhT13_1
   refine wpPlanA_nil (fun w8 hS => ?_)
   clear hC zhT0 zhT13
   have hB8 := hB7.call hS rfl
   replace hT0 := blkb hT0 hS
   replace hT13 := blkb hT13 hS
   clear hS hB7
   have qhT0_0 : w8.cell? ⟨b0, 0, none⟩ = some (.slice (some ⟨b, off, none⟩) n cap) := cell_at hT0 rfl
   have qhT0_1 : w8.cell? ⟨b0, 1, none⟩ = some (.int .u8 e0) := cell_at hT0 rfl
   have qhT0_2 : w8.cell? ⟨b0, 2, none⟩ = some (.int .u8 e1) := cell_at hT0 rfl
   have qhT0_3 : w8.cell? ⟨b0, 3, none⟩ = some (.int .i8 (xs 0)) := cell_at hT0 rfl
   have qhT0_4 : w8.cell? ⟨b0, 4, none⟩ = some (.int .i8 (xs 1)) := cell_at hT0 rfl
   have qhT0_5 : w8.cell? ⟨b0, 5, none⟩ = some (.int .i8 (xs 2)) := cell_at hT0 rfl
   have qhT0_6 : w8.cell? ⟨b0, 6, none⟩ = some (.int .i8 (xs 3)) := cell_at hT0 rfl
   have qhT0_7 : w8.cell? ⟨b0, 7, none⟩ = some (.int .i8 (xs 4)) := cell_at hT0 rfl
   have qhT0_8 : w8.cell? ⟨b0, 8, none⟩ = some (.int .i8 (xs 5)) := cell_at hT0 rfl
   have qhT0_9 : w8.cell? ⟨b0, 9, none⟩ = some (.int .i8 (xs 6)) := cell_at hT0 rfl
   have qhT0_10 : w8.cell? ⟨b0, 10, none⟩ = some (.int .i8 (xs 7)) := cell_at hT0 rfl
   have qhT0_11 : w8.cell? ⟨b0, 11, none⟩ = some (.int .i8 (xs 8)) := cell_at hT0 rfl
   have qhT0_12 : w8.cell? ⟨b0, 12, none⟩ = some (.int .i8 (xs 9)) := cell_at hT0 rfl
   have qhT0_13 : w8.cell? ⟨b0, 13, none⟩ = some (.int .i8 (xs 10)) := cell_at hT0 rfl
   have qhT0_14 : w8.cell? ⟨b0, 14, none⟩ = some (.int .i8 (xs 11)) := cell_at hT0 rfl
   have qhT0_15 : w8.cell? ⟨b0, 15, none⟩ = some (.int .i8 d0) := cell_at hT0 rfl
   have qhT0_16 : w8.cell? ⟨b0, 16, none⟩ = some (.int .i8 d1) := cell_at hT0 rfl
   have qhT13_0 : w8.cell? ⟨p13, 0, none⟩ = some (.int .i64 N) := cell_at hT13 rfl
   have qhT13_1 : w8.cell? ⟨p13, 1, none⟩ = some (.int .i64 D) := cell_at hT13 rfl
   have eP : IntKind.i64.wrap (IntKind.i64.wrap (IntKind.i64.wrap (20 + (IntKind.i64.wrap x).tmod 40) + (IntKind.i64.wrap (xs k)).tmod M) + S) = (p : Int) := by
    have a1 : (IntKind.i64.wrap x).tmod 40 = tk := by rw [IntWalk.i64_left]; exact ht1
    have a2 : (IntKind.i64.wrap (xs k)).tmod M = wk := by rw [IntWalk.i64_left]; exact hv1
    rw [a1, a2, wrapI (x := 20 + tk) (by omega), wrapI (x := 20 + tk + wk) (by omega), wrapI (x := 20 + tk + wk + S) (by omega), HP.out.1]
   rw [eP]
   clear eP
   obtain ⟨i0, hi, hz0, hz1, hz2⟩ := info_parts info44
   obtain ⟨g, hg⟩ : ∃ g, g = w8.heap.size := ⟨_, rfl⟩
   obtain ⟨F, hF⟩ : ∃ F : Nat → Value, F = fun _ => .float .f32 0 := ⟨_, rfl⟩
   obtain ⟨wm, hw7⟩ : ∃ W, W = w8.alloc (.cells (fillA (.float .f32 0) F 80 0) 44) := ⟨_, rfl⟩
   have hmk : (Instr.makeSlice 45 (.int .i64 80) (.int .i64 80)).run Tryd.prog w8 = .ok (.slice (some ⟨g, 0, none⟩) 80 80) wm := by
    rw [hg, hw7]
    exact run_make_fill (P := Tryd.prog) 45 44 i0 (.float .f32 0) F Tryd.underlying45 hi hz0 hz1 rfl 80 (by omega) (by rw [hz2]; omega) w8
   have hs7 : wm.heap[g]? = some (.cells (fillA (.float .f32 0) F 80 0) 44 (0, 0)) := by rw [hw7]; exact heap_new hg
   have hb7 : Below w8.heap.size w8 wm := by rw [hw7]; exact bl2 _ _
   obtain ⟨hp, hp80⟩ := HP.out
   obtain ⟨ws, hw8⟩ : ∃ W, W = wm.setCell ⟨g, p, none⟩ (.float .f32 1065353216) := ⟨_, rfl⟩
   have hs8 : ws.heap[g]? = some (.cells (encF (spk p)).toArray 44 (0, 0)) := by rw [hw8]; exact spk_block F hs7 hp80
   have hz8 : ws.heap.size = wm.heap.size := by rw [hw8]; simp
   have hb8 : Below w8.heap.size w8 ws := by rw [hw8]; exact hb7.setCell (p := ⟨g, p, none⟩) (by show _ ≤ g; omega) _
   have hbr8 : Below wr.heap.size wr ws := hB8.call hb8 rfl
   have hsz8 : wm.heap.size = g + 1 := by rw [hw7, hg]; simp
   have hszr := HSZ.out
   have hgr : wr.heap.size ≤ g := by rw [hg]; exact hB8.size
   have qc : wm.cell? ⟨g, p, none⟩ = some (.float .f32 0) := cell_at hs7 (by rw [fillA_get _ _ _ _ _ hp80, if_neg (Nat.not_lt_zero _)])
   have qf : wm.frozen? ⟨g, p, none⟩ = false := free_at hs7
   have ql := cell_lt qc
   obtain ⟨y, hy⟩ : ∃ y : Tc, y = ⟨20 * (k : Int), some ⟨g, 0, none⟩, 80, spk p⟩ := ⟨_, rfl⟩
   have hye : y.enc = [.int .i64 0, .int .i64 0, .int .i64 0, .int .i64 0, .int .i64 (20 * (k : Int)), .int .i64 0, .int .i64 0, .int .i64 0, .bool false, .slice (some ⟨g, 0, none⟩) 80 80] := by rw [hy]; unfold Tc.enc; simp only; rw [spk_len]
   have how : OwF (p9 + 1) ws y := by
    rw [hy]
    unfold OwF
    simp only
    rw [spk_len]
    exact ⟨rfl, .inr ⟨g, 80, (encF (spk p)).toArray, rfl, by omega, hs8, Nat.le_refl _, by decide, by simp [encF, spk_len], by simp [encF, spk_len, List.take_of_length_le]⟩⟩
   have k98 : ws.heap[p9]? = some (.cells #[.string { data := #[115] }, .slice V k vc] 51 (0, 0)) := blkb K9.out hbr8
   have k970 := cell_at k98 (i := 0) rfl
   have k971 := cell_at k98 (i := 1) rfl
   have l9 := cell_lt k970
   have row8 : ws.ownsRow (p9 + 1) 48 10 (.slice V k vc) k (l'.flatMap Tc.enc) := own_below HROW.out hbr8
   have trk8 : trk l' (p9 + 1) (fun i => 20 + tm i + wv i + lvS h (20 * (i : Int))) ws := HTRK.out.2.imp (fun z hz => hz.below hbr8)
   have b89 : Below ws.heap.size ws (ws.alloc (Obj.cells #[.int .i64 0, .int .i64 0, .int .i64 0, .int .i64 0, .int .i64 (20 * (k : Int)), .int .i64 0, .int .i64 0, .int .i64 0, .bool false, .slice (some ⟨g, 0, none⟩) 80 80] 48)) := bl2 _ _
   have hrd : RdC (ws.alloc (Obj.cells #[.int .i64 0, .int .i64 0, .int .i64 0, .int .i64 0, .int .i64 (20 * (k : Int)), .int .i64 0, .int .i64 0, .int .i64 0, .bool false, .slice (some ⟨g, 0, none⟩) 80 80] 48)) (some ⟨ws.heap.size, 0, none⟩) 1 [y] := by
    unfold RdC
    rw [List.flatMap_cons, List.flatMap_nil, List.append_nil, hye]
    exact RdS.of_new (cs := [.int .i64 0, .int .i64 0, .int .i64 0, .int .i64 0, .int .i64 (20 * (k : Int)), .int .i64 0, .int .i64 0, .int .i64 0, .bool false, .slice (some ⟨g, 0, none⟩) 80 80]) rfl rfl
   have hrow9 := own_below row8 b89
   have hsz9 : p9 + 1 ≤ (ws.alloc (Obj.cells #[.int .i64 0, .int .i64 0, .int .i64 0, .int .i64 0, .int .i64 (20 * (k : Int)), .int .i64 0, .int .i64 0, .int .i64 0, .bool false, .slice (some ⟨g, 0, none⟩) 80 80] 48)).heap.size := by have := b89.size; omega
   have hst : (store ⟨g, p, none⟩ (.float .f32 1065353216)).run Tryd.prog wm = .ok () ws := by rw [run_store _ _ _ _ _ rfl, qc, hw8]; simp [qf]
   have hp80i : (p : Int) < 80 := by omega
   have n5 : decide ((p : Int) < 0) = false := by simp
   have n6 : decide ((80 : Int) ≤ (p : Int)) = false := by simp; omega
   have n7 : decide (80 ≤ p) = false := by simp; omega
   have HRW9 := Lib.hid hrow9
   have HRD9 := Lib.hid hrd
   have HSZ9 := Lib.hid hsz9
   have HK98 := Lib.hid k98
   have HBR8 := Lib.hid hbr8
   have HB89 := Lib.hid b89
   have HTRK8 := Lib.hid trk8
   have HY := Lib.hid (⟨hy, hp, how⟩ : y = ⟨20 * (k : Int), some ⟨g, 0, none⟩, 80, spk p⟩ ∧ (p : Int) = 20 + tk + wk + S ∧ OwF (p9 + 1) ws y)
   have HROW8 := Lib.hid row8
   clear hi hz0 hz1 hz2 hg hF hw7 hs7 hb7 hw8 hs8 hz8 hb8 hbr8 hsz8 hszr hgr hye how k98 row8 trk8 b89 hrd hrow9 hsz9 hT0 hT13 qhT13_0 qhT13_1 hB8 hp
   clear qhT0_0 qhT0_1 qhT0_2 qhT0_3 qhT0_4 qhT0_5 qhT0_6 qhT0_7 qhT0_8 qhT0_9 qhT0_10 qhT0_11 qhT0_12 qhT0_13 qhT0_14 qhT0_15 qhT0_16
   clear HT13 HT0r HB6 HB4 HR4 H23 HOWN HTD3 HB3 ht2 hv2 hlv hqx hwt hww hk0i
   have hlim := HN.out
   go_wp2_with (at_builtin; refine wpList_plain rfl fun K hK => wp_appC _ _ rfl (p9 + 1) (.slice V k vc) k l' [y] rfl HRW9.out (some ⟨ws.heap.size, 0, none⟩) 1 1 rfl HRD9.out (by omega) HSZ9.out (fun v' w4 g2 g3 => ?_); refine hK _ _ (stopq ?_))
   unfold StopQ
   obtain ⟨V', vc', rfl⟩ := own_slice g2
   have hsz9 := HSZ9.out
   have hszr := HSZ.out
   have nown : ∀ b, b < p9 + 1 → some b ≠ (Value.slice V k vc).ownBlock := fun b hb e => by have := (HROW8.out.lt b e.symm).1; omega
   have k94 : w4.heap[p9]? = some (.cells #[.string { data := #[115] }, .slice V k vc] 51 (0, 0)) := (g3.block p9 (by omega) (nown p9 (by omega))).trans (blkb HK98.out HB89.out)
   have trk4 : trk (l' ++ [y]) (p9 + 1) (fun i => 20 + tm i + wv i + lvS h (20 * (i : Int))) w4 := (trk.push HTRK8.out (by rw [HY.out.1, HTRK.out.1]) (by rw [HY.out.1, HTRK.out.1, HY.out.2.1, HE.out.1, HE.out.2.1, HE.out.2.2]) HY.out.2.2).imp (fun z hz => (hz.below HB89.out).app HRW9.out g3)
   have br4 : Below p9 w1 w4 := ((HBR.out.trans (HBR8.out.mono (by omega))).trans (HB89.out.mono (by have := HBR8.out.size; omega))).grown g3 (by omega) (fun j hj => by have := (HROW8.out.lt j hj).1; omega)
   have q1 := cell_at k94 (i := 1) rfl
   have f1 := free_at k94 (i := 1)
   have l1 := cell_lt q1
   have k95 : Hid ((w4.setCell ⟨p9, 1, none⟩ (.slice V' (k + 1) vc')).heap[p9]? = some (.cells #[.string { data := #[115] }, .slice V' (k + 1) vc'] 51 (0, 0))) := Lib.hid (set_blk (i := 1) k94 _)
   have row5 : Hid ((w4.setCell ⟨p9, 1, none⟩ (.slice V' (k + 1) vc')).ownsRow (p9 + 1) 48 10 (.slice V' (k + 1) vc') (k + 1) ((l' ++ [y]).flatMap Tc.enc)) := Lib.hid (own_setfar (p := ⟨p9, 1, none⟩) g2 (by show p9 < p9 + 1; omega))
   have trk5 : Hid ((l' ++ [y]).length = k + 1 ∧ trk (l' ++ [y]) (p9 + 1) (fun i => 20 + tm i + wv i + lvS h (20 * (i : Int))) (w4.setCell ⟨p9, 1, none⟩ (.slice V' (k + 1) vc'))) := Lib.hid ⟨by rw [List.length_append, HTRK.out.1]; rfl, trk4.imp (fun z hz => hz.setT k94 (by decide))⟩
   have br5 : Hid (Below p9 w1 (w4.setCell ⟨p9, 1, none⟩ (.slice V' (k + 1) vc'))) := Lib.hid (br4.setCell (p := ⟨p9, 1, none⟩) (Nat.le_refl _) _)
   clear g2 g3 nown k94 trk4 br4 hsz9 hszr k970 k971 l9 hst qc qf ql
   rw [HB0.out]
   cases V'
   ·go_wp2
    go_roundw
    case rel => exact ⟨k + 1, _, _, _, by omega, by go_num, k95, row5, trk5, br5⟩
    case measure => simp [intOf]; omega
   ·go_wp2
    go_roundw
    case rel => exact ⟨k + 1, _, _, _, by omega, by go_num, k95, row5, trk5, br5⟩
    case measure => simp [intOf]; omega
  ·obtain rfl : n = k := by omega
   obtain ⟨hlt0, hp89, hpz1⟩ := HZ.out
   have hB1r : Below w1.heap.size w1 wr := by rw [hpz1]; exact HBR.out
   obtain ⟨b0, hb0⟩ : ∃ b, b = w.heap.size := ⟨_, rfl⟩
   have hT0 : wr.heap[b0]? = some (.cells #[.slice A n cap, .int .u8 e0, .int .u8 e1, .int .i8 (xs 0), .int .i8 (xs 1), .int .i8 (xs 2), .int .i8 (xs 3), .int .i8 (xs 4), .int .i8 (xs 5), .int .i8 (xs 6), .int .i8 (xs 7), .int .i8 (xs 8), .int .i8 (xs 9), .int .i8 (xs 10), .int .i8 (xs 11), .int .i8 d0, .int .i8 d1] 29 (0, 0)) := by rw [hb0]; exact blkb HT0.out hB1r
   have hT9 := K9.out
   have hTD := HTD.out.below hB1r
   have hRG := HRG.out.below hB1r
   have hTR := HTRK.out.2
   obtain ⟨_, _, he9, hRC, _⟩ := own_form HROW.out
   cases he9
   replace hRC : RdC wr V n l' := hRC
   have hB20 : Below w.heap.size w wr := HB1.out.call hB1r rfl
   have K10 := Lib.hid (fun (W : World) (X : Option Addr) (xc : Nat) (h1 : Rng W) (h2 : RdC W V n l') (h3 : trk l' (p9 + 1) (fun i => 20 + tm i + wv i + lvS h (20 * (i : Int))) W) (h4 : RdT W X 3 (tdl h)) => k10 V n vc l' h _ _ W HN.out HHH.out h1 h2 h3 X xc h4)
   rw [← hb0]
   have HB0 := Lib.hid hb0
   clear hlt0 hp89 hpz1 hB1r hb0 hlt hwk
   go_wp2_with fail
   have qhT0_0 : wr.cell? ⟨b0, 0, none⟩ = some (.slice A n cap) := cell_at hT0 rfl
   have qhT9_0 : wr.cell? ⟨p9, 0, none⟩ = some (.string { data := #[115] }) := cell_at hT9 rfl
   have qhT9_1 : wr.cell? ⟨p9, 1, none⟩ = some (.slice V n vc) := cell_at hT9 rfl
   refine wp_region_planF (Φ := Fresh wr.heap.size #[.string { data := #[] }, .slice none 0 0] 51) [(0, 1), (2, 1), (1, 0), (3, 0), (4, 0), (5, 1), (6, 1), (7, 1), (8, 2), (9, 3), (10, 1)] 8 wr.heap.size _ rfl (by kernel_rfl) (by kernel_rfl) (Nat.le_refl _) (fun _ _ d _ _ h => by cases d <;> exact h) (fun _ _ d _ _ h => by cases d <;> exact h) (fun v w w' hv hb => hv.below hb) ?hF ?_
   case hF =>
    intro a wq hq
    refine ⟨rfl, ?_⟩
    have hsz := hq.size
    go_simp
    exact ⟨_, rfl, ⟨_, rfl, hsz, heap_new rfl⟩, (Below.refl _ _).alloc (Nat.le_refl _) _⟩
   have hC : Below wr.heap.size wr wr := Below.refl _ _
   have hBr := hB20
   have zhT0 : b0 < wr.heap.size := (Array.getElem?_eq_some_iff.1 hT0).1
   have zhT9 : p9 < wr.heap.size := (Array.getElem?_eq_some_iff.1 hT9).1
   have hT00 := hT0
   have hT90 := hT9
   have hTD0 := hTD
   have hRG0 := hRG
   have hRC0 := hRC
   have hTR0 := hTR
   repeat (first | (refine wpPlanFA_skip _ rfl (by rfl) ?_; simp only [Act.put, List.setIfInBounds_toArray, List.set_cons_zero, List.set_cons_succ]) | (refine wpPlanFA_soft _ ?_ rfl (by rfl) ?_ ?_; rotate_left; (intro wq hq hcq; go_simp; first | exact rfl | exact ⟨rfl, rfl⟩); simp only [Act.put, List.setIfInBounds_toArray, List.set_cons_zero, List.set_cons_succ]))
   refine wpPlanFA_hard _ rfl (by rfl) (fun w21 hS K hK => ?_)
   have hB21 := hB20.call hS rfl
   replace hC := hC.call hS rfl
   replace hT0 := blkb hT0 hS
   replace hT9 := blkb hT9 hS
   replace hTD := hTD.below hS
   replace hRG := hRG.below hS
   replace hRC := hRC.below hS
   replace hTR := hTR.below hS
   clear hS hB20
   go_simp
   have hb := bl2 w21 (Obj.cells #[] 55)
   refine hK _ _ (hC.call hb rfl) hb ?_
   clear hK K
   generalize hWn : w21.alloc (Obj.cells #[] 55) = w22 at hb ⊢
   clear hWn
   obtain ⟨bN7, hbn⟩ : ∃ b, b = w21.heap.size := ⟨_, rfl⟩
   rw [← hbn]
   clear hbn
   have hB22 := hB21.call hb rfl
   replace hC := hC.call hb rfl
   replace hT0 := blkb hT0 hb
   replace hT9 := blkb hT9 hb
   replace hTD := hTD.below hb
   replace hRG := hRG.below hb
   replace hRC := hRC.below hb
   replace hTR := hTR.below hb
   clear hb hB21
   try simp only [Act.put, List.setIfInBounds_toArray, List.set_cons_zero, List.set_cons_succ]
   refine wpPlanFA_hard _ rfl (by rfl) (fun w23 hS K hK => ?_)
   have hB23 := hB22.call hS rfl
   replace hC := hC.call hS rfl
   replace hT0 := blkb hT0 hS
   replace hT9 := blkb hT9 hS
   replace hTD := hTD.below hS
   replace hRG := hRG.below hS
   replace hRC := hRC.below hS
   replace hTR := hTR.below hS
   clear hS hB22
   refine wp_copyD _ _ rfl bN7 rfl ⟨p8, 0, none⟩ 3 3 rfl (tdl h) hTD (by omega) ?_
   intro X9 xc9 w24 hX9 hb
   have hB24 := hB23.call hb rfl
   replace hC := hC.call hb rfl
   replace hT0 := blkb hT0 hb
   replace hT9 := blkb hT9 hb
   replace hTD := hTD.below hb
   replace hRG := hRG.below hb
   replace hRC := hRC.below hb
   replace hTR := hTR.below hb
   refine hK _ _ hC hb ?_
   clear hK K hb hB23
   try simp only [Act.put, List.setIfInBounds_toArray, List.set_cons_zero, List.set_cons_succ]
   repeat (first | (refine wpPlanFA_skip _ rfl (by rfl) ?_; simp only [Act.put, List.setIfInBounds_toArray, List.set_cons_zero, List.set_cons_succ]) | (refine wpPlanFA_soft _ ?_ rfl (by rfl) ?_ ?_; rotate_left; (intro wq hq hcq; go_simp; first | exact rfl | exact ⟨rfl, rfl⟩); simp only [Act.put, List.setIfInBounds_toArray, List.set_cons_zero, List.set_cons_succ]))
   refine wpPlanFA_hard _ rfl (by rfl) (fun w25 hS K hK => ?_)
   have hB25 := hB24.call hS rfl
   replace hC := hC.call hS rfl
   replace hT0 := blkb hT0 hS
   replace hT9 := blkb hT9 hS
   replace hTD := hTD.below hS
   replace hRG := hRG.below hS
   replace hRC := hRC.below hS
   replace hTR := hTR.below hS
   replace hX9 := hX9.below hS
   clear hS hB24
   go_simp
   refine (K10.out _ _ _ hRG hRC hTR hX9).mono ?_
   rintro e w26 ⟨A9, c9, l9, rfl, hl9, hRW, hPC, hb⟩
   replace hRW : OwR wr.heap.size A9 n c9 l9 w26 := own_low hRW hC.size
   replace hPC : pco wr.heap.size l9 (fun k => shiftF (spk (20 + tm k + wv k + lvS h (20 * (k : Int)))) (lvS h (20 * (k : Int)))) w26 := hPC.low hC.size
   have HL9 := Lib.hid hl9
   clear hl9
   have hB26 := hB25.call hb rfl
   replace hC := hC.call hb rfl
   replace hT0 := blkb hT0 hb
   replace hT9 := blkb hT9 hb
   replace hTD := hTD.below hb
   replace hRG := hRG.below hb
   replace hRC := hRC.below hb
   replace hTR := hTR.below hb
   replace hX9 := hX9.below hb
   refine hK _ _ hC hb ?_
   clear hK K hb hB25
   try simp only [Act.put, List.setIfInBounds_toArray, List.set_cons_zero, List.set_cons_succ]
   repeat (first | (refine wpPlanFA_skip _ rfl (by rfl) ?_; simp only [Act.put, List.setIfInBounds_toArray, List.set_cons_zero, List.set_cons_succ]) | (refine wpPlanFA_soft _ ?_ rfl (by rfl) ?_ ?_; rotate_left; (intro wq hq hcq; go_simp; first | exact rfl | exact ⟨rfl, rfl⟩); simp only [Act.put, List.setIfInBounds_toArray, List.set_cons_zero, List.set_cons_succ]))
   refine wpPlanFA_float _ rfl (fun v w27 hS hv => ?_)
   obtain ⟨bhQ7, rfl, hge, hQ7⟩ := hv
   have hB27 := hB26.call hS rfl
   replace hC := hC.call hS rfl
   replace hT0 := blkb hT0 hS
   replace hT9 := blkb hT9 hS
   replace hTD := hTD.below hS
   replace hRG := hRG.below hS
   replace hRC := hRC.below hS
   replace hTR := hTR.below hS
   replace hX9 := hX9.below hS
   replace hRW := hRW.below hS
   replace hPC := hPC.below hS
   clear hS hB26
   try simp only [Act.put, List.setIfInBounds_toArray, List.set_cons_zero, List.set_cons_succ]
   refine wpPlanFA_late _ rfl (by rfl) (fun w28 hS K hK => ?_)
   replace hC := hC.call hS rfl
   replace hQ7 := blkb hQ7 hS
   replace hRW := hRW.below hS
   replace hPC := hPC.below hS
   clear hS hB27 hT0 hT9 hTD hRG hRC hTR hX9
   refine wp_store_blk 51 _ _ rfl bhQ7 _ rfl rfl hQ7 ?s1 ?s2 ?s3 ?_
   case s1 => rfl
   case s2 => kernel_rfl
   case s3 => simp [Value.oneCell']
   intro w29 hQ7n hg3 hs3
   replace hC : Below wr.heap.size wr w29 := hC.grown hg3 hC.size (fun j hj => by cases hj; exact hge)
   refine hK _ _ hC ?_
   clear hK K
   replace hPC : pco wr.heap.size l9 (fun k => shiftF (spk (20 + tm k + wv k + lvS h (20 * (k : Int)))) (lvS h (20 * (k : Int)))) w29 := hPC.imp (fun y hy => row_keptT hy hQ7 (by decide) hg3)
   replace hRW : OwR wr.heap.size A9 n c9 l9 w29 := row_keptT hRW hQ7 (by decide) hg3
   clear hg3 hs3 hQ7
   have hQ7 := hQ7n
   clear hQ7n
   have hB29 := hBr.call hC rfl
   have hT0 := blkb hT00 hC
   have hT9 := blkb hT90 hC
   have hTD := hTD0.below hC
   have hRG := hRG0.below hC
   have hRC := hRC0.below hC
   have hTR := hTR0.below hC
   try simp only [Act.put, List.setIfInBounds_toArray, List.set_cons_zero, List.set_cons_succ]
   repeat (first | (refine wpPlanFA_skip _ rfl (by rfl) ?_; simp only [Act.put, List.setIfInBounds_toArray, List.set_cons_zero, List.set_cons_succ]) | (refine wpPlanFA_soft _ ?_ rfl (by rfl) ?_ ?_; rotate_left; (intro wq hq hcq; go_simp; first | exact rfl | exact ⟨rfl, rfl⟩); simp only [Act.put, List.setIfInBounds_toArray, List.set_cons_zero, List.set_cons_succ]))
   clear qhT0_0 qhT9_0 qhT9_1
   refine wpPlanFA_nil (fun w30 hS => ?_)
   clear hC hge hBr zhT0 zhT9 hT00 hT90 hTD0 hRG0 hRC0 hTR0
   have hB30 := hB29.call hS rfl
   replace hT0 := blkb hT0 hS
   replace hT9 := blkb hT9 hS
   replace hTD := hTD.below hS
   replace hRG := hRG.below hS
   replace hRC := hRC.below hS
   replace hTR := hTR.below hS
   replace hQ7 := blkb hQ7 hS
   replace hRW := hRW.below hS
   replace hPC := hPC.below hS
   clear hS hB29
   have qhT0_0 : w30.cell? ⟨b0, 0, none⟩ = some (.slice A n cap) := cell_at hT0 rfl
   have qhT9_0 : w30.cell? ⟨p9, 0, none⟩ = some (.string { data := #[115] }) := cell_at hT9 rfl
   have qhT9_1 : w30.cell? ⟨p9, 1, none⟩ = some (.slice V n vc) := cell_at hT9 rfl
   have hRD := hRW.rd
   have q0 := cell_at hQ7 (i := 0) rfl
   have q1 := cell_at hQ7 (i := 1) rfl
   have lq := cell_lt q0
   have HRD := Lib.hid hRD
   have HPC := Lib.hid hPC
   have HB30 := Lib.hid hB30
   clear hRD hPC hRW hB30 hT0 hT9 hTD hRG hRC hTR hQ7 K10 HB0 qhT9_0 qhT9_1
   go_wp2_with fail
   clear q0 q1 lq qhT0_0
   go_loopw [19, 149] (fun x iv wr => ∃ k : Nat, k ≤ n ∧ iv = .int .i64 k ∧ Hid (wr.ownsRow w30.heap.size 60 2 x k ((pk6 k tm wv).flatMap Td.enc)) ∧ Hid (Below w30.heap.size w30 wr)) (fun _ iv _ => n - (intOf iv).toNat)
   case atStart => exact ⟨0, Nat.zero_le _, rfl, Lib.hid (World.ownsRow_nil _ _ _ _), Lib.hid (Below.refl _ _)⟩
   case round =>
    obtain ⟨k, hk, rfl, HROW2, HBR2⟩ := hrel
    have hwk : IntKind.i64.wrap ((k : Int) + 1) = ((k + 1 : Nat) : Int) := by rw [wrapI (by have := HN.out; omega)]; simp
    by_cases hlt : k < n
    ·have hk6 : k < 6 := by have := HN.out; omega
     have hlti : (k : Int) < (n : Int) := by omega
     have hk2 : IntKind.i64.wrap (2 * (k : Int)) = 2 * (k : Int) := wrapI (by omega)
     obtain ⟨bb, oo, tx, hAe2, htx, hb2, hc2⟩ := enc_at (enc := Value.int .u8) HH.out hlt
     clear hAe2 hb2 hc2
     obtain ⟨_, ht2⟩ := HTS.out k tx htx
     obtain ⟨_, hv2⟩ := HWS.out k hk6
     have hlv := lv_ok HHH.out hk6
     obtain ⟨x, hx⟩ : ∃ x, l9[k]? = some x := ⟨l9[k]'(by rw [HL9.out]; exact hlt), List.getElem?_eq_getElem _⟩
     obtain ⟨b, off, hAe, hb, h0, h1, h2, h3, h4, h5, h6, h7, h8, h9⟩ := (HRD.out.below HBR2.out).at hx
     subst hAe
     obtain ⟨hfs, how⟩ := HPC.out k x hx
     obtain ⟨fs, hfs2⟩ : ∃ f, f = x.fs := ⟨_, rfl⟩
     rw [← hfs2] at hfs
     simp only at hfs
     have hln : fs.length = 80 := by rw [hfs, shiftF_len, spk_len]
     have hor : ∀ v ∈ fs, v = 0 ∨ v = 1065353216 := by rw [hfs]; exact shiftF_or _ _
     obtain ⟨q, hq⟩ : ∃ q : Nat, (q : Int) = 20 + tm k + wv k := ⟨(20 + tm k + wv k).toNat, by omega⟩
     have hsp := shift_spk (p := 20 + tm k + wv k + lvS h (20 * (k : Int))) (s := lvS h (20 * (k : Int))) (q := q) (by omega) (by omega) (by omega)
     rw [← hfs] at hsp
     have hrd0 : RdS wr 1 x.A 80 (encF fs) := by
      have := RdS.below how.rd HBR2.out
      rw [← hfs2, hln] at this
      exact this
     obtain ⟨b', off', hxA, hb', _⟩ := RdS.at hrd0 (k := 0) (by omega)
     obtain ⟨d, hd⟩ : ∃ d, d = x.off := ⟨_, rfl⟩
     obtain ⟨xc, hxc⟩ : ∃ d, d = x.cap := ⟨_, rfl⟩
     rw [hxA] at hrd0
     rw [← hfs2, hln, hxA, ← hxc] at h9
     rw [← hd] at h4
     obtain ⟨wa, hwa⟩ : ∃ W, W = wr.alloc (Obj.cells #[.int .i64 0, .int .i64 0, .int .i64 0, .int .i64 0, .int .i64 d, .int .i64 0, .int .i64 0, .int .i64 0, .bool false, .slice (some ⟨b', off', none⟩) 80 xc] 48) := ⟨_, rfl⟩
     obtain ⟨wb, hwb⟩ : ∃ W, W = wa.alloc (Obj.cells #[] 44) := ⟨_, rfl⟩
     obtain ⟨b8, hb8⟩ : ∃ b, b = wr.heap.size := ⟨_, rfl⟩
     obtain ⟨b9, hb9⟩ : ∃ b, b = wr.heap.size + 1 := ⟨_, rfl⟩
     have hBa : Below wr.heap.size wr wa := by rw [hwa]; exact bl2 _ _
     have hBb : Below wa.heap.size wa wb := by rw [hwb]; exact bl2 _ _
     have HRDB := Lib.hid (RdS.below (RdS.below hrd0 hBa) hBb)
     have HBB := Lib.hid (hBa.call hBb rfl)
     have HWA := Lib.hid hwa
     have HWB := Lib.hid hwb
     have HB8 := Lib.hid hb8
     have HB9 := Lib.hid hb9
     have HLN := Lib.hid hln
     have HOR := Lib.hid hor
     have HSP := Lib.hid hsp
     have HQ := Lib.hid hq
     clear ht2 hv2 hlv hx hfs how hfs2 hln hor hq hsp hrd0 hxA hd hxc hwa hwb hb8 hb9 hBa hBb htx
     go_wp2_with (at_builtin; rw [← HB9.out, ← HB8.out, ← HWA.out, ← HWB.out]; refine wpList_plain rfl fun K hK => wp_copyF _ _ rfl b9 rfl ⟨b', off', none⟩ 80 xc rfl fs HRDB.out (by omega) (fun X xc2 w4 hX hb4 => ?_); refine hK _ _ (stopq ?_))
     unfold StopQ
     have HB4 := Lib.hid (HBB.out.call hb4 rfl)
     have HX := Lib.hid hX
     clear hb4 hX h0 h1 h2 h3 h4 h5 h6 h7 h8 h9 hb hb'
     go_wp2_with fail
     refine (c11 X 80 xc2 fs q w4 (by omega) HLN.out HX.out HOR.out HSP.out.1 HSP.out.2).mono ?_
     rintro e w5 ⟨rfl, hb5⟩
     obtain ⟨w6, hw6⟩ : ∃ W, W = w5.alloc (Obj.cells #[.int .i64 (2 * (k : Int)), .int .i64 (q : Int)] 60) := ⟨_, rfl⟩
     have hb6 : Below w5.heap.size w5 w6 := by rw [hw6]; exact bl2 _ _
     have hbr6 : Below wr.heap.size wr w6 := (HB4.out.call hb5 rfl).call hb6 rfl
     have hrd6 : RdT w6 (some ⟨w5.heap.size, 0, none⟩) 1 [⟨2 * (k : Int), (q : Int)⟩] := by rw [hw6]; unfold RdT; exact RdS.of_new rfl rfl
     have hsz6 : w30.heap.size ≤ w6.heap.size := Nat.le_trans HBR2.out.size hbr6.size
     have HOWN6 := Lib.hid (own_below HROW2.out hbr6)
     have HRD6 := Lib.hid hrd6
     have HSZ6 := Lib.hid hsz6
     have HW6 := Lib.hid hw6
     have HBR6 := Lib.hid (HBR2.out.call hbr6 rfl)
     clear hb5 hw6 hb6 hbr6 hrd6 hsz6
     go_wp2_with (at_builtin; rw [← HW6.out]; refine wpList_plain rfl fun K hK => wp_appT _ _ rfl w30.heap.size _ k (pk6 k tm wv) [⟨2 * (k : Int), (q : Int)⟩] rfl HOWN6.out (some ⟨w5.heap.size, 0, none⟩) 1 1 rfl HRD6.out (by omega) HSZ6.out (fun v' w7 g2 g3 => ?_); refine hK _ _ (stopq ?_))
     unfold StopQ
     have hpk : pk6 k tm wv ++ [⟨2 * (k : Int), (q : Int)⟩] = pk6 (k + 1) tm wv := by rw [pk6_succ, HQ.out]
     rw [hpk] at g2
     have ROW7 := Lib.hid g2
     have BR7 := Lib.hid (HBR6.out.trans g3)
     clear g2 g3 hpk
     go_wp2
     go_roundw
     case rel => exact ⟨k + 1, by omega, by go_num, ROW7, BR7⟩
     case measure => simp [intOf]; omega
    ·obtain rfl : n = k := by omega
     obtain ⟨V', vc', rfl⟩ := own_slice HROW2.out
     obtain ⟨_, _, he8, hr8, _⟩ := own_form HROW2.out
     cases he8
     have HR8 := Lib.hid hr8
     have HB8 := Lib.hid (HB30.out.call HBR2.out rfl)
     clear hr8
     go_wp2
     go_ret2
     exact ⟨_, _, rfl, HR8.out, HB8.out⟩
end Go.Proofs.YtfmgibhffgkieaaDoor
namespace Go.Proofs.YtfmgibhffgkieaaDoor
open Go.RowKit Go.Shelf
set_option maxHeartbeats 8000000
set_option maxRecDepth 100000
attribute [local go_sem] Oper.semAt_some
/-- a time and how much a survey is wrong -/
def tmF (ts : List Int) (k : Nat) : Int := (wrap64 (ts.getD k 0)).tmod 40
def wvF (xs : Nat → Int) (e : Int) (k : Nat) : Int := (wrap64 (xs k)).tmod (e + 1)
def erF (e : Int) : Int := (wrap64 e).tmod 4
def pkF (ts : List Int) (xs : Nat → Int) (e : Int) (k : Nat) : Nat := (20 + tmF ts k + wvF xs e k).toNat
theorem erF_bd {e : Int} (h : 0 ≤ e ∧ e ≤ 255) : 0 ≤ erF e ∧ erF e ≤ 3 := by
 unfold erF
 rw [wrap64_ok (by omega)]
 have h1 := Int.tmod_lt_of_pos e (by omega : (0 : Int) < 4)
 have h2 := Int.tmod_nonneg 4 h.1
 omega
theorem tm_of {x : Int} (h : 0 ≤ x ∧ x ≤ 255) : 0 ≤ (wrap64 x).tmod 40 ∧ (wrap64 x).tmod 40 ≤ 39 := by
 rw [wrap64_ok (by omega)]
 have h1 := Int.tmod_lt_of_pos x (by omega : (0 : Int) < 40)
 have h2 := Int.tmod_nonneg 40 h.1
 omega
theorem tmF_of {ts : List Int} {k : Nat} {x : Int} (h : ts[k]? = some x) : tmF ts k = (wrap64 x).tmod 40 := by
 unfold tmF
 rw [List.getD_eq_getElem?_getD, h]; rfl
theorem tmF_bd {ts : List Int} (hts : ∀ x ∈ ts, 0 ≤ x ∧ x ≤ 255) {k : Nat} (hk : k < ts.length) : 0 ≤ tmF ts k ∧ tmF ts k ≤ 39 := by
 rw [tmF_of (List.getElem?_eq_getElem hk)]
 exact tm_of (hts _ (List.getElem_mem hk))
theorem wvF_bd (xs : Nat → Int) {e : Int} (he : 0 ≤ e ∧ e ≤ 3) (k : Nat) : -e ≤ wvF xs e k ∧ wvF xs e k ≤ e := by
 have := tmod_bd (wrap64 (xs k)) (e + 1) (by omega)
 unfold wvF
 omega
theorem pkF_eq {ts : List Int} {xs : Nat → Int} {e : Int} (he : 0 ≤ e ∧ e ≤ 3) (hts : ∀ x ∈ ts, 0 ≤ x ∧ x ≤ 255) {k : Nat} (hk : k < ts.length) : (pkF ts xs e k : Int) = 20 + tmF ts k + wvF xs e k ∧ pkF ts xs e k ≤ 1000 := by
 have h1 := tmF_bd hts hk
 have h2 := wvF_bd xs he k
 unfold pkF
 omega
theorem c6x_0 (A : Option Addr) (n cap : Nat) (ts : List Int) (xs : Nat → Int) (e0 e1 d0 d1 : Int) (w : World) (hn : 1 ≤ n ∧ n ≤ 6) (hl : ts.length = n) (hts : ∀ x ∈ ts, 0 ≤ x ∧ x ≤ 255) (he : 0 ≤ e0 ∧ e0 ≤ 255) (HR : Rng w) (H : RdS w 1 A n (ts.map (Value.int .u8))) :
  Calls Tryd.prog 6 #[.agg #[.slice A n cap, .int .u8 e0, .int .u8 e1, .int .i8 (xs 0), .int .i8 (xs 1), .int .i8 (xs 2), .int .i8 (xs 3), .int .i8 (xs 4), .int .i8 (xs 5), .int .i8 (xs 6), .int .i8 (xs 7), .int .i8 (xs 8), .int .i8 (xs 9), .int .i8 (xs 10), .int .i8 (xs 11), .int .i8 d0, .int .i8 d1], .int .i64 0] w fun en w' => ∃ A' c', en = .returned (.tuple #[.slice A' n c', .bool true]) ∧ RdT w' A' n (pkh 0 n (pkF ts xs (erF e0))) ∧ Below w.heap.size w w' := by
 have h3 := erF_bd he
 have h9 := tmod_bd (wrap64 d0) 9 (by omega)
 have key := c6_0 A n cap ts xs e0 e1 d0 d1 (erF e0) ((wrap64 d0).tmod 9) (erF e0 + 1) (tmF ts) (wvF xs (erF e0)) w hn HR H rfl h3 rfl rfl (by omega) (fun k x hx => by rw [tmF_of hx]; exact ⟨rfl, tm_of (hts x (List.mem_of_getElem? hx))⟩) (fun k hk => ⟨rfl, by have := wvF_bd xs h3 k; omega, by have := wvF_bd xs h3 k; omega⟩)
 refine key.mono ?_
 rintro e w' ⟨A', c', rfl, hr, hb⟩
 refine ⟨A', c', rfl, ?_, hb⟩
 rw [pk6_pkh n _ _ (fun k hk => by have := tmF_bd hts (k := k) (by omega); have := wvF_bd xs h3 k; omega)] at hr
 exact hr
theorem c6x_1 (A : Option Addr) (n cap : Nat) (ts : List Int) (xs : Nat → Int) (e0 e1 d0 d1 : Int) (w : World) (hn : 1 ≤ n ∧ n ≤ 6) (hl : ts.length = n) (hts : ∀ x ∈ ts, 0 ≤ x ∧ x ≤ 255) (he : 0 ≤ e1 ∧ e1 ≤ 255) (HR : Rng w) (H : RdS w 1 A n (ts.map (Value.int .u8))) :
  Calls Tryd.prog 6 #[.agg #[.slice A n cap, .int .u8 e0, .int .u8 e1, .int .i8 (xs 0), .int .i8 (xs 1), .int .i8 (xs 2), .int .i8 (xs 3), .int .i8 (xs 4), .int .i8 (xs 5), .int .i8 (xs 6), .int .i8 (xs 7), .int .i8 (xs 8), .int .i8 (xs 9), .int .i8 (xs 10), .int .i8 (xs 11), .int .i8 d0, .int .i8 d1], .int .i64 1] w fun en w' => ∃ A' c', en = .returned (.tuple #[.slice A' n c', .bool true]) ∧ RdT w' A' n (pkh 0 n (pkF ts (fun k => xs (6 + k)) (erF e1))) ∧ Below w.heap.size w w' := by
 have h3 := erF_bd he
 have h9 := tmod_bd (wrap64 d1) 9 (by omega)
 have key := c6_1 A n cap ts xs e0 e1 d0 d1 (erF e1) ((wrap64 d1).tmod 9) (erF e1 + 1) (tmF ts) (wvF (fun k => xs (6 + k)) (erF e1)) w hn HR H rfl h3 rfl rfl (by omega) (fun k x hx => by rw [tmF_of hx]; exact ⟨rfl, tm_of (hts x (List.mem_of_getElem? hx))⟩) (fun k hk => ⟨rfl, by have := wvF_bd (fun k => xs (6 + k)) h3 k; omega, by have := wvF_bd (fun k => xs (6 + k)) h3 k; omega⟩)
 refine key.mono ?_
 rintro e w' ⟨A', c', rfl, hr, hb⟩
 refine ⟨A', c', rfl, ?_, hb⟩
 rw [pk6_pkh n _ _ (fun k hk => by have := tmF_bd hts (k := k) (by omega); have := wvF_bd (fun k => xs (6 + k)) h3 k; omega)] at hr
 exact hr
theorem keel_law (n at0 : Nat) (ts : List Int) (xs ys : Nat → Int) (ea eb ch nt : Int) (hl : ts.length = n) (hat : at0 < n) (hts : ∀ x ∈ ts, 0 ≤ x ∧ x ≤ 255) (hea : 0 ≤ ea ∧ ea ≤ 3) (heb : 0 ≤ eb ∧ eb ≤ 3) (hnt : 0 ≤ nt ∧ nt ≤ 39) (hch : nt = tmF ts at0 + ch) :
  (∀ q ∈ dif (pkF ts xs ea) (pkF (ts.set at0 nt) ys eb) ea eb 0 n, 2 * (at0 : Int) - 2 < q ∧ q < 2 * (at0 : Int) + 2) ∧ (ch = 0 → dif (pkF ts xs ea) (pkF (ts.set at0 nt) ys eb) ea eb 0 n = []) ∧ (2 * (ea + eb) < ch ∨ 2 * (ea + eb) < -ch → 2 * (at0 : Int) ∈ dif (pkF ts xs ea) (pkF (ts.set at0 nt) ys eb) ea eb 0 n) := by
 have hts2 : ∀ x ∈ ts.set at0 nt, 0 ≤ x ∧ x ≤ 255 := fun x hx => by
  rcases List.mem_or_eq_of_mem_set hx with h | rfl
  ·exact hts x h
  ·omega
 refine keel_plain n at0 (tmF ts) (wvF xs ea) (wvF ys eb) ea eb ch _ _ hat hea.1 heb.1 (fun k hk => (pkF_eq hea hts (by omega)).1) (fun k hk => ?_) (fun k hk => wvF_bd xs hea k) (fun k hk => wvF_bd ys heb k)
 have h := (pkF_eq (xs := ys) heb hts2 (k := k) (by rw [List.length_set]; omega)).1
 rw [h]
 by_cases e : k = at0
 ·rw [if_pos e, e, ← hch, tmF_of (x := nt) (by rw [List.getElem?_set]; simp; omega)]
  rw [wrap64_ok (by omega), Int.tmod_eq_of_lt hnt.1 (by omega)]
 ·rw [if_neg e]
  have : tmF (ts.set at0 nt) k = tmF ts k := by
   unfold tmF
   rw [List.getD_eq_getElem?_getD, List.getD_eq_getElem?_getD, List.getElem?_set_ne (by omega)]
  rw [this]
theorem set_ok {ts : List Int} {at0 : Nat} {nt : Int} (hts : ∀ x ∈ ts, 0 ≤ x ∧ x ≤ 255) (hnt : 0 ≤ nt ∧ nt ≤ 39) : ∀ x ∈ ts.set at0 nt, 0 ≤ x ∧ x ≤ 255 := fun x hx => by
 rcases List.mem_or_eq_of_mem_set hx with h | rfl
 ·exact hts x h
 ·omega
end Go.Proofs.YtfmgibhffgkieaaDoor
/- From a law's contract to its row. -/
namespace Go.Proofs.YtfmgibhffgkieaaDoor
open Go.ChangeShapes Go.WideShapes Go.ChangeAt Go.RowKit Go.MakeChecks
set_option maxHeartbeats 1000000
set_option maxRecDepth 100000
theorem Tryd.own : ownKnob Tryd.prog.godebug = none := by kernel_rfl
theorem Tryd.laidOut : laidOutB Tryd.prog = true := by kernel_rfl
section
variable {H : Type} {enc : TypeId × Value → H}
theorem trodAll_below {W W' : World} (hb : Below W.heap.size W W') : ∀ (ts : List TypeId) (vs : List Value) (ds : List (DataW H)) (p : List MemPlace), (∀ t ∈ ts, (Tryd.prog.readableRec t && decide (t < Tryd.prog.types.size)) = true) →
  DataW.TrodAll enc Tryd.prog W 0 (fun _ => true) true ts vs ds p → (∀ x ∈ p, x.block < W.heap.size) → DataW.TrodAll enc Tryd.prog W' 0 (fun b => decide (b < W.heap.size)) true ts vs ds p
 | [], [], [], _, _, h, _ => h
 | t :: ts, v :: vs, d :: ds, p, ht, h, hlt => by
  obtain ⟨p1, q1, h1, h2, rfl⟩ := h
  have hh := ht t (by simp)
  rw [Bool.and_eq_true, decide_eq_true_eq] at hh
  exact ⟨p1, q1, Below.trod Tryd.laidOut hh.1 hh.2 h1 hb (fun x hx => hlt x (by simp [hx])), trodAll_below hb ts vs ds q1 (fun t ht' => ht t (by simp [ht'])) h2 (fun x hx => hlt x (by simp [hx])), rfl⟩
 | [], [], _ :: _, _, _, h, _ => h.elim
 | [], _ :: _, _, _, _, h, _ => h.elim
 | _ :: _, [], _, _, _, h, _ => h.elim
 | _ :: _, _ :: _, [], _, _, h, _ => h.elim
theorem post_law {f : Func} {s : ChangeSpec} {W W' : World} {args : Array Value} {ds gs : List (DataW H)} {before : List MemPlace} (hvars : s.vars = []) (hres : f.resultTypes = #[4]) (hro : (f.params.toList.all fun t => Tryd.prog.readableRec t && decide (t < Tryd.prog.types.size)) = true)
  (hfn : gs = [] → s.fn H (ds ++ gs) = { results := [.lit (.bool true)], args := ds }) (hW : DataW.Whole enc Tryd.prog f.params.toList s.vars false W args.toList ds gs before) (hB : Below W.heap.size W W') : s.post enc Tryd.prog f false true false false W args (.bool true) W' := by
 have hlt := hW.lt
 have hW' := hW
 obtain ⟨p, q, hA, hV, rfl, _, _⟩ := hW
 rw [hvars] at hV
 obtain ⟨rfl, rfl⟩ := trodVars_none hV
 have hf := hfn rfl
 refine ⟨ds, [], p ++ [], [], p, [], hW', ?_, ?_, ?_, hB.frame _, fun h => by cases h⟩
 ·rw [hf, hres]; exact trodAll_mk1 (shut_bool Tryd.underlying4 true)
 ·rw [hf]
  exact trodAll_below hB _ _ _ _ (List.all_eq_true.1 hro) hA (fun x hx => hlt x (by simp [hx]))
 ·rw [hf, hvars]; exact rfl
end
/-- the way from a contract at each shaped world to the row's runs -/
theorem handed_shaped {H : Type} {enc : TypeId × Value → H} {C : Checked} {os : Os} {f : FuncId} {fn : Func} {s : ChangeSpec} {X : World → Array Value → Prop}
  (hX : ∀ (w w' : World) (args : Array Value), w.heap = w'.heap → X w args → X w' args) (own : ownKnob C.prog.godebug = none) (started : os.Started) (noInit : C.prog.inits.idxOf? f = none) (hfn : C.prog.funcs[f]? = some fn)
  (witness : ∃ (w : World) (tape : Tape) (i : Input), w.os = os ∧ (w.forCall tape i).Shaped C.prog ∧ i.vars = [] ∧ Input.okWide C.prog (w.forCall tape i) .any w.heap.size f i ∧
   ((s.pre enc C.prog fn [] false (w.forCall tape i).memory i.args ∧ X (w.forCall tape i).memory i.args) ∧ sizedMet enc C.prog fn (OpenSpec.ofChange s) false (w.forCall tape i).memory i.args) ∧ ({} : Assume).holds C.prog (lone (Frame.enter C.prog f i.args .normal) [] (w.forCall tape i)))
  (contract : ∀ (W : World) (base : Nat) (args : Array Value) (ds gs : List (DataW H)) (before : List MemPlace), W.ShapedOpen C.prog →
   (∀ (j : Nat) t v, fn.params[j]? = some t → args[j]? = some v → Value.okWide C.prog W .any base t v) →
   DataW.Whole enc C.prog fn.params.toList s.vars false W args.toList ds gs before → X W args →
   Calls C.prog f args W fun e W' => ∃ v, e = .returned v ∧ s.post enc C.prog fn false true false false W args v W') :
  ReturnsInHanded {} C os f .any (fun w args => (s.pre enc C.prog fn [] false w args ∧ X w args) ∧ sizedMet enc C.prog fn (OpenSpec.ofChange s) false w args) (s.post enc C.prog fn false true false false) := by
 refine returnsInHanded_of_calls own started noInit witness fun w tape i _ hsh _ hok hpre _ => ?_
 obtain ⟨⟨⟨ds, gs, before, hw, _⟩, hx⟩, _⟩ := hpre
 obtain ⟨_, _, _, fn', hfn', _, _, _, _, hval⟩ := hok
 obtain rfl : fn' = fn := Option.some.inj (hfn'.symm.trans hfn)
 refine (contract (w.forCall tape i) w.heap.size i.args ds gs before hsh hval (DataW.Whole.of_heap (w := (w.forCall tape i).memory) (w' := w.forCall tape i) (by rfl) hw) (hX (w.forCall tape i).memory (w.forCall tape i) _ (by rfl) hx)).mono fun e W' ⟨v, he, hp⟩ => ?_
 subst he
 exact ChangeSpec.post_blind hp
def laidT : List (String × DataW Unit) := Rows.topKeelChangedRow.laid
theorem laid_plain (w : World) (h : laidMetH Tryd.prog laidT w) : laidMet Tryd.prog laidT w := by
 rw [laidMetH_plain Tryd.prog laidT w (by kernel_rfl)] at h
 exact h
section
variable {H : Type} {enc : TypeId × Value → H} {w : World} {base : Nat} {spare : Nat → Bool} {held : Bool}
/-- a pair of integers, read -/
theorem pair_cells {e : TypeId} {n : Nat} {cs : List Value} {x : DataW H × List MemPlace} (ht : Tryd.prog.underlying e = some (.array 2 3)) (h3 : Tryd.prog.cellsOf 3 = 1) (hc : Tryd.prog.cellsOf e = 2)
  (h : DataW.trod enc Tryd.prog w base spare held n e cs = some x) : ∃ a b, cs = [.int .i64 a, .int .i64 b] ∧ x.1 = .agg [.lit (.int .i64 a), .lit (.int .i64 b)] := by
 obtain ⟨xs, m, rfl, rfl, hl, hx, hf⟩ := DataW.trod_array ht h
 rw [hc] at hl
 match cs, hl with
 | [c0, c1], _ =>
  match xs, hx with
  | [x0, x1], _ =>
   have f0 := hf 0 (by omega)
   have f1 := hf 1 (by omega)
   rw [h3] at f0 f1
   obtain ⟨a, ea, ha, _⟩ := DataW.trod_int Tryd.underlying3 (show DataW.trod enc Tryd.prog w base spare held m 3 [c0] = some x0 by simpa using f0)
   obtain ⟨b, eb, hb, _⟩ := DataW.trod_int Tryd.underlying3 (show DataW.trod enc Tryd.prog w base spare held m 3 [c1] = some x1 by simpa using f1)
   simp at ea eb
   subst ea; subst eb; subst ha; subst hb
   exact ⟨a, b, rfl, rfl⟩
end
theorem rng_of (w : World) (h : laidMetH Tryd.prog laidT w) : Rng w := by
 have hl2 := laid_plain w h
 obtain ⟨ps, ⟨g', t', cs, fuel, p, q, hg', ht', hvar, hd, _, _⟩, _⟩ := hl2
 have hg0 : some g' = some 0 := Eq.trans hg'.symm (by kernel_rfl)
 have hty : (Tryd.prog.globals[0]?).map (·.type) = some 120 := by kernel_rfl
 obtain rfl := Option.some.inj hg0
 obtain rfl := Option.some.inj (hty.symm.trans ht')
 obtain ⟨xs, m, rfl, hx, hl, hn, hf⟩ := DataW.trod_array Tryd.underlying120 hd
 have hc1 : Tryd.prog.cellsOf 120 = 16 := by kernel_rfl
 have hc2 : Tryd.prog.cellsOf 119 = 2 := by kernel_rfl
 have hc3 : Tryd.prog.cellsOf 3 = 1 := by kernel_rfl
 rw [hc1] at hl
 rw [hc2] at hf
 have hxs : Rows.laid_moveout_trace_ranges = DataW.agg (xs.map (·.1)) := congrArg Prod.fst hx
 have key : ∀ i, i < 8 → ∃ a b, (cs.toList.drop (i * 2)).take 2 = [.int .i64 a, .int .i64 b] ∧ (xs.map (·.1))[i]? = some (.agg [.lit (.int .i64 a), .lit (.int .i64 b)]) := by
  intro i hi
  have h1 := hf i hi
  have hix : i < xs.length := by omega
  rw [List.getElem?_eq_getElem hix] at h1
  obtain ⟨a, b, e1, e2⟩ := pair_cells Tryd.underlying119 hc3 hc2 h1
  exact ⟨a, b, e1, by rw [List.getElem?_map, List.getElem?_eq_getElem hix]; simp [e2]⟩
 have hlist : xs.map (·.1) = [.agg [.lit (.int .i64 (-100000)), .lit (.int .i64 100000)], .agg [.lit (.int .i64 (-100000)), .lit (.int .i64 100000)], .agg [.lit (.int .i64 (-100000)), .lit (.int .i64 100000)], .agg [.lit (.int .i64 (-100000)), .lit (.int .i64 100000)], .agg [.lit (.int .i64 0), .lit (.int .i64 100000)], .agg [.lit (.int .i64 (-999999999)), .lit (.int .i64 999999999)], .agg [.lit (.int .i64 (-999999999)), .lit (.int .i64 999999999)], .agg [.lit (.int .i64 (-999999999)), .lit (.int .i64 999999999)]] := by
  have := hxs.symm
  unfold Rows.laid_moveout_trace_ranges at this
  simpa using this
 rw [hlist] at key
 have cell : ∀ i, i < 8 → ∀ j, j < 2 → cs.toList[i * 2 + j]? = (encI rngL)[i * 2 + j]? := by
  intro i hi j hj
  obtain ⟨a, b, e1, e2⟩ := key i hi
  have h1 : cs.toList[i * 2 + j]? = ((cs.toList.drop (i * 2)).take 2)[j]? := by
   rw [List.getElem?_take, if_pos hj, List.getElem?_drop]
  rw [h1, e1]
  have h8 : i = 0 ∨ i = 1 ∨ i = 2 ∨ i = 3 ∨ i = 4 ∨ i = 5 ∨ i = 6 ∨ i = 7 := by omega
  have h2 : j = 0 ∨ j = 1 := by omega
  rcases h8 with rfl | rfl | rfl | rfl | rfl | rfl | rfl | rfl <;> simp at e2 <;> obtain ⟨rfl, rfl⟩ := e2 <;> rcases h2 with rfl | rfl <;> rfl
 have hcell : ∀ k, k < 16 → w.cell? ⟨0, k, none⟩ = (encI rngL)[k]? := by
  intro k hk
  have h1 := World.var?_cell hg' hvar k
  rw [h1]
  have h2 := cell (k / 2) (by omega) (k % 2) (by omega)
  rw [show k / 2 * 2 + k % 2 = k by omega] at h2
  rw [← h2, Array.getElem?_toList]
 refine ⟨rfl, fun _ => ⟨0, 0, rfl, ?_, fun j hj => ?_⟩⟩
 ·have h0 := hcell 0 (by omega)
  have h1 : (encI rngL)[0]? = some (.int .i64 (-100000)) := rfl
  rw [h1] at h0
  unfold World.cell? at h0
  by_cases hb : 0 < w.heap.size
  ·exact hb
  ·rw [Array.getElem?_eq_none (Nat.le_of_not_lt hb)] at h0
   simp at h0
 ·rw [Nat.zero_add]
  exact hcell j (by simpa [encI, rngL] using hj)
theorem wfu {n : Int} (h : (Lit.int .u8 n).wf = true) : 0 ≤ n ∧ n ≤ 255 := by
 have e1 : IntKind.u8.min = 0 := by decide
 have e2 : IntKind.u8.max = 255 := by decide
 simpa [Lit.wf, e1, e2] using h
section
variable {H : Type} {enc : TypeId × Value → H} {W : World} {base : Nat} {v : Value} {d : DataW H} {p : List MemPlace}
theorem leaf_arg {t : TypeId} {fs : Array Field} {ts : List TypeId} (hs : Tryd.prog.underlying t = some (.struct fs)) (hv : Value.okWide Tryd.prog W .any base t v) (h : DataW.Trod enc Tryd.prog W 0 (fun _ => true) true t v d p) (hl : leaves Tryd.prog 8 t = some ts) :
  ∃ cs : List Value, v = .agg cs.toArray ∧ LeafAll enc Tryd.prog W 0 (fun _ => true) true ts cs := by
 obtain ⟨cs, rfl, _⟩ := okWide_struct hs hv
 obtain ⟨fuel, hf⟩ := h
 exact ⟨cs.toList, by simp, leaves_trod 8 t ts _ _ _ hl hf⟩
theorem leaf_array {t : TypeId} {k : Nat} {e : TypeId} {ts : List TypeId} (hs : Tryd.prog.underlying t = some (.array k e)) (hv : Value.okWide Tryd.prog W .any base t v) (h : DataW.Trod enc Tryd.prog W 0 (fun _ => true) true t v d p) (hl : leaves Tryd.prog 8 t = some ts) :
  ∃ cs : List Value, v = .agg cs.toArray ∧ LeafAll enc Tryd.prog W 0 (fun _ => true) true ts cs := by
 simp only [Value.okWide, hs] at hv
 obtain ⟨cs, rfl, _⟩ := hv
 obtain ⟨fuel, hf⟩ := h
 exact ⟨cs.toList, by simp, leaves_trod 8 t ts _ _ _ hl hf⟩
theorem slU {n : Nat} {y : DataW H × List MemPlace} (h : DataW.trod enc Tryd.prog W 0 (fun _ => true) true n 22 [v] = some y) : ∃ A cap l, v = .slice A (List.length l) cap ∧ RdS W 1 A l.length (l.map (Value.int .u8)) ∧ ∀ x ∈ l, 0 ≤ x ∧ x ≤ 255 := by
 have hα : ∀ cs, LeafAll enc Tryd.prog W 0 (fun _ => true) true [5] cs → ∃ x : Int, cs = [Value.int .u8 x] ∧ (0 ≤ x ∧ x ≤ 255) := by
  intro cs hc0
  obtain ⟨x0, r0, rfl, g0, hc1⟩ := hc0.int Tryd.underlying5
  obtain rfl := hc1.nil
  exact ⟨x0, rfl, wfu g0⟩
 obtain ⟨A, cap, l, h1, h2, _, _, _, h3⟩ := rdl_open (enc' := fun x : Int => [Value.int .u8 x]) (Q := fun x => 0 ≤ x ∧ x ≤ 255) (ts := [5]) (size := 1) (n := 8) Tryd.underlying22 (by kernel_rfl) (by kernel_rfl) rfl (by decide) hα h
 refine ⟨A, cap, l, h1, ?_, h3⟩
 have e : ∀ l : List Int, l.flatMap (fun x => [Value.int .u8 x]) = l.map (Value.int .u8) := by
  intro l
  induction l with
  | nil => rfl
  | cons a l ih => simp [ih]
 unfold RdL at h2
 rw [e] at h2
 exact h2
theorem open_two (hv : Value.okWide Tryd.prog W .any base 23 v) (h : DataW.Trod enc Tryd.prog W 0 (fun _ => true) true 23 v d p) : ∃ e0 e1 : Int, v = .agg #[.int .u8 e0, .int .u8 e1] ∧ (0 ≤ e0 ∧ e0 ≤ 255) ∧ (0 ≤ e1 ∧ e1 ≤ 255) := by
 obtain ⟨cs, rfl, hc0⟩ := leaf_array (ts := [5, 5]) Tryd.underlying23 hv h (by kernel_rfl)
 obtain ⟨x0, r0, rfl, w0, hc1⟩ := hc0.int Tryd.underlying5
 obtain ⟨x1, r1, rfl, w1, hc2⟩ := hc1.int Tryd.underlying5
 obtain rfl := hc2.nil
 exact ⟨x0, x1, rfl, wfu w0, wfu w1⟩
theorem open_G (hv : Value.okWide Tryd.prog W .any base 29 v) (h : DataW.Trod enc Tryd.prog W 0 (fun _ => true) true 29 v d p) : ∃ (A : Option Addr) (cap : Nat) (l : List Int) (e0 e1 : Int) (xs : Nat → Int) (d0 d1 : Int), v = .agg #[.slice A l.length cap, .int .u8 e0, .int .u8 e1, .int .i8 (xs 0), .int .i8 (xs 1), .int .i8 (xs 2), .int .i8 (xs 3), .int .i8 (xs 4), .int .i8 (xs 5), .int .i8 (xs 6), .int .i8 (xs 7), .int .i8 (xs 8), .int .i8 (xs 9), .int .i8 (xs 10), .int .i8 (xs 11), .int .i8 d0, .int .i8 d1] ∧ RdS W 1 A l.length (l.map (Value.int .u8)) ∧ (∀ x ∈ l, 0 ≤ x ∧ x ≤ 255) ∧ (0 ≤ e0 ∧ e0 ≤ 255) ∧ (0 ≤ e1 ∧ e1 ≤ 255) := by
 obtain ⟨cs, rfl, hc0⟩ := leaf_arg (ts := [22, 5, 5, 24, 24, 24, 24, 24, 24, 24, 24, 24, 24, 24, 24, 24, 24]) Tryd.underlying29 hv h (by kernel_rfl)
 obtain ⟨c, r, rfl, ⟨n, y, h2⟩, hc1⟩ := hc0.head
 obtain ⟨A, cap, l, rfl, hr, hl⟩ := slU h2
 obtain ⟨e0, r0, rfl, w0, hc2⟩ := hc1.int Tryd.underlying5
 obtain ⟨e1, r1, rfl, w1, hc3⟩ := hc2.int Tryd.underlying5
 obtain ⟨x0, s0, rfl, _, hc4⟩ := hc3.int Tryd.underlying24
 obtain ⟨x1, s1, rfl, _, hc5⟩ := hc4.int Tryd.underlying24
 obtain ⟨x2, s2, rfl, _, hc6⟩ := hc5.int Tryd.underlying24
 obtain ⟨x3, s3, rfl, _, hc7⟩ := hc6.int Tryd.underlying24
 obtain ⟨x4, s4, rfl, _, hc8⟩ := hc7.int Tryd.underlying24
 obtain ⟨x5, s5, rfl, _, hc9⟩ := hc8.int Tryd.underlying24
 obtain ⟨x6, s6, rfl, _, hc10⟩ := hc9.int Tryd.underlying24
 obtain ⟨x7, s7, rfl, _, hc11⟩ := hc10.int Tryd.underlying24
 obtain ⟨x8, s8, rfl, _, hc12⟩ := hc11.int Tryd.underlying24
 obtain ⟨x9, s9, rfl, _, hc13⟩ := hc12.int Tryd.underlying24
 obtain ⟨x10, s10, rfl, _, hc14⟩ := hc13.int Tryd.underlying24
 obtain ⟨x11, s11, rfl, _, hc15⟩ := hc14.int Tryd.underlying24
 obtain ⟨x12, s12, rfl, _, hc16⟩ := hc15.int Tryd.underlying24
 obtain ⟨x13, s13, rfl, _, hc17⟩ := hc16.int Tryd.underlying24
 obtain rfl := hc17.nil
 exact ⟨A, cap, l, e0, e1, fun j => [x0, x1, x2, x3, x4, x5, x6, x7, x8, x9, x10, x11].getD j 0, x12, x13, rfl, hr, hl, wfu w0, wfu w1⟩
end
end Go.Proofs.YtfmgibhffgkieaaDoor
