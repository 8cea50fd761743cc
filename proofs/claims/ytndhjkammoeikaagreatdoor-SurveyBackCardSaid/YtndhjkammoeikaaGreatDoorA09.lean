/- A part of the proofs about chapter 9: contracts of functions and plain laws (W47, Model18, W48, Model19, W49, Model20). -/
import Derived.Lib.OthersKept
import Derived.Laws.RangeAny
import Derived.Deep.AppendLies
import Derived.Test.YtndhjkammoeikaaGreatDoorA08
set_option linter.all false
namespace Go.Proofs.YtndhjkammoeikaaGreatDoor
open Go.RowKit
set_option maxHeartbeats 1000000
set_option maxRecDepth 20000
theorem idxR0 (W : World) : (Instr.index 207 ratesV (.int .i64 0)).run Tryz.prog W = .ok (.agg #[.string Mo.shoot, .func (.func 155) #[] #[]]) W := by
  (show _ = _); kernel_rfl
theorem idxR1 (W : World) : (Instr.index 207 ratesV (.int .i64 1)).run Tryz.prog W = .ok (.agg #[.string Mo.turn, .func (.func 156) #[] #[]]) W := by
  (show _ = _); kernel_rfl
theorem idxR2 (W : World) : (Instr.index 207 ratesV (.int .i64 2)).run Tryz.prog W = .ok (.agg #[.string Mo.weather, .func (.func 157) #[] #[]]) W := by
  (show _ = _); kernel_rfl
theorem idxR3 (W : World) : (Instr.index 207 ratesV (.int .i64 3)).run Tryz.prog W = .ok (.agg #[.string Mo.animal, .func (.func 158) #[] #[]]) W := by
  (show _ = _); kernel_rfl
theorem idxR4 (W : World) : (Instr.index 207 ratesV (.int .i64 4)).run Tryz.prog W = .ok (.agg #[.string Mo.gear, .func (.func 159) #[] #[]]) W := by
  (show _ = _); kernel_rfl
theorem idxR5 (W : World) : (Instr.index 207 ratesV (.int .i64 5)).run Tryz.prog W = .ok (.agg #[.string Mo.share, .func (.func 160) #[] #[]]) W := by
  (show _ = _); kernel_rfl

theorem c73 (c : Con) (w : World) : Calls Tryz.prog 73 #[.agg #[.int .i64 (c.r 0), .int .i64 (c.r 1), .int .i64 (c.r 2), .int .i64 (c.r 3), .int .i64 (c.r 4), .int .i64 (c.r 5), .int .i64 c.free, .int .i64 c.bonus, .int .i64 c.pen]] w fun en w' => en = .returned (.int .i64 (Mo.con c)) ∧ Below w.heap.size w w' := by
  have hB0 : Below w.heap.size w (w.alloc (Obj.cells #[.int .i64 (c.r 0), .int .i64 (c.r 1), .int .i64 (c.r 2), .int .i64 (c.r 3), .int .i64 (c.r 4), .int .i64 (c.r 5), .int .i64 c.free, .int .i64 c.bonus, .int .i64 c.pen] 130)) := ((Below.refl _ _).alloc (by first | omega | (simp <;> omega)) _)
  have hT0 : (w.alloc (Obj.cells #[.int .i64 (c.r 0), .int .i64 (c.r 1), .int .i64 (c.r 2), .int .i64 (c.r 3), .int .i64 (c.r 4), .int .i64 (c.r 5), .int .i64 c.free, .int .i64 c.bonus, .int .i64 c.pen] 130)).heap[w.heap.size]? = some (Obj.cells #[.int .i64 (c.r 0), .int .i64 (c.r 1), .int .i64 (c.r 2), .int .i64 (c.r 3), .int .i64 (c.r 4), .int .i64 (c.r 5), .int .i64 c.free, .int .i64 c.bonus, .int .i64 c.pen] 130) := heap_new rfl
  obtain ⟨rs, hrs⟩ : ∃ rs, rs = (List.range 6).map (Mo.rr c) := ⟨_, rfl⟩
  have hcon : Hid (Mo.con c = if Mo.first rs ≠ 0 then Mo.first rs else Mo.con3 c) := by show _ = _; rw [hrs]; rfl
  have hst : ∀ k, k < 6 → Hid (Mo.first (rs.drop k) = if Mo.rr c k ≠ 0 then Mo.rr c k else Mo.first (rs.drop (k + 1))) := fun k hk => by
    show _ = _
    rw [hrs]; exact Mo.first_range 6 k (Mo.rr c) hk
  have hend : Hid (Mo.first (rs.drop 6) = 0) := by show _ = _; rw [hrs]; exact Mo.first_range_end 6 6 (Mo.rr c) (Nat.le_refl _)
  have h3 : Hid (Mo.con3 c = Mo.first [Mo.range c.free 0 100000, Mo.range c.bonus 0 10000, Mo.range c.pen 0 10000]) := rfl
  clear hrs
  go_enter Tryz.func73, Tryz.ntmps73
  go_wp2_with fail
  refine (c123 _).mono ?_
  rintro e w1 ⟨rfl, hb1⟩
  have hB1 := hB0.call hb1 rfl
  have hT1 := (hb1.block _ (by simp)).trans hT0
  clear hb1 hT0 hB0
  go_wp2
  go_loopw [7] (fun i wr => ∃ k : Nat, k ≤ 6 ∧ i = .int .i64 k ∧ Below w.heap.size w wr ∧ wr.heap[w.heap.size]? = some (Obj.cells #[.int .i64 (c.r 0), .int .i64 (c.r 1), .int .i64 (c.r 2), .int .i64 (c.r 3), .int .i64 (c.r 4), .int .i64 (c.r 5), .int .i64 c.free, .int .i64 c.bonus, .int .i64 c.pen] 130) ∧ Mo.first rs = Mo.first (rs.drop k)) (fun i _ => 6 - (intOf i).toNat)
  case atStart => exact ⟨0, Nat.zero_le _, rfl, hB1, hT1, rfl⟩
  case round =>
    clear hT1 hB1
    obtain ⟨k, hk, rfl, hB, hT, he⟩ := hrel
    have HE := Lib.hid he
    clear he
    have hz : w.heap.size < wr.heap.size := (Array.getElem?_eq_some_iff.1 hT).1
    have a0 : wr.cell? ⟨w.heap.size, 0, none⟩ = some (.int .i64 (c.r 0)) := cell_at hT rfl
    have a1 : wr.cell? ⟨w.heap.size, 1, none⟩ = some (.int .i64 (c.r 1)) := cell_at hT rfl
    have a2 : wr.cell? ⟨w.heap.size, 2, none⟩ = some (.int .i64 (c.r 2)) := cell_at hT rfl
    have a3 : wr.cell? ⟨w.heap.size, 3, none⟩ = some (.int .i64 (c.r 3)) := cell_at hT rfl
    have a4 : wr.cell? ⟨w.heap.size, 4, none⟩ = some (.int .i64 (c.r 4)) := cell_at hT rfl
    have a5 : wr.cell? ⟨w.heap.size, 5, none⟩ = some (.int .i64 (c.r 5)) := cell_at hT rfl
    have a6 : wr.cell? ⟨w.heap.size, 6, none⟩ = some (.int .i64 c.free) := cell_at hT rfl
    have a7 : wr.cell? ⟨w.heap.size, 7, none⟩ = some (.int .i64 c.bonus) := cell_at hT rfl
    have a8 : wr.cell? ⟨w.heap.size, 8, none⟩ = some (.int .i64 c.pen) := cell_at hT rfl
    by_cases hlt : k < 6
    · have hst1 := hst k hlt
      rcases (show k = 0 ∨ k = 1 ∨ k = 2 ∨ k = 3 ∨ k = 4 ∨ k = 5 by omega) with rfl | rfl | rfl | rfl | rfl | rfl
      · have hix := idxR0 wr
        clear a0 a1 a2 a3 a4 a5 a6 a7 a8
        go_wp2_with (refine wpList_store_blk rfl 206 _ _ rfl wr.heap.size _ rfl rfl (heap_new rfl) ?s1 ?s2 ?s3 ?_)
        case s1 => rfl
        case s2 => kernel_rfl
        case s3 => simp [Value.oneCell']
        intro wx h3 hg3 hs3
        have hBa : Below wr.heap.size wr wx := ((show Below wr.heap.size wr (wr.alloc _) from (Below.refl _ _).alloc (Nat.le_refl _) _)).grown hg3 (by simp) (fun j hj => by cases hj; exact Nat.le_refl _)
        have hTx := (hBa.block _ hz).trans hT
        have hf1 : wx.cell? ⟨wr.heap.size, 1, none⟩ = some (.func (.func 155) #[] #[]) := cell_at h3 rfl
        have b0 : wx.cell? ⟨w.heap.size, 0, none⟩ = some (.int .i64 (c.r 0)) := cell_at hTx rfl
        have b1 : wx.cell? ⟨w.heap.size, 1, none⟩ = some (.int .i64 (c.r 1)) := cell_at hTx rfl
        have b2 : wx.cell? ⟨w.heap.size, 2, none⟩ = some (.int .i64 (c.r 2)) := cell_at hTx rfl
        have b3 : wx.cell? ⟨w.heap.size, 3, none⟩ = some (.int .i64 (c.r 3)) := cell_at hTx rfl
        have b4 : wx.cell? ⟨w.heap.size, 4, none⟩ = some (.int .i64 (c.r 4)) := cell_at hTx rfl
        have b5 : wx.cell? ⟨w.heap.size, 5, none⟩ = some (.int .i64 (c.r 5)) := cell_at hTx rfl
        have b6 : wx.cell? ⟨w.heap.size, 6, none⟩ = some (.int .i64 c.free) := cell_at hTx rfl
        have b7 : wx.cell? ⟨w.heap.size, 7, none⟩ = some (.int .i64 c.bonus) := cell_at hTx rfl
        have b8 : wx.cell? ⟨w.heap.size, 8, none⟩ = some (.int .i64 c.pen) := cell_at hTx rfl
        clear h3 hg3 hTx
        go_wp2_with fail
        refine (c155 c _).mono ?_
        rintro e w2 ⟨rfl, hb2⟩
        have hb2' := fin0 hBa hb2
        have hB2 := fin0 hB hb2'
        have hT2 := (hb2'.block _ hz).trans hT
        clear hb2 hb2' hBa hf1 b0 b1 b2 b3 b4 b5 b6 b7 b8
        have hrr : Hid (Mo.rr c 0 = Mo.range (c.r 0) (-10000) 10000) := rfl
        by_cases hne : Mo.range (c.r 0) (-10000) 10000 = 0
        · have hne' : (Mo.range (c.r 0) (-10000) 10000 != 0) = false := by simp [hne]
          have hnx : Hid (Mo.first rs = Mo.first (rs.drop (0 + 1))) := by show _ = _; rw [HE.out, hst1.out, if_neg (by rw [hrr.out]; simp [hne])]
          clear hne
          go_wp2_with (first | (go_at_call 96; refine (c96 _ _ _ _).mono ?_; rintro e w' ⟨rfl, rfl⟩))
          go_roundw
          case rel => exact ⟨1, by omega, rfl, hB2, hT2, hnx.out⟩
          case measure => simp [intOf]
        · have hne' : (Mo.range (c.r 0) (-10000) 10000 != 0) = true := by simpa using hne
          have hnx : Hid (Mo.con c = Mo.range (c.r 0) (-10000) 10000) := by show _ = _; have h1 := HE.out.trans hst1.out; rw [hrr.out, if_pos hne] at h1; rw [hcon.out, h1, if_pos hne]
          clear hne
          go_wp2_with (first | (go_at_call 96; refine (c96 _ _ _ _).mono ?_; rintro e w' ⟨rfl, rfl⟩))
          go_ret
          exact ⟨ret_int hnx.out.symm, hB2⟩
      · have hix := idxR1 wr
        clear a0 a1 a2 a3 a4 a5 a6 a7 a8
        go_wp2_with (refine wpList_store_blk rfl 206 _ _ rfl wr.heap.size _ rfl rfl (heap_new rfl) ?s1 ?s2 ?s3 ?_)
        case s1 => rfl
        case s2 => kernel_rfl
        case s3 => simp [Value.oneCell']
        intro wx h3 hg3 hs3
        have hBa : Below wr.heap.size wr wx := ((show Below wr.heap.size wr (wr.alloc _) from (Below.refl _ _).alloc (Nat.le_refl _) _)).grown hg3 (by simp) (fun j hj => by cases hj; exact Nat.le_refl _)
        have hTx := (hBa.block _ hz).trans hT
        have hf1 : wx.cell? ⟨wr.heap.size, 1, none⟩ = some (.func (.func 156) #[] #[]) := cell_at h3 rfl
        have b0 : wx.cell? ⟨w.heap.size, 0, none⟩ = some (.int .i64 (c.r 0)) := cell_at hTx rfl
        have b1 : wx.cell? ⟨w.heap.size, 1, none⟩ = some (.int .i64 (c.r 1)) := cell_at hTx rfl
        have b2 : wx.cell? ⟨w.heap.size, 2, none⟩ = some (.int .i64 (c.r 2)) := cell_at hTx rfl
        have b3 : wx.cell? ⟨w.heap.size, 3, none⟩ = some (.int .i64 (c.r 3)) := cell_at hTx rfl
        have b4 : wx.cell? ⟨w.heap.size, 4, none⟩ = some (.int .i64 (c.r 4)) := cell_at hTx rfl
        have b5 : wx.cell? ⟨w.heap.size, 5, none⟩ = some (.int .i64 (c.r 5)) := cell_at hTx rfl
        have b6 : wx.cell? ⟨w.heap.size, 6, none⟩ = some (.int .i64 c.free) := cell_at hTx rfl
        have b7 : wx.cell? ⟨w.heap.size, 7, none⟩ = some (.int .i64 c.bonus) := cell_at hTx rfl
        have b8 : wx.cell? ⟨w.heap.size, 8, none⟩ = some (.int .i64 c.pen) := cell_at hTx rfl
        clear h3 hg3 hTx
        go_wp2_with fail
        refine (c156 c _).mono ?_
        rintro e w2 ⟨rfl, hb2⟩
        have hb2' := fin0 hBa hb2
        have hB2 := fin0 hB hb2'
        have hT2 := (hb2'.block _ hz).trans hT
        clear hb2 hb2' hBa hf1 b0 b1 b2 b3 b4 b5 b6 b7 b8
        have hrr : Hid (Mo.rr c 1 = Mo.range (c.r 1) (-10000) 10000) := rfl
        by_cases hne : Mo.range (c.r 1) (-10000) 10000 = 0
        · have hne' : (Mo.range (c.r 1) (-10000) 10000 != 0) = false := by simp [hne]
          have hnx : Hid (Mo.first rs = Mo.first (rs.drop (1 + 1))) := by show _ = _; rw [HE.out, hst1.out, if_neg (by rw [hrr.out]; simp [hne])]
          clear hne
          go_wp2_with (first | (go_at_call 96; refine (c96 _ _ _ _).mono ?_; rintro e w' ⟨rfl, rfl⟩))
          go_roundw
          case rel => exact ⟨2, by omega, rfl, hB2, hT2, hnx.out⟩
          case measure => simp [intOf]
        · have hne' : (Mo.range (c.r 1) (-10000) 10000 != 0) = true := by simpa using hne
          have hnx : Hid (Mo.con c = Mo.range (c.r 1) (-10000) 10000) := by show _ = _; have h1 := HE.out.trans hst1.out; rw [hrr.out, if_pos hne] at h1; rw [hcon.out, h1, if_pos hne]
          clear hne
          go_wp2_with (first | (go_at_call 96; refine (c96 _ _ _ _).mono ?_; rintro e w' ⟨rfl, rfl⟩))
          go_ret
          exact ⟨ret_int hnx.out.symm, hB2⟩
      · have hix := idxR2 wr
        clear a0 a1 a2 a3 a4 a5 a6 a7 a8
        go_wp2_with (refine wpList_store_blk rfl 206 _ _ rfl wr.heap.size _ rfl rfl (heap_new rfl) ?s1 ?s2 ?s3 ?_)
        case s1 => rfl
        case s2 => kernel_rfl
        case s3 => simp [Value.oneCell']
        intro wx h3 hg3 hs3
        have hBa : Below wr.heap.size wr wx := ((show Below wr.heap.size wr (wr.alloc _) from (Below.refl _ _).alloc (Nat.le_refl _) _)).grown hg3 (by simp) (fun j hj => by cases hj; exact Nat.le_refl _)
        have hTx := (hBa.block _ hz).trans hT
        have hf1 : wx.cell? ⟨wr.heap.size, 1, none⟩ = some (.func (.func 157) #[] #[]) := cell_at h3 rfl
        have b0 : wx.cell? ⟨w.heap.size, 0, none⟩ = some (.int .i64 (c.r 0)) := cell_at hTx rfl
        have b1 : wx.cell? ⟨w.heap.size, 1, none⟩ = some (.int .i64 (c.r 1)) := cell_at hTx rfl
        have b2 : wx.cell? ⟨w.heap.size, 2, none⟩ = some (.int .i64 (c.r 2)) := cell_at hTx rfl
        have b3 : wx.cell? ⟨w.heap.size, 3, none⟩ = some (.int .i64 (c.r 3)) := cell_at hTx rfl
        have b4 : wx.cell? ⟨w.heap.size, 4, none⟩ = some (.int .i64 (c.r 4)) := cell_at hTx rfl
        have b5 : wx.cell? ⟨w.heap.size, 5, none⟩ = some (.int .i64 (c.r 5)) := cell_at hTx rfl
        have b6 : wx.cell? ⟨w.heap.size, 6, none⟩ = some (.int .i64 c.free) := cell_at hTx rfl
        have b7 : wx.cell? ⟨w.heap.size, 7, none⟩ = some (.int .i64 c.bonus) := cell_at hTx rfl
        have b8 : wx.cell? ⟨w.heap.size, 8, none⟩ = some (.int .i64 c.pen) := cell_at hTx rfl
        clear h3 hg3 hTx
        go_wp2_with fail
        refine (c157 c _).mono ?_
        rintro e w2 ⟨rfl, hb2⟩
        have hb2' := fin0 hBa hb2
        have hB2 := fin0 hB hb2'
        have hT2 := (hb2'.block _ hz).trans hT
        clear hb2 hb2' hBa hf1 b0 b1 b2 b3 b4 b5 b6 b7 b8
        have hrr : Hid (Mo.rr c 2 = Mo.range (c.r 2) (-10000) 10000) := rfl
        by_cases hne : Mo.range (c.r 2) (-10000) 10000 = 0
        · have hne' : (Mo.range (c.r 2) (-10000) 10000 != 0) = false := by simp [hne]
          have hnx : Hid (Mo.first rs = Mo.first (rs.drop (2 + 1))) := by show _ = _; rw [HE.out, hst1.out, if_neg (by rw [hrr.out]; simp [hne])]
          clear hne
          go_wp2_with (first | (go_at_call 96; refine (c96 _ _ _ _).mono ?_; rintro e w' ⟨rfl, rfl⟩))
          go_roundw
          case rel => exact ⟨3, by omega, rfl, hB2, hT2, hnx.out⟩
          case measure => simp [intOf]
        · have hne' : (Mo.range (c.r 2) (-10000) 10000 != 0) = true := by simpa using hne
          have hnx : Hid (Mo.con c = Mo.range (c.r 2) (-10000) 10000) := by show _ = _; have h1 := HE.out.trans hst1.out; rw [hrr.out, if_pos hne] at h1; rw [hcon.out, h1, if_pos hne]
          clear hne
          go_wp2_with (first | (go_at_call 96; refine (c96 _ _ _ _).mono ?_; rintro e w' ⟨rfl, rfl⟩))
          go_ret
          exact ⟨ret_int hnx.out.symm, hB2⟩
      · have hix := idxR3 wr
        clear a0 a1 a2 a3 a4 a5 a6 a7 a8
        go_wp2_with (refine wpList_store_blk rfl 206 _ _ rfl wr.heap.size _ rfl rfl (heap_new rfl) ?s1 ?s2 ?s3 ?_)
        case s1 => rfl
        case s2 => kernel_rfl
        case s3 => simp [Value.oneCell']
        intro wx h3 hg3 hs3
        have hBa : Below wr.heap.size wr wx := ((show Below wr.heap.size wr (wr.alloc _) from (Below.refl _ _).alloc (Nat.le_refl _) _)).grown hg3 (by simp) (fun j hj => by cases hj; exact Nat.le_refl _)
        have hTx := (hBa.block _ hz).trans hT
        have hf1 : wx.cell? ⟨wr.heap.size, 1, none⟩ = some (.func (.func 158) #[] #[]) := cell_at h3 rfl
        have b0 : wx.cell? ⟨w.heap.size, 0, none⟩ = some (.int .i64 (c.r 0)) := cell_at hTx rfl
        have b1 : wx.cell? ⟨w.heap.size, 1, none⟩ = some (.int .i64 (c.r 1)) := cell_at hTx rfl
        have b2 : wx.cell? ⟨w.heap.size, 2, none⟩ = some (.int .i64 (c.r 2)) := cell_at hTx rfl
        have b3 : wx.cell? ⟨w.heap.size, 3, none⟩ = some (.int .i64 (c.r 3)) := cell_at hTx rfl
        have b4 : wx.cell? ⟨w.heap.size, 4, none⟩ = some (.int .i64 (c.r 4)) := cell_at hTx rfl
        have b5 : wx.cell? ⟨w.heap.size, 5, none⟩ = some (.int .i64 (c.r 5)) := cell_at hTx rfl
        have b6 : wx.cell? ⟨w.heap.size, 6, none⟩ = some (.int .i64 c.free) := cell_at hTx rfl
        have b7 : wx.cell? ⟨w.heap.size, 7, none⟩ = some (.int .i64 c.bonus) := cell_at hTx rfl
        have b8 : wx.cell? ⟨w.heap.size, 8, none⟩ = some (.int .i64 c.pen) := cell_at hTx rfl
        clear h3 hg3 hTx
        go_wp2_with fail
        refine (c158 c _).mono ?_
        rintro e w2 ⟨rfl, hb2⟩
        have hb2' := fin0 hBa hb2
        have hB2 := fin0 hB hb2'
        have hT2 := (hb2'.block _ hz).trans hT
        clear hb2 hb2' hBa hf1 b0 b1 b2 b3 b4 b5 b6 b7 b8
        have hrr : Hid (Mo.rr c 3 = Mo.range (c.r 3) (-10000) 10000) := rfl
        by_cases hne : Mo.range (c.r 3) (-10000) 10000 = 0
        · have hne' : (Mo.range (c.r 3) (-10000) 10000 != 0) = false := by simp [hne]
          have hnx : Hid (Mo.first rs = Mo.first (rs.drop (3 + 1))) := by show _ = _; rw [HE.out, hst1.out, if_neg (by rw [hrr.out]; simp [hne])]
          clear hne
          go_wp2_with (first | (go_at_call 96; refine (c96 _ _ _ _).mono ?_; rintro e w' ⟨rfl, rfl⟩))
          go_roundw
          case rel => exact ⟨4, by omega, rfl, hB2, hT2, hnx.out⟩
          case measure => simp [intOf]
        · have hne' : (Mo.range (c.r 3) (-10000) 10000 != 0) = true := by simpa using hne
          have hnx : Hid (Mo.con c = Mo.range (c.r 3) (-10000) 10000) := by show _ = _; have h1 := HE.out.trans hst1.out; rw [hrr.out, if_pos hne] at h1; rw [hcon.out, h1, if_pos hne]
          clear hne
          go_wp2_with (first | (go_at_call 96; refine (c96 _ _ _ _).mono ?_; rintro e w' ⟨rfl, rfl⟩))
          go_ret
          exact ⟨ret_int hnx.out.symm, hB2⟩
      · have hix := idxR4 wr
        clear a0 a1 a2 a3 a4 a5 a6 a7 a8
        go_wp2_with (refine wpList_store_blk rfl 206 _ _ rfl wr.heap.size _ rfl rfl (heap_new rfl) ?s1 ?s2 ?s3 ?_)
        case s1 => rfl
        case s2 => kernel_rfl
        case s3 => simp [Value.oneCell']
        intro wx h3 hg3 hs3
        have hBa : Below wr.heap.size wr wx := ((show Below wr.heap.size wr (wr.alloc _) from (Below.refl _ _).alloc (Nat.le_refl _) _)).grown hg3 (by simp) (fun j hj => by cases hj; exact Nat.le_refl _)
        have hTx := (hBa.block _ hz).trans hT
        have hf1 : wx.cell? ⟨wr.heap.size, 1, none⟩ = some (.func (.func 159) #[] #[]) := cell_at h3 rfl
        have b0 : wx.cell? ⟨w.heap.size, 0, none⟩ = some (.int .i64 (c.r 0)) := cell_at hTx rfl
        have b1 : wx.cell? ⟨w.heap.size, 1, none⟩ = some (.int .i64 (c.r 1)) := cell_at hTx rfl
        have b2 : wx.cell? ⟨w.heap.size, 2, none⟩ = some (.int .i64 (c.r 2)) := cell_at hTx rfl
        have b3 : wx.cell? ⟨w.heap.size, 3, none⟩ = some (.int .i64 (c.r 3)) := cell_at hTx rfl
        have b4 : wx.cell? ⟨w.heap.size, 4, none⟩ = some (.int .i64 (c.r 4)) := cell_at hTx rfl
        have b5 : wx.cell? ⟨w.heap.size, 5, none⟩ = some (.int .i64 (c.r 5)) := cell_at hTx rfl
        have b6 : wx.cell? ⟨w.heap.size, 6, none⟩ = some (.int .i64 c.free) := cell_at hTx rfl
        have b7 : wx.cell? ⟨w.heap.size, 7, none⟩ = some (.int .i64 c.bonus) := cell_at hTx rfl
        have b8 : wx.cell? ⟨w.heap.size, 8, none⟩ = some (.int .i64 c.pen) := cell_at hTx rfl
        clear h3 hg3 hTx
        go_wp2_with fail
        refine (c159 c _).mono ?_
        rintro e w2 ⟨rfl, hb2⟩
        have hb2' := fin0 hBa hb2
        have hB2 := fin0 hB hb2'
        have hT2 := (hb2'.block _ hz).trans hT
        clear hb2 hb2' hBa hf1 b0 b1 b2 b3 b4 b5 b6 b7 b8
        have hrr : Hid (Mo.rr c 4 = Mo.range (c.r 4) (-10000) 10000) := rfl
        by_cases hne : Mo.range (c.r 4) (-10000) 10000 = 0
        · have hne' : (Mo.range (c.r 4) (-10000) 10000 != 0) = false := by simp [hne]
          have hnx : Hid (Mo.first rs = Mo.first (rs.drop (4 + 1))) := by show _ = _; rw [HE.out, hst1.out, if_neg (by rw [hrr.out]; simp [hne])]
          clear hne
          go_wp2_with (first | (go_at_call 96; refine (c96 _ _ _ _).mono ?_; rintro e w' ⟨rfl, rfl⟩))
          go_roundw
          case rel => exact ⟨5, by omega, rfl, hB2, hT2, hnx.out⟩
          case measure => simp [intOf]
        · have hne' : (Mo.range (c.r 4) (-10000) 10000 != 0) = true := by simpa using hne
          have hnx : Hid (Mo.con c = Mo.range (c.r 4) (-10000) 10000) := by show _ = _; have h1 := HE.out.trans hst1.out; rw [hrr.out, if_pos hne] at h1; rw [hcon.out, h1, if_pos hne]
          clear hne
          go_wp2_with (first | (go_at_call 96; refine (c96 _ _ _ _).mono ?_; rintro e w' ⟨rfl, rfl⟩))
          go_ret
          exact ⟨ret_int hnx.out.symm, hB2⟩
      · have hix := idxR5 wr
        clear a0 a1 a2 a3 a4 a5 a6 a7 a8
        go_wp2_with (refine wpList_store_blk rfl 206 _ _ rfl wr.heap.size _ rfl rfl (heap_new rfl) ?s1 ?s2 ?s3 ?_)
        case s1 => rfl
        case s2 => kernel_rfl
        case s3 => simp [Value.oneCell']
        intro wx h3 hg3 hs3
        have hBa : Below wr.heap.size wr wx := ((show Below wr.heap.size wr (wr.alloc _) from (Below.refl _ _).alloc (Nat.le_refl _) _)).grown hg3 (by simp) (fun j hj => by cases hj; exact Nat.le_refl _)
        have hTx := (hBa.block _ hz).trans hT
        have hf1 : wx.cell? ⟨wr.heap.size, 1, none⟩ = some (.func (.func 160) #[] #[]) := cell_at h3 rfl
        have b0 : wx.cell? ⟨w.heap.size, 0, none⟩ = some (.int .i64 (c.r 0)) := cell_at hTx rfl
        have b1 : wx.cell? ⟨w.heap.size, 1, none⟩ = some (.int .i64 (c.r 1)) := cell_at hTx rfl
        have b2 : wx.cell? ⟨w.heap.size, 2, none⟩ = some (.int .i64 (c.r 2)) := cell_at hTx rfl
        have b3 : wx.cell? ⟨w.heap.size, 3, none⟩ = some (.int .i64 (c.r 3)) := cell_at hTx rfl
        have b4 : wx.cell? ⟨w.heap.size, 4, none⟩ = some (.int .i64 (c.r 4)) := cell_at hTx rfl
        have b5 : wx.cell? ⟨w.heap.size, 5, none⟩ = some (.int .i64 (c.r 5)) := cell_at hTx rfl
        have b6 : wx.cell? ⟨w.heap.size, 6, none⟩ = some (.int .i64 c.free) := cell_at hTx rfl
        have b7 : wx.cell? ⟨w.heap.size, 7, none⟩ = some (.int .i64 c.bonus) := cell_at hTx rfl
        have b8 : wx.cell? ⟨w.heap.size, 8, none⟩ = some (.int .i64 c.pen) := cell_at hTx rfl
        clear h3 hg3 hTx
        go_wp2_with fail
        refine (c160 c _).mono ?_
        rintro e w2 ⟨rfl, hb2⟩
        have hb2' := fin0 hBa hb2
        have hB2 := fin0 hB hb2'
        have hT2 := (hb2'.block _ hz).trans hT
        clear hb2 hb2' hBa hf1 b0 b1 b2 b3 b4 b5 b6 b7 b8
        have hrr : Hid (Mo.rr c 5 = Mo.range (c.r 5) (-10000) 10000) := rfl
        by_cases hne : Mo.range (c.r 5) (-10000) 10000 = 0
        · have hne' : (Mo.range (c.r 5) (-10000) 10000 != 0) = false := by simp [hne]
          have hnx : Hid (Mo.first rs = Mo.first (rs.drop (5 + 1))) := by show _ = _; rw [HE.out, hst1.out, if_neg (by rw [hrr.out]; simp [hne])]
          clear hne
          go_wp2_with (first | (go_at_call 96; refine (c96 _ _ _ _).mono ?_; rintro e w' ⟨rfl, rfl⟩))
          go_roundw
          case rel => exact ⟨6, by omega, rfl, hB2, hT2, hnx.out⟩
          case measure => simp [intOf]
        · have hne' : (Mo.range (c.r 5) (-10000) 10000 != 0) = true := by simpa using hne
          have hnx : Hid (Mo.con c = Mo.range (c.r 5) (-10000) 10000) := by show _ = _; have h1 := HE.out.trans hst1.out; rw [hrr.out, if_pos hne] at h1; rw [hcon.out, h1, if_pos hne]
          clear hne
          go_wp2_with (first | (go_at_call 96; refine (c96 _ _ _ _).mono ?_; rintro e w' ⟨rfl, rfl⟩))
          go_ret
          exact ⟨ret_int hnx.out.symm, hB2⟩
    · obtain rfl : k = 6 := by omega
      have hfin : Hid (Mo.con c = Mo.first [Mo.range c.free 0 100000, Mo.range c.bonus 0 10000, Mo.range c.pen 0 10000]) := by show _ = _; rw [hcon.out, HE.out, hend.out, if_neg (by simp)]; exact h3.out
      go_wp2
      refine wp_region_splitG 9 (by kernel_rfl) (by kernel_rfl) ?_
      simp only [List.take_succ_cons, List.take_zero, List.drop_succ_cons, List.drop_zero]
      repeat (go_big_quiet_step ((first | (go_at_call 96; exact Calls.gw_same (c96 _ _ _ _)))))
      refine wpQuiet_nil (gw_out ?_)
      intro w1 hb1
      go_wp2_with (first | (go_at_call 94; refine (c94 _ 3 _ [Mo.range c.free 0 100000, Mo.range c.bonus 0 10000, Mo.range c.pen 0 10000] _ rfl (by omega) ?_).mono ?_; (first | exact RdS.of_new (by simp) rfl | exact RdS.drew (RdS.of_new (by simp) rfl)); rintro e w' ⟨rfl, rfl⟩))
      go_ret
      exact ⟨ret_int hfin.out.symm, fin1 hB hb1 _⟩
theorem c74 (c : Con) (w : World) : Calls Tryz.prog 74 #[.agg #[.int .i64 (c.r 0), .int .i64 (c.r 1), .int .i64 (c.r 2), .int .i64 (c.r 3), .int .i64 (c.r 4), .int .i64 (c.r 5), .int .i64 c.free, .int .i64 c.bonus, .int .i64 c.pen]] w fun en w' => en = .returned (.int .i64 (Mo.con c)) ∧ Below w.heap.size w w' := by
  obtain ⟨W, hW⟩ : ∃ W, W = (w.alloc (Obj.cells #[.int .i64 (c.r 0), .int .i64 (c.r 1), .int .i64 (c.r 2), .int .i64 (c.r 3), .int .i64 (c.r 4), .int .i64 (c.r 5), .int .i64 c.free, .int .i64 c.bonus, .int .i64 c.pen] 122)).alloc (Obj.cells #[.int .i64 (c.r 0), .int .i64 (c.r 1), .int .i64 (c.r 2), .int .i64 (c.r 3), .int .i64 (c.r 4), .int .i64 (c.r 5)] 3) := ⟨_, rfl⟩
  have hB : Below w.heap.size w W := by rw [hW]; exact (((Below.refl _ _).alloc (by first | omega | (simp <;> omega)) _).alloc (by first | omega | (simp <;> omega)) _)
  have hT0 : W.heap[w.heap.size]? = some (Obj.cells #[.int .i64 (c.r 0), .int .i64 (c.r 1), .int .i64 (c.r 2), .int .i64 (c.r 3), .int .i64 (c.r 4), .int .i64 (c.r 5), .int .i64 c.free, .int .i64 c.bonus, .int .i64 c.pen] 122) := by rw [hW]; exact heap_old (by simp) (heap_new rfl)
  have hT1 : W.heap[w.heap.size + 1]? = some (Obj.cells #[.int .i64 (c.r 0), .int .i64 (c.r 1), .int .i64 (c.r 2), .int .i64 (c.r 3), .int .i64 (c.r 4), .int .i64 (c.r 5)] 3) := by rw [hW]; exact heap_new (by simp)
  have a0 : W.cell? ⟨w.heap.size, 0, none⟩ = some (.int .i64 (c.r 0)) := cell_at hT0 rfl
  have a1 : W.cell? ⟨w.heap.size, 1, none⟩ = some (.int .i64 (c.r 1)) := cell_at hT0 rfl
  have a2 : W.cell? ⟨w.heap.size, 2, none⟩ = some (.int .i64 (c.r 2)) := cell_at hT0 rfl
  have a3 : W.cell? ⟨w.heap.size, 3, none⟩ = some (.int .i64 (c.r 3)) := cell_at hT0 rfl
  have a4 : W.cell? ⟨w.heap.size, 4, none⟩ = some (.int .i64 (c.r 4)) := cell_at hT0 rfl
  have a5 : W.cell? ⟨w.heap.size, 5, none⟩ = some (.int .i64 (c.r 5)) := cell_at hT0 rfl
  have a6 : W.cell? ⟨w.heap.size, 6, none⟩ = some (.int .i64 c.free) := cell_at hT0 rfl
  have a7 : W.cell? ⟨w.heap.size, 7, none⟩ = some (.int .i64 c.bonus) := cell_at hT0 rfl
  have a8 : W.cell? ⟨w.heap.size, 8, none⟩ = some (.int .i64 c.pen) := cell_at hT0 rfl
  have hz : w.heap.size + 1 < W.heap.size := (Array.getElem?_eq_some_iff.1 hT1).1
  have hcs : ∀ k : Nat, k < 6 → Hid (W.cell? ⟨w.heap.size + 1, k, none⟩ = some (.int .i64 (c.r k))) := fun k hk => by
    show _ = _
    match k, hk with
    | 0, _ => exact cell_at hT1 rfl
    | 1, _ => exact cell_at hT1 rfl
    | 2, _ => exact cell_at hT1 rfl
    | 3, _ => exact cell_at hT1 rfl
    | 4, _ => exact cell_at hT1 rfl
    | 5, _ => exact cell_at hT1 rfl
  obtain ⟨rs, hrs⟩ : ∃ rs, rs = (List.range 6).map (Mo.rr c) := ⟨_, rfl⟩
  have hcon : Hid (Mo.con c = if Mo.first rs ≠ 0 then Mo.first rs else Mo.con3 c) := by show _ = _; rw [hrs]; rfl
  have hst : ∀ k, k < 6 → Hid (Mo.first (rs.drop k) = if Mo.rr c k ≠ 0 then Mo.rr c k else Mo.first (rs.drop (k + 1))) := fun k hk => by
    show _ = _
    rw [hrs]; exact Mo.first_range 6 k (Mo.rr c) hk
  have hend : Hid (Mo.first (rs.drop 6) = 0) := by show _ = _; rw [hrs]; exact Mo.first_range_end 6 6 (Mo.rr c) (Nat.le_refl _)
  have h3 : Hid (Mo.con3 c = Mo.first [Mo.range c.free 0 100000, Mo.range c.bonus 0 10000, Mo.range c.pen 0 10000]) := rfl
  clear hrs hT0 hT1
  go_enter Tryz.func74, Tryz.ntmps74
  go_wp2
  rw [← hW]
  clear hW
  go_loop [4] (fun i => ∃ k : Nat, k ≤ 6 ∧ i = .int .i64 k ∧ Mo.first rs = Mo.first (rs.drop k)) (fun i => 6 - (intOf i).toNat)
  case atStart => exact ⟨0, Nat.zero_le _, rfl, rfl⟩
  case round =>
    obtain ⟨k, hk, rfl, he⟩ := hrel
    have HE := Lib.hid he
    clear he
    by_cases hlt : k < 6
    · have hst1 := hst k hlt
      have q0 := (hcs k hlt).out
      have hx1 : (0 : Int) ≤ (k : Int) := by omega
      have hx2 : (k : Int) < 6 := by omega
      have hrr : Hid (Mo.rr c k = Mo.range (c.r k) (-10000) 10000) := rfl
      by_cases hne : Mo.range (c.r k) (-10000) 10000 = 0
      · have hne' : (Mo.range (c.r k) (-10000) 10000 != 0) = false := by simp [hne]
        have hnx : Hid (Mo.first rs = Mo.first (rs.drop (k + 1))) := by show _ = _; rw [HE.out, hst1.out, if_neg (by rw [hrr.out]; simp [hne])]
        clear hne
        go_wp2_with (first | (go_at_call 49; refine (c49 _ _ _ _).mono ?_; rintro e w' ⟨rfl, rfl⟩))
        go_round
        case rel => exact ⟨k+1, by omega, by go_num, hnx.out⟩
        case measure => simp [intOf]; omega
      · have hne' : (Mo.range (c.r k) (-10000) 10000 != 0) = true := by simpa using hne
        have hnx : Hid (Mo.con c = Mo.range (c.r k) (-10000) 10000) := by show _ = _; have h1 := HE.out.trans hst1.out; rw [hrr.out, if_pos hne] at h1; rw [hcon.out, h1, if_pos hne]
        clear hne
        go_wp2_with (first | (go_at_call 49; refine (c49 _ _ _ _).mono ?_; rintro e w' ⟨rfl, rfl⟩))
        go_ret
        exact ⟨ret_int hnx.out.symm, hB⟩
    · obtain rfl : k = 6 := by omega
      have hfin : Hid (Mo.con c = Mo.first [Mo.range c.free 0 100000, Mo.range c.bonus 0 10000, Mo.range c.pen 0 10000]) := by show _ = _; rw [hcon.out, HE.out, hend.out, if_neg (by simp)]; exact h3.out
      go_wp2
      have hz0 : w.heap.size < W.heap.size := by omega
      refine wp_region_splitG 9 (by kernel_rfl) (by kernel_rfl) ?_
      simp only [List.take_succ_cons, List.take_zero, List.drop_succ_cons, List.drop_zero]
      repeat (go_big_quiet_step ((first | (go_at_call 49; exact Calls.gw_same (c49 _ _ _ _)))))
      refine wpQuiet_nil (gw_out ?_)
      intro w1 hb1
      go_wp2_with (first | (go_at_call 92; refine (c92 _ 3 _ [Mo.range c.free 0 100000, Mo.range c.bonus 0 10000, Mo.range c.pen 0 10000] _ rfl (by omega) ?_).mono ?_; (first | exact RdS.of_new (by simp) rfl | exact RdS.drew (RdS.of_new (by simp) rfl)); rintro e w' ⟨rfl, rfl⟩))
      go_ret
      exact ⟨ret_int hfin.out.symm, fin1 hB hb1 _⟩

end Go.Proofs.YtndhjkammoeikaaGreatDoor
namespace Go.Proofs.YtndhjkammoeikaaGreatDoor
namespace Mo
def lett (b : Int) : Bool := (decide (65 ≤ b) && decide (b ≤ 90)) || (decide (97 ≤ b) && decide (b ≤ 122))
def digI (b : Int) : Bool := decide (48 ≤ b) && decide (b ≤ 57)
def byteAt (s : ByteArray) (i : Nat) : Nat := (s.get! i).toNat
def okc (s : ByteArray) (i : Nat) : Bool := lett (byteAt s i) || (decide (0 < i) && (digI (byteAt s i) || (byteAt s i == 95)))
def okAll (s : ByteArray) : Nat → Bool
  | 0 => true
  | k+1 => okAll s k && okc s k
def isName (s : ByteArray) : Bool := decide (0 < s.size ∧ s.size ≤ 24) && okAll s s.size
theorem okAll_false (s : ByteArray) {k n : Nat} (h : okc s k = false) (hk : k < n) : okAll s n = false := by
  induction n with
  | zero => omega
  | succ n ih =>
    unfold okAll
    by_cases hn : k = n
    · subst hn; rw [h]; simp
    · rw [ih (by omega)]; rfl
theorem isName_false (s : ByteArray) {k : Nat} (h : okc s k = false) (hk : k < s.size) : isName s = false := by
  unfold isName; rw [okAll_false s h hk]; simp
theorem byteAt_eq (s : ByteArray) (i : Nat) (h : i < s.size) : byteAt s i = (s[i]'h).toNat := by
  unfold byteAt
  have : s.get! i = s[i]'h := by
    show s.data[i]! = s.data[i]
    exact getElem!_pos s.data i h
  rw [this]
theorem byteAt_lt (s : ByteArray) (i : Nat) : byteAt s i < 256 := (s.get! i).toNat_lt
/-- the program's way: at a byte that is no letter .. -/
theorem okc_hi (s : ByteArray) (i : Nat) (h : 128 ≤ byteAt s i) : okc s i = false := by
  unfold okc lett digI
  have h1 : ¬ ((byteAt s i : Int) ≤ 90) := by omega
  have h2 : ¬ ((byteAt s i : Int) ≤ 122) := by omega
  have h3 : ¬ ((byteAt s i : Int) ≤ 57) := by omega
  have h4 : ¬ (byteAt s i = 95) := by omega
  simp [h1, h2, h3, h4]
def names1 (s : ByteArray) : Int := when (!(isName s)) 8
end Mo
end Go.Proofs.YtndhjkammoeikaaGreatDoor
namespace Go.Proofs.YtndhjkammoeikaaGreatDoor
open Go.RowKit
set_option maxHeartbeats 1000000
set_option maxRecDepth 20000

theorem c173 (b : Int) (w : World) : Calls Tryz.prog 173 #[.int .u8 b] w fun en w' => en = .returned (.bool (Mo.digI b)) ∧ w = w' := by
  by_cases h1 : 48 ≤ b <;> by_cases h2 : b ≤ 57
  all_goals
    go_enter Tryz.func173, Tryz.ntmps173
    go_wp2
    go_ret
    exact ⟨ret_bool (by simp [Mo.digI, h1, h2]), rfl⟩
theorem c177 (b : Int) (w : World) : Calls Tryz.prog 177 #[.int .u8 b] w fun en w' => en = .returned (.bool (Mo.lett b)) ∧ w = w' := by
  rcases (show b < 65 ∨ (65 ≤ b ∧ b ≤ 90) ∨ (90 < b ∧ b < 97) ∨ (97 ≤ b ∧ b ≤ 122) ∨ 122 < b by omega) with h | h | h | h | h
  · have h1 : ¬ (65 ≤ b) := by omega
    have h2 : (b ≤ 90) := by omega
    have h3 : ¬ (97 ≤ b) := by omega
    have h4 : (b ≤ 122) := by omega
    clear h
    go_enter Tryz.func177, Tryz.ntmps177
    go_wp2
    go_ret
    exact ⟨ret_bool (by simp [Mo.lett, h1, h2, h3, h4]), rfl⟩
  · have h1 : (65 ≤ b) := by omega
    have h2 : (b ≤ 90) := by omega
    have h3 : ¬ (97 ≤ b) := by omega
    have h4 : (b ≤ 122) := by omega
    clear h
    go_enter Tryz.func177, Tryz.ntmps177
    go_wp2
    go_ret
    exact ⟨ret_bool (by simp [Mo.lett, h1, h2, h3, h4]), rfl⟩
  · have h1 : (65 ≤ b) := by omega
    have h2 : ¬ (b ≤ 90) := by omega
    have h3 : ¬ (97 ≤ b) := by omega
    have h4 : (b ≤ 122) := by omega
    clear h
    go_enter Tryz.func177, Tryz.ntmps177
    go_wp2
    go_ret
    exact ⟨ret_bool (by simp [Mo.lett, h1, h2, h3, h4]), rfl⟩
  · have h1 : (65 ≤ b) := by omega
    have h2 : ¬ (b ≤ 90) := by omega
    have h3 : (97 ≤ b) := by omega
    have h4 : (b ≤ 122) := by omega
    clear h
    go_enter Tryz.func177, Tryz.ntmps177
    go_wp2
    go_ret
    exact ⟨ret_bool (by simp [Mo.lett, h1, h2, h3, h4]), rfl⟩
  · have h1 : (65 ≤ b) := by omega
    have h2 : ¬ (b ≤ 90) := by omega
    have h3 : (97 ≤ b) := by omega
    have h4 : ¬ (b ≤ 122) := by omega
    clear h
    go_enter Tryz.func177, Tryz.ntmps177
    go_wp2
    go_ret
    exact ⟨ret_bool (by simp [Mo.lett, h1, h2, h3, h4]), rfl⟩

set_option maxHeartbeats 4000000 in
theorem c133 (s : ByteArray) (w : World) (hs : s.size ≤ 1000000) : Calls Tryz.prog 133 #[.string s] w fun en w' => en = .returned (.bool (Mo.isName s)) ∧ Below w.heap.size w w' := by
  go_enter Tryz.func133, Tryz.ntmps133
  go_wp2
  go_loopg [] (s.size + 1) (fun g wr => ∃ pos : Nat, pos + g = s.size + 1 ∧ pos ≤ s.size ∧ wr.heap[w.heap.size]? = some (.stringIter s pos) ∧ Below w.heap.size w wr ∧ Mo.okAll s pos = true)
  case atStart => exact ⟨0, by omega, Nat.zero_le _, World.iter_heap w s 0, (Below.refl _ _).alloc (Nat.le_refl _) _, rfl⟩
  case round =>
    obtain ⟨pos, hpg, hps, hit, hB, hok⟩ := hrel
    have HOK := Lib.hid hok
    clear hok
    by_cases hp : pos < s.size
    · have hb := Mo.byteAt_eq s pos hp
      by_cases ha : (s[pos]'hp).toNat < 128
      · have hnx : ∀ ty, (Instr.next (.pointer (some ⟨w.heap.size, 0, none⟩)) true ty).run Tryz.prog wr = _ := fun ty => Lib.run_next_ascii_at wr w.heap.size s pos ty hit hp ha
        have hit2 := Lib.iterAt_heap wr w.heap.size s pos (pos + 1) hit
        have hB2 := Lib.below_iterAt hB (k := w.heap.size) (Nat.le_refl _) s (pos + 1)
        obtain ⟨W1, hW1⟩ : ∃ W1, W1 = wr.iterAt w.heap.size s (pos + 1) := ⟨_, rfl⟩
        obtain ⟨c, hc⟩ : ∃ c : Nat, c = (s[pos]'hp).toNat := ⟨_, rfl⟩
        rw [← hc] at hnx ha hb
        rw [← hW1] at hnx hit2 hB2
        have HB := Lib.hid hb
        clear hb hc hW1 hit hB
        rcases (show (0 ≤ c ∧ c ≤ 47) ∨ (48 ≤ c ∧ c ≤ 57) ∨ (58 ≤ c ∧ c ≤ 64) ∨ (65 ≤ c ∧ c ≤ 90) ∨ (91 ≤ c ∧ c ≤ 94) ∨ (95 ≤ c ∧ c ≤ 95) ∨ (96 ≤ c ∧ c ≤ 96) ∨ (97 ≤ c ∧ c ≤ 122) ∨ (123 ≤ c ∧ c ≤ 127) by omega) with h | h | h | h | h | h | h | h | h
        · have f0 : ¬ (65 ≤ (c : Int)) := by omega
          have f1 : ((c : Int) ≤ 90) := by omega
          have f2 : ¬ (97 ≤ (c : Int)) := by omega
          have f3 : ((c : Int) ≤ 122) := by omega
          have f4 : ¬ (48 ≤ (c : Int)) := by omega
          have f5 : ((c : Int) ≤ 57) := by omega
          have f6 : ((c : Int) == 95) = false := by simp; omega
          have f7 : (c == 95) = false := by simp; omega
          have hl : Mo.lett (c : Int) = false := by simp [Mo.lett, f0, f1, f2, f3]
          have hd : (Mo.digI (c : Int) || (c == 95)) = false := by simp [Mo.digI, f4, f5, f7]
          rcases Nat.eq_zero_or_pos pos with hp0 | hp0
          · subst hp0
            have hx : Hid (Mo.isName s = false) := by show _ = _; exact Mo.isName_false s (k := 0) (by unfold Mo.okc; rw [HB.out, hl]; rfl) hp
            clear h f7 hl hd
            go_wp2
            go_ret
            exact ⟨ret_bool hx.out.symm, hB2⟩
          · have hx : Hid (Mo.isName s = false) := by show _ = _; exact Mo.isName_false s (k := pos) (by unfold Mo.okc; rw [HB.out, hl, hd]; simp) hp
            have hp1 : ((pos : Int) == 0) = false := by simp; omega
            clear h f7 hl hd
            go_wp2
            go_ret
            exact ⟨ret_bool hx.out.symm, hB2⟩
        · have f0 : ¬ (65 ≤ (c : Int)) := by omega
          have f1 : ((c : Int) ≤ 90) := by omega
          have f2 : ¬ (97 ≤ (c : Int)) := by omega
          have f3 : ((c : Int) ≤ 122) := by omega
          have f4 : (48 ≤ (c : Int)) := by omega
          have f5 : ((c : Int) ≤ 57) := by omega
          have f6 : ((c : Int) == 95) = false := by simp; omega
          have f7 : (c == 95) = false := by simp; omega
          have hl : Mo.lett (c : Int) = false := by simp [Mo.lett, f0, f1, f2, f3]
          have hd : (Mo.digI (c : Int) || (c == 95)) = true := by simp [Mo.digI, f4, f5, f7]
          rcases Nat.eq_zero_or_pos pos with hp0 | hp0
          · subst hp0
            have hx : Hid (Mo.isName s = false) := by show _ = _; exact Mo.isName_false s (k := 0) (by unfold Mo.okc; rw [HB.out, hl]; rfl) hp
            clear h f7 hl hd
            go_wp2
            go_ret
            exact ⟨ret_bool hx.out.symm, hB2⟩
          · have hx : Hid (Mo.okAll s (pos + 1) = true) := by show _ = _; unfold Mo.okAll Mo.okc; rw [HOK.out, HB.out, hl, hd]; simp [hp0]
            have hp1 : ((pos : Int) == 0) = false := by simp; omega
            clear h f7 hl hd
            go_wp2
            go_roundg (s.size + 1 - (pos + 1))
            case measure => omega
            case rel => exact ⟨pos + 1, by omega, by omega, hit2, hB2, hx.out⟩
        · have f0 : ¬ (65 ≤ (c : Int)) := by omega
          have f1 : ((c : Int) ≤ 90) := by omega
          have f2 : ¬ (97 ≤ (c : Int)) := by omega
          have f3 : ((c : Int) ≤ 122) := by omega
          have f4 : (48 ≤ (c : Int)) := by omega
          have f5 : ¬ ((c : Int) ≤ 57) := by omega
          have f6 : ((c : Int) == 95) = false := by simp; omega
          have f7 : (c == 95) = false := by simp; omega
          have hl : Mo.lett (c : Int) = false := by simp [Mo.lett, f0, f1, f2, f3]
          have hd : (Mo.digI (c : Int) || (c == 95)) = false := by simp [Mo.digI, f4, f5, f7]
          rcases Nat.eq_zero_or_pos pos with hp0 | hp0
          · subst hp0
            have hx : Hid (Mo.isName s = false) := by show _ = _; exact Mo.isName_false s (k := 0) (by unfold Mo.okc; rw [HB.out, hl]; rfl) hp
            clear h f7 hl hd
            go_wp2
            go_ret
            exact ⟨ret_bool hx.out.symm, hB2⟩
          · have hx : Hid (Mo.isName s = false) := by show _ = _; exact Mo.isName_false s (k := pos) (by unfold Mo.okc; rw [HB.out, hl, hd]; simp) hp
            have hp1 : ((pos : Int) == 0) = false := by simp; omega
            clear h f7 hl hd
            go_wp2
            go_ret
            exact ⟨ret_bool hx.out.symm, hB2⟩
        · have f0 : (65 ≤ (c : Int)) := by omega
          have f1 : ((c : Int) ≤ 90) := by omega
          have f2 : ¬ (97 ≤ (c : Int)) := by omega
          have f3 : ((c : Int) ≤ 122) := by omega
          have f4 : (48 ≤ (c : Int)) := by omega
          have f5 : ¬ ((c : Int) ≤ 57) := by omega
          have f6 : ((c : Int) == 95) = false := by simp; omega
          have f7 : (c == 95) = false := by simp; omega
          have hl : Mo.lett (c : Int) = true := by simp [Mo.lett, f0, f1, f2, f3]
          have hd : (Mo.digI (c : Int) || (c == 95)) = false := by simp [Mo.digI, f4, f5, f7]
          have hx : Hid (Mo.okAll s (pos + 1) = true) := by show _ = _; unfold Mo.okAll Mo.okc; rw [HOK.out, HB.out, hl]; rfl
          clear h f7 hl hd
          go_wp2
          go_roundg (s.size + 1 - (pos + 1))
          case measure => omega
          case rel => exact ⟨pos + 1, by omega, by omega, hit2, hB2, hx.out⟩
        · have f0 : (65 ≤ (c : Int)) := by omega
          have f1 : ¬ ((c : Int) ≤ 90) := by omega
          have f2 : ¬ (97 ≤ (c : Int)) := by omega
          have f3 : ((c : Int) ≤ 122) := by omega
          have f4 : (48 ≤ (c : Int)) := by omega
          have f5 : ¬ ((c : Int) ≤ 57) := by omega
          have f6 : ((c : Int) == 95) = false := by simp; omega
          have f7 : (c == 95) = false := by simp; omega
          have hl : Mo.lett (c : Int) = false := by simp [Mo.lett, f0, f1, f2, f3]
          have hd : (Mo.digI (c : Int) || (c == 95)) = false := by simp [Mo.digI, f4, f5, f7]
          rcases Nat.eq_zero_or_pos pos with hp0 | hp0
          · subst hp0
            have hx : Hid (Mo.isName s = false) := by show _ = _; exact Mo.isName_false s (k := 0) (by unfold Mo.okc; rw [HB.out, hl]; rfl) hp
            clear h f7 hl hd
            go_wp2
            go_ret
            exact ⟨ret_bool hx.out.symm, hB2⟩
          · have hx : Hid (Mo.isName s = false) := by show _ = _; exact Mo.isName_false s (k := pos) (by unfold Mo.okc; rw [HB.out, hl, hd]; simp) hp
            have hp1 : ((pos : Int) == 0) = false := by simp; omega
            clear h f7 hl hd
            go_wp2
            go_ret
            exact ⟨ret_bool hx.out.symm, hB2⟩
        · have f0 : (65 ≤ (c : Int)) := by omega
          have f1 : ¬ ((c : Int) ≤ 90) := by omega
          have f2 : ¬ (97 ≤ (c : Int)) := by omega
          have f3 : ((c : Int) ≤ 122) := by omega
          have f4 : (48 ≤ (c : Int)) := by omega
          have f5 : ¬ ((c : Int) ≤ 57) := by omega
          have f6 : ((c : Int) == 95) = true := by simp; omega
          have f7 : (c == 95) = true := by simp; omega
          have hl : Mo.lett (c : Int) = false := by simp [Mo.lett, f0, f1, f2, f3]
          have hd : (Mo.digI (c : Int) || (c == 95)) = true := by simp [Mo.digI, f4, f5, f7]
          rcases Nat.eq_zero_or_pos pos with hp0 | hp0
          · subst hp0
            have hx : Hid (Mo.isName s = false) := by show _ = _; exact Mo.isName_false s (k := 0) (by unfold Mo.okc; rw [HB.out, hl]; rfl) hp
            clear h f7 hl hd
            go_wp2
            go_ret
            exact ⟨ret_bool hx.out.symm, hB2⟩
          · have hx : Hid (Mo.okAll s (pos + 1) = true) := by show _ = _; unfold Mo.okAll Mo.okc; rw [HOK.out, HB.out, hl, hd]; simp [hp0]
            have hp1 : ((pos : Int) == 0) = false := by simp; omega
            clear h f7 hl hd
            go_wp2
            go_roundg (s.size + 1 - (pos + 1))
            case measure => omega
            case rel => exact ⟨pos + 1, by omega, by omega, hit2, hB2, hx.out⟩
        · have f0 : (65 ≤ (c : Int)) := by omega
          have f1 : ¬ ((c : Int) ≤ 90) := by omega
          have f2 : ¬ (97 ≤ (c : Int)) := by omega
          have f3 : ((c : Int) ≤ 122) := by omega
          have f4 : (48 ≤ (c : Int)) := by omega
          have f5 : ¬ ((c : Int) ≤ 57) := by omega
          have f6 : ((c : Int) == 95) = false := by simp; omega
          have f7 : (c == 95) = false := by simp; omega
          have hl : Mo.lett (c : Int) = false := by simp [Mo.lett, f0, f1, f2, f3]
          have hd : (Mo.digI (c : Int) || (c == 95)) = false := by simp [Mo.digI, f4, f5, f7]
          rcases Nat.eq_zero_or_pos pos with hp0 | hp0
          · subst hp0
            have hx : Hid (Mo.isName s = false) := by show _ = _; exact Mo.isName_false s (k := 0) (by unfold Mo.okc; rw [HB.out, hl]; rfl) hp
            clear h f7 hl hd
            go_wp2
            go_ret
            exact ⟨ret_bool hx.out.symm, hB2⟩
          · have hx : Hid (Mo.isName s = false) := by show _ = _; exact Mo.isName_false s (k := pos) (by unfold Mo.okc; rw [HB.out, hl, hd]; simp) hp
            have hp1 : ((pos : Int) == 0) = false := by simp; omega
            clear h f7 hl hd
            go_wp2
            go_ret
            exact ⟨ret_bool hx.out.symm, hB2⟩
        · have f0 : (65 ≤ (c : Int)) := by omega
          have f1 : ¬ ((c : Int) ≤ 90) := by omega
          have f2 : (97 ≤ (c : Int)) := by omega
          have f3 : ((c : Int) ≤ 122) := by omega
          have f4 : (48 ≤ (c : Int)) := by omega
          have f5 : ¬ ((c : Int) ≤ 57) := by omega
          have f6 : ((c : Int) == 95) = false := by simp; omega
          have f7 : (c == 95) = false := by simp; omega
          have hl : Mo.lett (c : Int) = true := by simp [Mo.lett, f0, f1, f2, f3]
          have hd : (Mo.digI (c : Int) || (c == 95)) = false := by simp [Mo.digI, f4, f5, f7]
          have hx : Hid (Mo.okAll s (pos + 1) = true) := by show _ = _; unfold Mo.okAll Mo.okc; rw [HOK.out, HB.out, hl]; rfl
          clear h f7 hl hd
          go_wp2
          go_roundg (s.size + 1 - (pos + 1))
          case measure => omega
          case rel => exact ⟨pos + 1, by omega, by omega, hit2, hB2, hx.out⟩
        · have f0 : (65 ≤ (c : Int)) := by omega
          have f1 : ¬ ((c : Int) ≤ 90) := by omega
          have f2 : (97 ≤ (c : Int)) := by omega
          have f3 : ¬ ((c : Int) ≤ 122) := by omega
          have f4 : (48 ≤ (c : Int)) := by omega
          have f5 : ¬ ((c : Int) ≤ 57) := by omega
          have f6 : ((c : Int) == 95) = false := by simp; omega
          have f7 : (c == 95) = false := by simp; omega
          have hl : Mo.lett (c : Int) = false := by simp [Mo.lett, f0, f1, f2, f3]
          have hd : (Mo.digI (c : Int) || (c == 95)) = false := by simp [Mo.digI, f4, f5, f7]
          rcases Nat.eq_zero_or_pos pos with hp0 | hp0
          · subst hp0
            have hx : Hid (Mo.isName s = false) := by show _ = _; exact Mo.isName_false s (k := 0) (by unfold Mo.okc; rw [HB.out, hl]; rfl) hp
            clear h f7 hl hd
            go_wp2
            go_ret
            exact ⟨ret_bool hx.out.symm, hB2⟩
          · have hx : Hid (Mo.isName s = false) := by show _ = _; exact Mo.isName_false s (k := pos) (by unfold Mo.okc; rw [HB.out, hl, hd]; simp) hp
            have hp1 : ((pos : Int) == 0) = false := by simp; omega
            clear h f7 hl hd
            go_wp2
            go_ret
            exact ⟨ret_bool hx.out.symm, hB2⟩
      · have hnx : ∀ ty, (Instr.next (.pointer (some ⟨w.heap.size, 0, none⟩)) true ty).run Tryz.prog wr = _ := fun ty => Lib.run_next_any_at wr w.heap.size s pos ty hit hp
        have hB2 := Lib.below_iterAt hB (k := w.heap.size) (Nat.le_refl _) s (pos + (Utf8.decode s pos).2)
        have hdh := (decode_high s pos hp (by omega)).1
        have hx : Hid (Mo.isName s = false) := by show _ = _; exact Mo.isName_false s (k := pos) (Mo.okc_hi s pos (by omega)) hp
        obtain ⟨W1, hW1⟩ : ∃ W1, W1 = wr.iterAt w.heap.size s (pos + (Utf8.decode s pos).2) := ⟨_, rfl⟩
        obtain ⟨c, hc⟩ : ∃ c : Nat, c = (Utf8.decode s pos).1 := ⟨_, rfl⟩
        rw [← hc] at hnx hdh
        rw [← hW1] at hnx hB2
        have f0 : 65 ≤ (c : Int) := by omega
        have f1 : ¬ ((c : Int) ≤ 90) := by omega
        have f2 : 97 ≤ (c : Int) := by omega
        have f3 : ¬ ((c : Int) ≤ 122) := by omega
        have f4 : 48 ≤ (c : Int) := by omega
        have f5 : ¬ ((c : Int) ≤ 57) := by omega
        have f6 : ((c : Int) == 95) = false := by simp; omega
        clear hb hc hW1 hit hB
        rcases Nat.eq_zero_or_pos pos with hp0 | hp0
        · subst hp0
          go_wp2
          go_ret
          exact ⟨ret_bool hx.out.symm, hB2⟩
        · have hp1 : ((pos : Int) == 0) = false := by simp; omega
          go_wp2
          go_ret
          exact ⟨ret_bool hx.out.symm, hB2⟩
    · have hnx : ∀ ty, (Instr.next (.pointer (some ⟨w.heap.size, 0, none⟩)) true ty).run Tryz.prog wr = _ := fun ty => Lib.run_next_end_at wr w.heap.size s pos ty hit hp
      have hpe : pos = s.size := by omega
      have hok2 := HOK.out
      rw [hpe] at hok2
      have hbE : ∀ b : Bool, decide (0 < s.size ∧ s.size ≤ 24) = b → Hid (Mo.isName s = b) := fun b hb => by
        show _ = _
        unfold Mo.isName; rw [hok2, hb]; cases b <;> rfl
      clear hpe hok2 hit
      by_cases h0 : s.size = 0
      · have hx := hbE false (by simp; omega)
        have hse : s = ByteArray.empty := by
          cases s with | mk d =>
          have : d.size = 0 := h0
          have hd : d = #[] := Array.eq_empty_of_size_eq_zero this
          subst hd; rfl
        have hE : s.toList.isEmpty = true := by rw [hse, ByteArray.toList_eq]; rfl
        go_wp2
        go_ret
        exact ⟨ret_bool hx.out.symm, hB⟩
      · have hE : s.toList.isEmpty = false := by
          rw [ByteArray.toList_eq]
          have : s.data.toList.length ≠ 0 := by simpa using h0
          cases hh : s.data.toList with
          | nil => rw [hh] at this; exact absurd rfl this
          | cons _ _ => rfl
        by_cases h24 : s.size ≤ 24
        · have hx := hbE true (by simp; omega)
          have h24' : (s.size : Int) ≤ 24 := by omega
          go_wp2
          go_ret
          exact ⟨ret_bool hx.out.symm, hB⟩
        · have hx := hbE false (by simp; omega)
          have h24' : ¬ ((s.size : Int) ≤ 24) := by omega
          go_wp2
          go_ret
          exact ⟨ret_bool hx.out.symm, hB⟩
theorem idxS (s : ByteArray) (i : Nat) (h : i < s.size) (w : World) : (Instr.index 9 (.string s) (.int .i64 i)).run Tryz.prog w = .ok (.int .u8 (Mo.byteAt s i)) w := by
  rw [Mo.byteAt_eq s i h]
  have hi : (i : Int).toNat = i := by omega
  have hg : s[i]? = some (s[i]'h) := getElem?_pos s i h
  simp [Instr.index, asIntOf, run_underlying Tryz.underlying9, hg]
theorem c162 (s : ByteArray) (w : World) (hs : s.size ≤ 1000000) : Calls Tryz.prog 162 #[.string s] w fun en w' => en = .returned (.bool (Mo.isName s)) ∧ w = w' := by
  have A177 := fun b (W : World) => Lib.hid (c177 b W)
  by_cases h0 : s.size = 0
  · have hx : Hid (Mo.isName s = false) := by show _ = _; unfold Mo.isName; simp [h0]
    go_enter Tryz.func162, Tryz.ntmps162
    go_wp2
    go_ret
    exact ⟨ret_bool hx.out.symm, rfl⟩
  · have h0' : ((s.size : Int) == 0) = false := by rw [beq_eq_false_iff_ne]; omega
    have hpos : 0 < s.size := by omega
    by_cases h24 : s.size ≤ 24
    · have h24' : ¬ ((24 : Int) < (s.size : Int)) := by omega
      have hby := Mo.byteAt_eq s 0 hpos
      cases hl0 : Mo.lett ((s[0]'hpos).toNat : Int)
      · have hx : Hid (Mo.isName s = false) := by show _ = _; exact Mo.isName_false s (k := 0) (by unfold Mo.okc; rw [hby, hl0]; rfl) (by omega)
        go_enter Tryz.func162, Tryz.ntmps162
        go_wp2_with (first | (go_at_call 177; refine (A177 _ _).out.mono ?_; rintro e w' ⟨rfl, rfl⟩))
        go_ret
        exact ⟨ret_bool hx.out.symm, rfl⟩
      · have hok1 : Mo.okAll s 1 = true := by unfold Mo.okAll Mo.okAll Mo.okc; rw [hby, hl0]; rfl
        have hfin : Hid (Mo.okAll s s.size = true → Mo.isName s = true) := by
          show _ → _
          intro h; unfold Mo.isName; rw [h, decide_eq_true (show 0 < s.size ∧ s.size ≤ 24 by omega)]; rfl
        have hs1 : 1 ≤ s.size := by omega
        go_enter Tryz.func162, Tryz.ntmps162
        go_wp2_with (first | (go_at_call 177; refine (A177 _ _).out.mono ?_; rintro e w' ⟨rfl, rfl⟩))
        clear hby hl0
        go_loop [3] (fun i => ∃ k : Nat, 1 ≤ k ∧ k ≤ s.size ∧ i = .int .i64 k ∧ Mo.okAll s k = true) (fun i => s.size - (intOf i).toNat)
        case atStart => exact ⟨1, Nat.le_refl _, hs1, rfl, hok1⟩
        case round =>
          obtain ⟨k, hk1, hk, rfl, hok⟩ := hrel
          have HOK := Lib.hid hok
          clear hok
          by_cases hlt : k < s.size
          · have hby := Mo.byteAt_eq s k hlt
            have hx1 : (0 : Int) ≤ (k : Int) := by omega
            cases hl : Mo.lett ((s[k]'hlt).toNat : Int)
            · cases hd : Mo.digI ((s[k]'hlt).toNat : Int)
              · cases he : ((s[k]'hlt).toNat == 95)
                · have hx : Hid (Mo.isName s = false) := by show _ = _; exact Mo.isName_false s (k := k) (by unfold Mo.okc; rw [hby, hl, hd, he]; simp) hlt
                  have he' : (((s[k]'hlt).toNat : Int) != 95) = true := by rw [bne_iff_ne]; rw [beq_eq_false_iff_ne] at he; omega
                  clear he
                  go_wp2_with (first | (go_at_call 177; refine (A177 _ _).out.mono ?_; rintro e w' ⟨rfl, rfl⟩) | (go_at_call 173; refine (c173 _ _).mono ?_; rintro e w' ⟨rfl, rfl⟩))
                  go_ret
                  exact ⟨ret_bool hx.out.symm, rfl⟩
                · have hx : Hid (Mo.okAll s (k + 1) = true) := by show _ = _; unfold Mo.okAll Mo.okc; rw [HOK.out, hby, hl, hd, he]; simp; omega
                  have he' : (((s[k]'hlt).toNat : Int) != 95) = false := by rw [bne_eq_false_iff_eq]; rw [beq_iff_eq] at he; omega
                  clear he
                  go_wp2_with (first | (go_at_call 177; refine (A177 _ _).out.mono ?_; rintro e w' ⟨rfl, rfl⟩) | (go_at_call 173; refine (c173 _ _).mono ?_; rintro e w' ⟨rfl, rfl⟩))
                  go_round
                  case rel => exact ⟨k+1, by omega, by omega, by go_num, hx.out⟩
                  case measure => simp [intOf]; omega
              · have hx : Hid (Mo.okAll s (k + 1) = true) := by show _ = _; unfold Mo.okAll Mo.okc; rw [HOK.out, hby, hl, hd]; simp; omega
                go_wp2_with (first | (go_at_call 177; refine (A177 _ _).out.mono ?_; rintro e w' ⟨rfl, rfl⟩) | (go_at_call 173; refine (c173 _ _).mono ?_; rintro e w' ⟨rfl, rfl⟩))
                go_round
                case rel => exact ⟨k+1, by omega, by omega, by go_num, hx.out⟩
                case measure => simp [intOf]; omega
            · have hx : Hid (Mo.okAll s (k + 1) = true) := by show _ = _; unfold Mo.okAll Mo.okc; rw [HOK.out, hby, hl]; rfl
              go_wp2_with (first | (go_at_call 177; refine (A177 _ _).out.mono ?_; rintro e w' ⟨rfl, rfl⟩) | (go_at_call 173; refine (c173 _ _).mono ?_; rintro e w' ⟨rfl, rfl⟩))
              go_round
              case rel => exact ⟨k+1, by omega, by omega, by go_num, hx.out⟩
              case measure => simp [intOf]; omega
          · obtain rfl : k = s.size := by omega
            have hx : Hid (Mo.isName s = true) := hfin.out HOK.out
            go_wp2
            go_ret
            exact ⟨ret_bool hx.out.symm, rfl⟩
    · have h24' : (24 : Int) < (s.size : Int) := by omega
      have hx : Hid (Mo.isName s = false) := by show _ = _; unfold Mo.isName; simp [h24]
      go_enter Tryz.func162, Tryz.ntmps162
      go_wp2
      go_ret
      exact ⟨ret_bool hx.out.symm, rfl⟩
theorem c127 (s : ByteArray) (w : World) (hs : s.size ≤ 1000000) : Calls Tryz.prog 127 #[.string s] w fun en w' => en = .returned (.int .i64 (Mo.names1 s)) ∧ w = w' := by
  go_enter Tryz.func127, Tryz.ntmps127
  go_wp2_with (first | (go_at_call 162; refine (c162 _ _ hs).mono ?_; rintro e w' ⟨rfl, rfl⟩) | (go_at_call 112; refine (c112 _ _ _).mono ?_; rintro e w' ⟨rfl, rfl⟩))
  go_ret
  exact ⟨rfl, rfl⟩

end Go.Proofs.YtndhjkammoeikaaGreatDoor
namespace Go.Proofs.YtndhjkammoeikaaGreatDoor
namespace Mo
def hasW (l : List ByteArray) (c : ByteArray) : Bool := l.any fun x => x.toList == c.toList
def res1 (l : List Res) (k : Nat) : Int := match l[k]? with
  | some s => first [when (!(isName s.n)) 8, when (hasW ((l.take k).map Res.n) s.n) 9, range s.f 0 10000, range s.w 0 10000]
  | none => 0
def results (l : List Res) : Int := each l.length 64 (res1 l)
theorem res1_eq {l : List Res} {k : Nat} {s : Res} (h : l[k]? = some s) : res1 l k = if names1 s.n ≠ 0 then names1 s.n else if hasW ((l.take k).map Res.n) s.n = true then 9 else first [range s.f 0 10000, range s.w 0 10000] := by
  unfold res1; rw [h]; simp only []
  unfold names1
  cases isName s.n <;> cases hasW ((l.take k).map Res.n) s.n <;> simp [first, when]
structure ROk (x : Res) : Prop where
  n : isName x.n = true
  f : 0 ≤ x.f ∧ x.f ≤ 10000
  w : 0 ≤ x.w ∧ x.w ≤ 10000
theorem results_ok {l : List Res} (h : results l = 0) : l.length ≤ 64 ∧ ∀ x ∈ l, ROk x := by
  obtain ⟨h1, h2⟩ := each_zero h
  refine ⟨h1, fun s hs => ?_⟩
  obtain ⟨k, hk, rfl⟩ := List.mem_iff_getElem.1 hs
  have h3 := h2 k hk
  unfold res1 at h3
  rw [List.getElem?_eq_getElem hk] at h3
  have h4 := first_zero h3
  have h5 := when_zero (by decide) (h4 (when (!(isName l[k].n)) 8) (by simp))
  exact ⟨by simpa using h5, range_zero (h4 (range l[k].f 0 10000) (by simp)), range_zero (h4 (range l[k].w 0 10000) (by simp))⟩
end Mo
theorem RdL.take {α : Type} {w : World} {size : Nat} {enc : α → List Value} {A : Option Addr} {l : List α} (h : RdL w size enc A l) (he : ∀ a, (enc a).length = size) (k : Nat) : RdL w size enc A (l.take k) := by
  have hl : ∀ (m : List α), (m.flatMap enc).length = m.length * size := by
    intro m
    induction m with
    | nil => simp
    | cons a m ih => rw [List.flatMap_cons, List.length_append, ih, he, List.length_cons, Nat.succ_mul]; omega
  refine ⟨hl _, fun hn => ?_⟩
  have hn' : 0 < l.length := by rw [List.length_take] at hn; omega
  obtain ⟨b, off, hA, hb, hc⟩ := h.2 hn'
  refine ⟨b, off, hA, hb, fun j hj => ?_⟩
  have hsplit : l.flatMap enc = (l.take k).flatMap enc ++ (l.drop k).flatMap enc := by rw [← List.flatMap_append, List.take_append_drop]
  rw [hc j (by rw [hsplit, List.length_append]; omega), hsplit, List.getElem?_append_left hj]
end Go.Proofs.YtndhjkammoeikaaGreatDoor
namespace Go.Proofs.YtndhjkammoeikaaGreatDoor
open Go.RowKit
set_option maxHeartbeats 1000000
set_option maxRecDepth 20000

theorem info9 : (Tryz.prog.info? 9).map (fun i => (i.zero, i.size, i.bytes)) = some (some (.string ByteArray.empty), 1, 16) := by kernel_rfl
theorem c132 (o x : Res) (pk : Nat) (w : World) (hpk : pk < w.heap.size) (hk : w.cell? ⟨pk, 0, none⟩ = some (.string x.n)) :
    Calls Tryz.prog 132 #[.agg #[.string o.n, .int .i64 o.f, .int .i64 o.w], .pointer (some ⟨pk, 0, none⟩)] w fun en w' => en = .returned (.bool (o.n.toList == x.n.toList)) ∧ Below w.heap.size w w' := by
  have hq : (w.alloc (Obj.cells #[.string o.n, .int .i64 o.f, .int .i64 o.w] 210)).cell? ⟨pk, 0, none⟩ = some (.string x.n) := by rw [World.cell?_alloc_lt _ _ _ hpk]; exact hk
  have hB : Below w.heap.size w (w.alloc (Obj.cells #[.string o.n, .int .i64 o.f, .int .i64 o.w] 210)) := ((Below.refl _ _).alloc (by first | omega | (simp <;> omega)) _)
  go_enter Tryz.func132, Tryz.ntmps132
  go_wp2
  go_ret
  exact ⟨rfl, hB⟩
theorem c130 (A : Option Addr) (cap : Nat) (l : List Res) (pb k : Nat) (s : Res) (w : World) (hlen : l.length ≤ 1000000) (hcap : l.length ≤ cap) (hcap2 : cap ≤ 9223372036854775807) (hpb : pb < w.heap.size) (hp : w.cell? ⟨pb, 0, none⟩ = some (.slice A l.length cap))
    (hsz : s.n.size ≤ 1000000) (H : RdL w 3 Res.enc A l) (hk : l[k]? = some s) : Calls Tryz.prog 130 #[.int .i64 k, .agg #[.string s.n, .int .i64 s.f, .int .i64 s.w], .pointer (some ⟨pb, 0, none⟩)] w fun en w' => en = .returned (.int .i64 (Mo.res1 l k)) ∧ Below w.heap.size w w' := by
  have hkl : k < l.length := (List.getElem?_eq_some_iff.1 hk).1
  obtain ⟨W, hW⟩ : ∃ W, W = w.alloc (Obj.cells #[.string s.n, .int .i64 s.f, .int .i64 s.w] 210) := ⟨_, rfl⟩
  have hk0 : W.cell? ⟨w.heap.size, 0, none⟩ = some (.string s.n) := by simp [hW]
  have hk1 : W.cell? ⟨w.heap.size, 1, none⟩ = some (.int .i64 s.f) := by simp [hW]
  have hk2 : W.cell? ⟨w.heap.size, 2, none⟩ = some (.int .i64 s.w) := by simp [hW]
  have hkp : (w.alloc (Obj.cells #[.string s.n, .int .i64 s.f, .int .i64 s.w] 210)).cell? ⟨pb, 0, none⟩ = some (.slice A l.length cap) := by rw [World.cell?_alloc_lt _ _ _ hpb]; exact hp
  have hs : w.heap.size < W.heap.size := by simp [hW]
  have hB : Below w.heap.size w W := by rw [hW]; exact (Below.refl _ _).alloc (Nat.le_refl _) _
  have HW := (H.below hB).take Res.len k
  have htk : (l.take k).length = k := by rw [List.length_take]; omega
  have HC := Lib.hid (c131 A cap (l.take k) ⟨w.heap.size, 0, none⟩ (fun o => o.n.toList == s.n.toList) W (by omega) HW (fun W' x hx hb => c132 x s w.heap.size W' (Nat.lt_of_lt_of_le hs hb.size) (((bcell hb).1 _ _ hs).trans hk0)))
  rw [htk] at HC
  have hT : (l.take k).any (fun o => o.n.toList == s.n.toList) = Mo.hasW ((l.take k).map Res.n) s.n := by unfold Mo.hasW; rw [List.any_map]; rfl
  rw [hT] at HC
  have hfin : Mo.res1 l k = Mo.first [Mo.when (!(Mo.isName s.n)) 8, Mo.when (Mo.hasW ((l.take k).map Res.n) s.n) 9, Mo.range s.f 0 10000, Mo.range s.w 0 10000] := by unfold Mo.res1; rw [hk]
  obtain ⟨T, hTe⟩ : ∃ T, T = Mo.hasW ((l.take k).map Res.n) s.n := ⟨_, rfl⟩
  rw [← hTe] at HC hfin
  have HF := Lib.hid hfin
  obtain ⟨b, off, hA⟩ : ∃ b off, A = some ⟨b, off, none⟩ := by
    obtain ⟨b, off, hA, _⟩ := H.2 (by omega)
    exact ⟨b, off, hA⟩
  subst hA
  obtain ⟨n, hn⟩ : ∃ n, n = l.length := ⟨_, rfl⟩
  rw [← hn] at hkp hkl hcap
  have hk2' : (k : Int) ≤ (cap : Int) := by omega
  have hk3 : (0 : Int) ≤ (k : Int) := by omega
  clear H hp HW htk hT hTe hfin hk hn hlen
  go_enter Tryz.func130, Tryz.ntmps130
  go_wp2_with fail
  rw [← hW]
  clear hW hkp
  refine HC.out.mono ?_
  rintro e w1 ⟨rfl, hb1⟩
  obtain ⟨hcr, -⟩ := bcell hb1
  have e0 := (hcr _ _ hs).trans hk0
  have e1 := (hcr _ _ hs).trans hk1
  have e2 := (hcr _ _ hs).trans hk2
  have hs1 : w.heap.size < w1.heap.size := Nat.lt_of_lt_of_le hs hb1.size
  have hB1 := fin0 hB hb1
  clear hcr hk0 hk1 hk2 hb1 HC
  go_wp2
  refine wp_region_splitG 13 (by kernel_rfl) (by kernel_rfl) ?_
  simp only [List.take_succ_cons, List.take_zero, List.drop_succ_cons, List.drop_zero]
  repeat (go_big_quiet_step ((first | (go_at_call 133; exact Calls.gw_of (c133 _ _ hsz)) | (go_at_call 100; exact Calls.gw_same (c100 _ _ _)) | (go_at_call 96; exact Calls.gw_same (c96 _ _ _ _)))))
  refine wpQuiet_nil (gw_out ?_)
  intro w2 hb2
  go_wp2_with (first | (go_at_call 94; refine (c94 _ 4 _ [Mo.when (!(Mo.isName s.n)) 8, Mo.when T 9, Mo.range s.f 0 10000, Mo.range s.w 0 10000] _ rfl (by omega) ?_).mono ?_; (first | exact RdS.of_new (by simp) rfl | exact RdS.drew (RdS.of_new (by simp) rfl)); rintro e w' ⟨rfl, rfl⟩))
  all_goals go_ret
  all_goals exact ⟨ret_int HF.out.symm, fin1 hB1 hb2 _⟩
theorem c75 (A : Option Addr) (cap : Nat) (l : List Res) (w : World) (hlen : l.length ≤ 1000000) (hcap : l.length ≤ cap) (hcap2 : cap ≤ 9223372036854775807) (hsz : ∀ x ∈ l, x.n.size ≤ 1000000) (H : RdL w 3 Res.enc A l) :
    Calls Tryz.prog 75 #[.slice A l.length cap] w fun en w' => en = .returned (.int .i64 (Mo.results l)) ∧ Below w.heap.size w w' := by
  obtain ⟨W, hW⟩ : ∃ W, W = w.alloc (Obj.cells #[.slice A l.length cap] 131) := ⟨_, rfl⟩
  have hk0 : W.cell? ⟨w.heap.size, 0, none⟩ = some (.slice A l.length cap) := by simp [hW]
  have hs : w.heap.size < W.heap.size := by simp [hW]
  have hB : Below w.heap.size w W := by rw [hW]; exact (Below.refl _ _).alloc (Nat.le_refl _) _
  have HW := H.below hB
  have HC := Lib.hid (c129 A cap l 64 ⟨w.heap.size, 0, none⟩ (Mo.res1 l) W (by omega) hlen HW (fun k W' x hx _ hb => c130 A cap l w.heap.size k x W' hlen hcap hcap2 (by have := hb.size; omega) ((hb.cell (p := ⟨w.heap.size, 0, none⟩) hs).trans hk0) (hsz x (List.mem_of_getElem? hx)) (HW.below hb) hx))
  clear H HW
  go_enter Tryz.func75, Tryz.ntmps75
  go_wp2_with fail
  rw [← hW]
  clear hW
  go_wp2_with fail
  refine HC.out.mono ?_
  rintro e w1 ⟨rfl, hb1⟩
  go_wp2
  go_ret
  exact ⟨rfl, fin0 hB hb1⟩
theorem c128 (A : Option Addr) (n cap : Nat) (l : List ByteArray) (c : ByteArray) (w : World) (hn : n = l.length) (hl : n ≤ 1000000) (H : RdS w 1 A n (l.map Value.string)) :
    Calls Tryz.prog 128 #[.slice A n cap, .string c] w fun en w' => en = .returned (.bool (Mo.hasW l c)) ∧ w = w' := by
  have Hn := Lib.hid hn
  clear hn
  go_enter Tryz.func128, Tryz.ntmps128
  go_wp2
  go_loop [5] (fun i => ∃ j : Nat, j ≤ n ∧ i = .int .i64 j ∧ Mo.hasW l c = Mo.hasW (l.drop j) c) (fun i => n - (intOf i).toNat)
  case atStart => exact ⟨0, Nat.zero_le _, rfl, rfl⟩
  case round =>
    obtain ⟨j, hj, rfl, he⟩ := hrel
    have HE := Lib.hid he
    clear he
    by_cases hlt : j < n
    · obtain ⟨b, off, rfl, hb, hc⟩ := H.at hlt
      have hjl : j < l.length := by rw [← Hn.out]; exact hlt
      have q0 : w.cell? ⟨b, off + j, none⟩ = some (.string l[j]) := by
        have := hc 0 (by omega)
        simp only [Nat.mul_one, Nat.add_zero] at this
        rw [this]; simp [hjl]
      have HD : Hid (Mo.hasW l c = ((l[j].toList == c.toList) || Mo.hasW (l.drop (j + 1)) c)) := by
        show _ = _
        rw [HE.out, List.drop_eq_getElem_cons hjl]; rfl
      obtain ⟨x, hx⟩ : ∃ x, x = l[j] := ⟨_, rfl⟩
      rw [← hx] at q0 HD
      clear hc hx
      cases hxc : (x.toList == c.toList)
      · have hs2 : Hid (Mo.hasW l c = Mo.hasW (l.drop (j + 1)) c) := by show _ = _; rw [HD.out, hxc]; rfl
        go_wp2
        go_round
        case rel => exact ⟨j+1, by omega, by go_num, hs2.out⟩
        case measure => simp [intOf]; omega
      · have hs2 : Hid (Mo.hasW l c = true) := by show _ = _; rw [HD.out, hxc]; rfl
        go_wp2
        go_ret
        exact ⟨ret_bool hs2.out.symm, rfl⟩
    · have hs2 : Hid (Mo.hasW l c = false) := by show _ = _; rw [HE.out, List.drop_of_length_le (by rw [← Hn.out]; omega)]; rfl
      go_wp2
      go_ret
      exact ⟨ret_bool hs2.out.symm, rfl⟩

end Go.Proofs.YtndhjkammoeikaaGreatDoor
namespace Go.Proofs.YtndhjkammoeikaaGreatDoor
open Go.RowKit
namespace Mo
def acc (l : List Res) : List ByteArray := (l.filter fun x => decide (x.w ≤ x.f)).map Res.n
def rej (l : List Res) : List ByteArray := (l.filter fun x => !decide (x.w ≤ x.f)).map Res.n
def accP (l : List Res) : List ByteArray × List ByteArray := if results l ≠ 0 then ([], []) else (acc l, rej l)
theorem acc_len (l : List Res) : (acc l).length ≤ l.length := by unfold acc; rw [List.length_map]; exact List.length_filter_le _ _
theorem rej_len (l : List Res) : (rej l).length ≤ l.length := by unfold rej; rw [List.length_map]; exact List.length_filter_le _ _
theorem acc_yes {l : List Res} {k : Nat} {s : Res} (h : l[k]? = some s) (hs : s.w ≤ s.f) : acc (l.take (k+1)) = acc (l.take k) ++ [s.n] ∧ rej (l.take (k+1)) = rej (l.take k) := by
  obtain ⟨hk, rfl⟩ := List.getElem?_eq_some_iff.1 h
  rw [List.take_succ_eq_append_getElem hk]
  unfold acc rej
  rw [List.filter_append, List.filter_append]
  simp [hs]
theorem acc_no {l : List Res} {k : Nat} {s : Res} (h : l[k]? = some s) (hs : ¬ s.w ≤ s.f) : acc (l.take (k+1)) = acc (l.take k) ∧ rej (l.take (k+1)) = rej (l.take k) ++ [s.n] := by
  obtain ⟨hk, rfl⟩ := List.getElem?_eq_some_iff.1 h
  rw [List.take_succ_eq_append_getElem hk]
  unfold acc rej
  rw [List.filter_append, List.filter_append]
  simp [hs]
end Mo
/-- two rows of the call's own that share no block -/
def Apart (x y : Value) : Prop := ∀ g, x.ownBlock = some g → y.ownBlock ≠ some g
theorem Apart.symm {x y : Value} (h : Apart x y) : Apart y x := fun g h1 h2 => h g h2 h1
theorem own_apart {w w' : World} {base : Nat} {e : TypeId} {size : Nat} {x y : Value} {n : Nat} {xs : List Value} (h : w.ownsRow base e size y n xs) (hg : w.grownBy w' x.ownBlock) (ha : Apart x y) : w'.ownsRow base e size y n xs := by
  refine h.kept hg ?_
  cases hy : y.ownBlock with
  | none => exact .inl rfl
  | some g => exact .inr (fun e => ha g e.symm hy)
end Go.Proofs.YtndhjkammoeikaaGreatDoor
