/- A part of the proofs about chapter 7 (image): contracts of functions and plain laws (U1, V62, V63, V64). -/
import Derived.Test.YtdimmlljjmmdbaaGreatDoorA12
import Derived.Test.YtdimmlljjmmdbaaGreatDoorA10
import Derived.Test.YtdimmlljjmmdbaaGreatDoorA11
import Derived.Test.YtdimmlljjmmdbaaGreatDoorA04
import Derived.Test.YtdimmlljjmmdbaaGreatDoorA05
set_option linter.all false
namespace Go.Proofs.YtdimmlljjmmdbaaGreatDoor
open Go.RowKit Go.Shelf
set_option maxHeartbeats 8000000
theorem rd_nil (w : World) : RdI w none 0 [] := ⟨rfl, fun h => absurd h (Nat.lt_irrefl 0)⟩
theorem c30_eq {A B : Option Addr} {n cap cap2 : Nat} {l : List Int} {w : World} (hn : n ≤ 1000000) (H : RdI w A n l) (G : RdI w B n l) :
    Calls Tryz.prog 30 #[.slice A n cap, .slice B n cap2] w fun en w' => en = .returned (.bool true) ∧ Below w.heap.size w w' := by
  refine (c30 A B n n cap cap2 l l w hn hn H G).mono fun e w' ⟨h1, h2⟩ => ⟨?_, h2⟩
  rw [h1]
  simp
theorem RdI.of_cells {w : World} {g : Nat} {l : List Int} {n : Nat} (hn : l.length = n) (h : w.heap[g]? = some (.cells (encI l).toArray 3 (0, 0))) : RdI w (some ⟨g, 0, none⟩) n l := RdS.of_block (cs := encI l) h (by simp [encI, hn])
end Go.Proofs.YtdimmlljjmmdbaaGreatDoor
namespace Go.Proofs.YtdimmlljjmmdbaaGreatDoor
open Go.RowKit Go.Shelf
set_option maxHeartbeats 8000000
set_option maxRecDepth 100000

theorem c76_bad (c r : Int) (A : Option Addr) (n cap : Nat) (l : List Int) (U : Option Addr) (m capu : Nat) (u : List Int) (w : World) (hl : n ≤ 1000000) (H : RdI w A n l) (hE : Mo.first [Mo.ground c r l, Mo.when ((m : Int) == 0) 12, Mo.when (decide ((256 : Int) < (m : Int))) 5] ≠ 0) :
   Calls Tryz.prog 76 #[.agg #[.int .i64 c, .int .i64 r, .slice A n cap], .slice U m capu] w fun en w' => en = .returned (.tuple #[.int .i64 0, .int .i64 (Mo.first [Mo.ground c r l, Mo.when ((m : Int) == 0) 12, Mo.when (decide ((256 : Int) < (m : Int))) 5])]) ∧ Below w.heap.size w w' := by
  obtain ⟨E, hE1⟩ : ∃ E, E = Mo.ground c r l := ⟨_, rfl⟩
  rw [← hE1] at hE
  have HE := Lib.hid hE
  have HG := Lib.hid hE1
  rw [← hE1]
  clear hE hE1
  obtain ⟨w0, hW⟩ : ∃ W, W = w.alloc (Obj.cells #[.int .i64 c, .int .i64 r, .slice A n cap] 24) := ⟨_, rfl⟩
  have hT0 : w0.heap[w.heap.size]? = some (.cells #[.int .i64 c, .int .i64 r, .slice A n cap] 24 (0, 0)) := by rw [hW]; exact heap_new (by simp)
  have hB0 : Below w.heap.size w w0 := by rw [hW]; exact ((Below.refl _ _).alloc (by first | omega | (simp <;> omega)) _)
  replace H := H.below hB0
  go_enter Tryz.func76, Tryz.ntmps76
  go_wp2_with fail
  rw [← hW]
  clear hW
  have qhT0_0 : w0.cell? ⟨w.heap.size, 0, none⟩ = some (.int .i64 c) := cell_at hT0 rfl
  have qhT0_1 : w0.cell? ⟨w.heap.size, 1, none⟩ = some (.int .i64 r) := cell_at hT0 rfl
  have qhT0_2 : w0.cell? ⟨w.heap.size, 2, none⟩ = some (.slice A n cap) := cell_at hT0 rfl
  go_wp2_with fail
  refine (c65 c r A n cap l _ hl H).mono ?_
  rintro e w1 ⟨rfl, hb⟩
  clear qhT0_0 qhT0_1 qhT0_2
  have hS := hb
  have hB1 := hB0.call hS rfl
  replace hT0 := blkb hT0 hS
  replace H := H.below hS
  clear hS hB0
  have qhT0_0 : w1.cell? ⟨w.heap.size, 0, none⟩ = some (.int .i64 c) := cell_at hT0 rfl
  have qhT0_1 : w1.cell? ⟨w.heap.size, 1, none⟩ = some (.int .i64 r) := cell_at hT0 rfl
  have qhT0_2 : w1.cell? ⟨w.heap.size, 2, none⟩ = some (.slice A n cap) := cell_at hT0 rfl
  clear hb
  rw [← HG.out]
  by_cases hE0 : E = 0
  rotate_left
  ·
      have hef : (E != 0) = true := by simpa using hE0
      have HF : Hid (Mo.first [E, Mo.when ((m : Int) == 0) 12, Mo.when (decide ((256 : Int) < (m : Int))) 5] = E) := Lib.hid (Mo.first_nz hE0 _)
      clear hE0
      go_wp2
      go_ret2
      exact ⟨by rw [HF.out]; rfl, hB1⟩
  subst hE0
  have hef : ((0 : Int) != 0) = false := rfl
  by_cases hm0 : m = 0
  ·
      have hd : ((m : Int) == 0) = true := by simp; omega
      have HF : Hid (Mo.first [0, Mo.when ((m : Int) == 0) 12, Mo.when (decide ((256 : Int) < (m : Int))) 5] = 12) := Lib.hid (by rw [hd, Mo.first_z rfl]; rfl)
      clear hm0
      go_wp2
      go_ret2
      exact ⟨by rw [HF.out]; rfl, hB1⟩
  have hd : ((m : Int) == 0) = false := by simp; omega
  by_cases hm2 : 256 < m
  ·
      have hd2 : decide ((256 : Int) < (m : Int)) = true := by simp; omega
      have HF : Hid (Mo.first [0, Mo.when ((m : Int) == 0) 12, Mo.when (decide ((256 : Int) < (m : Int))) 5] = 5) := Lib.hid (by rw [hd, hd2, Mo.first_z rfl]; rfl)
      clear hm0 hm2
      go_wp2
      go_ret2
      exact ⟨by rw [HF.out]; rfl, hB1⟩
  have hd2 : decide ((256 : Int) < (m : Int)) = false := by simp; omega
  exact absurd (by rw [hd, hd2]; rfl) HE.out

theorem c76_ok (c r : Nat) (A : Option Addr) (n cap : Nat) (l : List Int) (U : Option Addr) (m capu : Nat) (u : List Int) (w : World) (g : Im.Gr c r l) (hc : c ≤ 16) (hr : r ≤ 16) (hm0 : 0 < m) (hm : m ≤ 256) (H : RdI w A n l) (HU : RdI w U m u) :
   Calls Tryz.prog 76 #[.agg #[.int .i64 c, .int .i64 r, .slice A n cap], .slice U m capu] w fun en w' => en = .returned (.tuple #[.int .i64 (pth c l n none 0 u).1, .int .i64 (pth c l n none 0 u).2]) ∧ Below w.heap.size w w' := by
  have hl : n ≤ 1000000 := by have := H.len; have := g.len; have : c * r ≤ 256 := Nat.mul_le_mul hc hr; omega
  have HLN := Lib.hid H.len
  have HUN := Lib.hid HU.len
  have hb1 : ((m : Int) == 0) = false := by simp; omega
  have hb2 : decide ((256 : Int) < (m : Int)) = false := by simp; omega
  have hm00 : ¬ m = 0 := by omega
  obtain ⟨w0, hW⟩ : ∃ W, W = w.alloc (Obj.cells #[.int .i64 c, .int .i64 r, .slice A n cap] 24) := ⟨_, rfl⟩
  have hT0 : w0.heap[w.heap.size]? = some (.cells #[.int .i64 c, .int .i64 r, .slice A n cap] 24 (0, 0)) := by rw [hW]; exact heap_new (by simp)
  have hB0 : Below w.heap.size w w0 := by rw [hW]; exact ((Below.refl _ _).alloc (by first | omega | (simp <;> omega)) _)
  replace H := H.below hB0
  replace HU := HU.below hB0
  go_enter Tryz.func76, Tryz.ntmps76
  go_wp2_with fail
  rw [← hW]
  clear hW
  have qhT0_0 : w0.cell? ⟨w.heap.size, 0, none⟩ = some (.int .i64 c) := cell_at hT0 rfl
  have qhT0_1 : w0.cell? ⟨w.heap.size, 1, none⟩ = some (.int .i64 r) := cell_at hT0 rfl
  have qhT0_2 : w0.cell? ⟨w.heap.size, 2, none⟩ = some (.slice A n cap) := cell_at hT0 rfl
  go_wp2_with fail
  refine (c65 c r A n cap l _ hl H).mono ?_
  rintro e w1 ⟨rfl, hb⟩
  clear qhT0_0 qhT0_1 qhT0_2
  have hS := hb
  have hB1 := hB0.call hS rfl
  replace hT0 := blkb hT0 hS
  replace H := H.below hS
  replace HU := HU.below hS
  clear hS hB0
  have qhT0_0 : w1.cell? ⟨w.heap.size, 0, none⟩ = some (.int .i64 c) := cell_at hT0 rfl
  have qhT0_1 : w1.cell? ⟨w.heap.size, 1, none⟩ = some (.int .i64 r) := cell_at hT0 rfl
  have qhT0_2 : w1.cell? ⟨w.heap.size, 2, none⟩ = some (.slice A n cap) := cell_at hT0 rfl
  clear hb
  rw [Mo.ground_of g hc hr]
  obtain ⟨ub, uoff, rfl, HCU⟩ := HU.cellA hm0
  have HCUH := Lib.hid HCU
  clear HCU
  go_wp2_with fail
  clear hb1 hb2 hm00
  have hstart : Hid (pth c l n none 0 u = pth c l n (if 0 = 0 then none else some (Im.at0 u (0 - 1))) 0 (u.drop 0)) := Lib.hid rfl
  go_loopw [7, 8] (fun q i wr => ∃ k : Nat, ∃ S : Int, k ≤ m ∧ i = .int .i64 k ∧ q = .int .i64 S ∧ 0 ≤ S ∧ S ≤ 600 * (k : Int) ∧ Hid (pth c l n none 0 u = pth c l n (if k = 0 then none else some (Im.at0 u (k - 1))) S (u.drop k)) ∧ Hid (∀ j, j < k → 0 ≤ Im.at0 u j ∧ Im.at0 u j < n) ∧ Below w1.heap.size w1 wr) (fun _ i _ => m - (intOf i).toNat)
  case atStart => exact ⟨0, 0, Nat.zero_le _, rfl, rfl, by omega, by omega, hstart, Lib.hid (fun j hj => by omega), Below.refl _ _⟩
  case round =>
    clear hstart
    obtain ⟨k, S, hk, rfl, rfl, hS0, hS1, HP, HC, hbr⟩ := hrel
    have HU := (HCUH.out _ hbr)
    obtain ⟨w2, hww⟩ : ∃ W, W = wr := ⟨_, rfl⟩
    subst hww
    have hB2 := hB1.call hbr rfl
    replace hT0 := blkb hT0 hbr
    replace H := H.below hbr
    clear hB1
    have qhT0_0 : w2.cell? ⟨w.heap.size, 0, none⟩ = some (.int .i64 c) := cell_at hT0 rfl
    have qhT0_1 : w2.cell? ⟨w.heap.size, 1, none⟩ = some (.int .i64 r) := cell_at hT0 rfl
    have qhT0_2 : w2.cell? ⟨w.heap.size, 2, none⟩ = some (.slice A n cap) := cell_at hT0 rfl
    have hwk : IntKind.i64.wrap ((k : Int) + 1) = ((k + 1 : Nat) : Int) := by rw [wrapI (by omega)]; simp
    by_cases hlt : k < m
    rotate_left
    · obtain rfl : m = k := by omega
      have HF : Hid (pth c l n none 0 u = (S, 0)) := Lib.hid (by
        have h := HP.out
        rw [List.drop_of_length_le (by rw [HUN.out]; exact Nat.le_refl _)] at h
        rw [h, pth_nil])
      go_wp2
      go_ret2
      exact ⟨by rw [HF.out]; rfl, hB2⟩
    have hkm2 : (k : Int) < (m : Int) := by omega
    have hk02 : (0 : Int) ≤ (k : Int) := by omega
    have qk := HU.2 k hlt
    have hub := HU.1
    clear HU
    have hdr : u.drop k = Im.at0 u k :: u.drop (k + 1) := by
      have hk2 : k < u.length := by rw [HUN.out]; exact hlt
      rw [List.drop_eq_getElem_cons hk2]
      simp [Im.at0, List.getD_eq_getElem?_getD, hk2]
    rw [hdr] at HP
    clear hdr
    generalize hX : Im.at0 u k = x at qk HP
    have HX := Lib.hid hX
    clear hX
    go_wp2_with fail
    refine wp_region_plan [(0, true), (1, true), (2, true), (3, true), (4, true), (5, false), (6, true)] w2.heap.size (by kernel_rfl) (by kernel_rfl) (Nat.le_refl _) (fun _ _ d _ _ h => by cases d <;> exact h) ?_
    have hC : Below w2.heap.size w2 w2 := Below.refl _ _
    have zhT0 : w.heap.size < w2.heap.size := (Array.getElem?_eq_some_iff.1 hT0).1
    repeat (first | (refine wpPlanA_skip _ rfl (by rfl) ?_; simp only [Act.put, List.setIfInBounds_toArray, List.set_cons_zero, List.set_cons_succ]) | (refine wpPlanA_soft _ ?_ rfl (by rfl) ?_ ?_; rotate_left; (intro wq hq hcq; go_simp; first | exact rfl | exact ⟨rfl, rfl⟩); simp only [Act.put, List.setIfInBounds_toArray, List.set_cons_zero, List.set_cons_succ]))
    refine wpPlanA_hard _ rfl (by rfl) (fun w3 hS K hK => ?_)
    have hB3 := hB2.call hS rfl
    replace hC := hC.call hS rfl
    replace hT0 := blkb hT0 hS
    replace H := H.below hS
    replace hbr := hbr.call hS rfl
    clear hS hB2
    go_simp
    refine (c47 c r A n cap x _).mono ?_
    rintro e w4 ⟨rfl, hb⟩
    have hB4 := hB3.call hb rfl
    replace hC := hC.call hb rfl
    replace hT0 := blkb hT0 hb
    replace H := H.below hb
    replace hbr := hbr.call hb rfl
    clear hb hB3
    refine hK _ _ hC ?_
    clear hK K
    try simp only [Act.put, List.setIfInBounds_toArray, List.set_cons_zero, List.set_cons_succ]
    repeat (first | (refine wpPlanA_skip _ rfl (by rfl) ?_; simp only [Act.put, List.setIfInBounds_toArray, List.set_cons_zero, List.set_cons_succ]) | (refine wpPlanA_soft _ ?_ rfl (by rfl) ?_ ?_; rotate_left; (intro wq hq hcq; go_simp; first | exact rfl | exact ⟨rfl, rfl⟩); simp only [Act.put, List.setIfInBounds_toArray, List.set_cons_zero, List.set_cons_succ]))
    clear qk
    clear qhT0_0 qhT0_1 qhT0_2
    refine wpPlanA_nil (fun w5 hS => ?_)
    clear hC zhT0
    have hB5 := hB4.call hS rfl
    replace hT0 := blkb hT0 hS
    replace H := H.below hS
    replace hbr := hbr.call hS rfl
    clear hS hB4
    have qhT0_0 : w5.cell? ⟨w.heap.size, 0, none⟩ = some (.int .i64 c) := cell_at hT0 rfl
    have qhT0_1 : w5.cell? ⟨w.heap.size, 1, none⟩ = some (.int .i64 r) := cell_at hT0 rfl
    have qhT0_2 : w5.cell? ⟨w.heap.size, 2, none⟩ = some (.slice A n cap) := cell_at hT0 rfl
    obtain ⟨E, hE⟩ : ∃ E, E = Mo.cell n x := ⟨_, rfl⟩
    rw [← hE]
    have HE := Lib.hid hE
    clear hE
    by_cases hE0 : E = 0
    rotate_left
    ·
        have hef : (E != 0) = true := by simpa using hE0
        have HV : Hid (pth c l n none 0 u = (0, E)) := Lib.hid (by rw [HP.out, HE.out, pth_bad (by rw [← HE.out]; exact hE0)])
        clear hE0
        go_wp2
        go_ret2
        exact ⟨by rw [HV.out]; rfl, hB5⟩
    have hef : (E != 0) = false := by simp [hE0]
    have hxr := Mo.cell_ok.1 (HE.out ▸ hE0 : Mo.cell n x = 0)
    obtain ⟨b, rfl⟩ : ∃ b : Nat, x = b := ⟨x.toNat, by omega⟩
    have hbn : b < n := by omega
    have HC2 : Hid (∀ j, j < k + 1 → 0 ≤ Im.at0 u j ∧ Im.at0 u j < n) := Lib.hid (fun j hj => by
      by_cases h : j = k
      · subst h; rw [HX.out]; omega
      · exact HC.out j (by omega))
    by_cases hk0 : k = 0
    ·
        subst hk0
        have HV : Hid (pth c l n none 0 u = pth c l n (if 0 + 1 = 0 then none else some (Im.at0 u (0 + 1 - 1))) S (u.drop (0 + 1))) := by
          show pth c l n none 0 u = pth c l n (some (Im.at0 u 0)) S (u.drop 1)
          rw [HP.out, if_pos rfl, HX.out, pth_none (by rw [← HE.out]; exact hE0)]
        have HN := Lib.hid hbr
        clear hbr
        go_wp2
        go_roundw
        case rel => exact ⟨0 + 1, S, by omega, rfl, rfl, hS0, by omega, HV, HC2, HN.out⟩
        case measure => simp [intOf]; omega
    obtain ⟨j, hjk⟩ : ∃ j, k = j + 1 := ⟨k - 1, by omega⟩
    have hj := HC.out j (by omega)
    have hub2 := (HCUH.out _ hbr).1
    have qj := (HCUH.out _ hbr).2 j (by omega)
    have qk := (HCUH.out _ hbr).2 k hlt
    rw [HX.out] at qk
    have hwj : IntKind.i64.wrap ((k : Int) - 1) = (j : Int) := by rw [wrapI (by omega)]; omega
    have hkj1 : k - 1 = j := by omega
    have hk00 := Lib.hid hk0
    have hk0i : ((k : Int) == 0) = false := by simp; omega
    rw [if_neg hk0, hkj1] at HP
    have hjm : j < m := by omega
    have hjm2 : (j : Int) < (m : Int) := by omega
    have hj0 : (0 : Int) ≤ (j : Int) := by omega
    generalize hY : Im.at0 u j = y at qj HP hj
    have HY := Lib.hid hY
    clear hY
    obtain ⟨a, rfl⟩ : ∃ a : Nat, y = a := ⟨y.toNat, by omega⟩
    have han : a < n := by omega
    clear hj hkj1 hjk hk0
    go_wp2_with fail
    refine wp_region_plan [(0, true), (1, true), (2, true), (3, true), (4, true), (5, true), (6, true), (7, true), (8, true), (9, true), (10, false), (11, true)] w5.heap.size (by kernel_rfl) (by kernel_rfl) (Nat.le_refl _) (fun _ _ d _ _ h => by cases d <;> exact h) ?_
    have hC : Below w5.heap.size w5 w5 := Below.refl _ _
    have zhT0 : w.heap.size < w5.heap.size := (Array.getElem?_eq_some_iff.1 hT0).1
    repeat (first | (refine wpPlanA_skip _ rfl (by rfl) ?_; simp only [Act.put, List.setIfInBounds_toArray, List.set_cons_zero, List.set_cons_succ]) | (refine wpPlanA_soft _ ?_ rfl (by rfl) ?_ ?_; rotate_left; (intro wq hq hcq; go_simp; first | exact rfl | exact ⟨rfl, rfl⟩); simp only [Act.put, List.setIfInBounds_toArray, List.set_cons_zero, List.set_cons_succ]))
    clear qk qj
    refine wpPlanA_hard _ rfl (by rfl) (fun w6 hS K hK => ?_)
    have hB6 := hB5.call hS rfl
    replace hC := hC.call hS rfl
    replace hT0 := blkb hT0 hS
    replace H := H.below hS
    replace hbr := hbr.call hS rfl
    clear hS hB5
    go_simp
    refine (c61 c r A n cap l a b _ g hl hc han hbn H).mono ?_
    rintro e w7 ⟨rfl, hb⟩
    have hB7 := hB6.call hb rfl
    replace hC := hC.call hb rfl
    replace hT0 := blkb hT0 hb
    replace H := H.below hb
    replace hbr := hbr.call hb rfl
    clear hb hB6
    refine hK _ _ hC ?_
    clear hK K
    try simp only [Act.put, List.setIfInBounds_toArray, List.set_cons_zero, List.set_cons_succ]
    repeat (first | (refine wpPlanA_skip _ rfl (by rfl) ?_; simp only [Act.put, List.setIfInBounds_toArray, List.set_cons_zero, List.set_cons_succ]) | (refine wpPlanA_soft _ ?_ rfl (by rfl) ?_ ?_; rotate_left; (intro wq hq hcq; go_simp; first | exact rfl | exact ⟨rfl, rfl⟩); simp only [Act.put, List.setIfInBounds_toArray, List.set_cons_zero, List.set_cons_succ]))
    clear qhT0_0 qhT0_1 qhT0_2
    refine wpPlanA_nil (fun w8 hS => ?_)
    clear hC zhT0
    have hB8 := hB7.call hS rfl
    replace hT0 := blkb hT0 hS
    replace H := H.below hS
    replace hbr := hbr.call hS rfl
    clear hS hB7
    have qhT0_0 : w8.cell? ⟨w.heap.size, 0, none⟩ = some (.int .i64 c) := cell_at hT0 rfl
    have qhT0_1 : w8.cell? ⟨w.heap.size, 1, none⟩ = some (.int .i64 r) := cell_at hT0 rfl
    have qhT0_2 : w8.cell? ⟨w.heap.size, 2, none⟩ = some (.slice A n cap) := cell_at hT0 rfl
    have hcb := Im.cost_nonneg g (a := a) (b := b) (by rw [HLN.out]; exact han) (by rw [HLN.out]; exact hbn)
    have hcl := Im.cost_le g (a := a) (b := b) (by rw [HLN.out]; exact han) (by rw [HLN.out]; exact hbn)
    have HV := HP.out
    rw [pth_some (by rw [← HE.out]; exact hE0)] at HV
    have e1 : ((a : Int)).toNat = a := Int.toNat_natCast a
    have e2 : ((b : Int)).toNat = b := Int.toNat_natCast b
    rw [e1, e2] at HV
    have HVV := Lib.hid HV
    clear HV e1 e2 hub2
    obtain ⟨C, hC0⟩ : ∃ C, C = Im.cost c l a b := ⟨_, rfl⟩
    rw [← hC0] at hcb hcl HVV ⊢
    clear hC0
    by_cases hCp : C = 0
    rotate_left
    ·
        have HV2 : Hid (pth c l n none 0 u = pth c l n (if k + 1 = 0 then none else some (Im.at0 u (k + 1 - 1))) (S + C) (u.drop (k + 1))) := Lib.hid (by
          rw [if_neg (by omega), Nat.add_sub_cancel, HX.out, HVV.out, if_pos (by omega)])
        have hws : IntKind.i64.wrap (S + C) = S + C := wrapI (by omega)
        have hcf : (C == 0) = false := by simpa using hCp
        have HN := Lib.hid hbr
        have HS2 : Hid (0 ≤ S + C ∧ S + C ≤ 600 * ((k + 1 : Nat) : Int)) := Lib.hid ⟨by omega, by omega⟩
        clear hbr hCp
        go_wp2
        go_roundw
        case rel => exact ⟨k + 1, S + C, by omega, rfl, rfl, HS2.out.1, HS2.out.2, HV2, HC2, HN.out⟩
        case measure => simp [intOf]; omega
    have HF : Hid (pth c l n none 0 u = (0, 21)) := Lib.hid (by rw [HVV.out, if_neg (by omega)])
    subst hCp
    go_wp2
    go_ret2
    exact ⟨by rw [HF.out]; rfl, hB8⟩

end Go.Proofs.YtdimmlljjmmdbaaGreatDoor
namespace Go.Proofs.YtdimmlljjmmdbaaGreatDoor
open Go.RowKit Go.Shelf
set_option maxHeartbeats 8000000
set_option maxRecDepth 100000
theorem rd2 {w : World} {g : Nat} (hg : w.heap.size = g) (a b : Int) : RdI (w.alloc (Obj.cells #[.int .i64 a, .int .i64 b] 3)) (some ⟨g, 0, none⟩) 2 [a, b] := RdS.of_new (cs := encI [a, b]) hg.symm rfl
theorem rd1 {w : World} {g : Nat} (hg : w.heap.size = g) (a : Int) : RdI (w.alloc (Obj.cells #[.int .i64 a] 3)) (some ⟨g, 0, none⟩) 1 [a] := RdS.of_new (cs := encI [a]) hg.symm rfl
theorem below1a (w : World) (o : Obj) : Below w.heap.size w (w.alloc o) := (Below.refl _ _).alloc (Nat.le_refl _) _
/-- pairs below a, b are feasible -/
def FeasTo (c : Nat) (l u : List Int) (a b : Nat) : Prop := ∀ x y, (x < a ∨ x = a ∧ y < b) → x < l.length → y < l.length → 0 < Im.cost c l x y → Im.at0 u y ≤ Im.at0 u x + Im.cost c l x y
theorem FeasTo.zero (c : Nat) (l u : List Int) : FeasTo c l u 0 0 := fun x y h _ _ _ => by exfalso; omega
theorem FeasTo.step {c : Nat} {l u : List Int} {a b : Nat} (h : FeasTo c l u a b) (hs : ¬ (0 < Im.cost c l a b ∧ Im.cost c l a b < Im.at0 u b - Im.at0 u a)) : FeasTo c l u a (b + 1) := by
  intro x y hxy hx hy hc
  by_cases hn : x < a ∨ x = a ∧ y < b
  · exact h x y hn hx hy hc
  · have hxa : x = a ∧ y = b := by omega
    obtain ⟨rfl, rfl⟩ := hxa
    have := fun hl => hs ⟨hc, hl⟩
    omega
theorem FeasTo.row {c : Nat} {l u : List Int} {a b : Nat} (h : FeasTo c l u a b) (hb : l.length ≤ b) : FeasTo c l u (a + 1) 0 := by
  intro x y hxy hx hy hc
  exact h x y (by omega) hx hy hc
theorem FeasTo.done {c : Nat} {l u : List Int} {a b : Nat} (h : FeasTo c l u a b) (ha : l.length ≤ a) : Im.Feas c l u := fun x y hx hy hc => h x y (.inl (by omega)) hx hy hc

theorem c77_bad (c r : Int) (A : Option Addr) (n cap : Nat) (l : List Int) (s d : Int) (U : Option Addr) (m capu : Nat) (u : List Int) (w : World) (hl : n ≤ 1000000) (H : RdI w A n l) (hE : Mo.first [Mo.ground c r l, Mo.cell n s, Mo.cell n d] ≠ 0) :
   Calls Tryz.prog 77 #[.agg #[.int .i64 c, .int .i64 r, .slice A n cap], .int .i64 s, .int .i64 d, .slice U m capu] w fun en w' => en = .returned (.tuple #[.int .i64 0, .int .i64 (Mo.first [Mo.ground c r l, Mo.cell n s, Mo.cell n d])]) ∧ Below w.heap.size w w' := by
  obtain ⟨E, hE1⟩ : ∃ E, E = Mo.cells c r l n [s, d] := ⟨_, rfl⟩
  rw [← Mo.cells2, ← hE1] at hE ⊢
  have hef : (E != 0) = true := by simpa using hE
  have HE := Lib.hid hE1
  clear hE hE1
  obtain ⟨w0, hW⟩ : ∃ W, W = w.alloc (Obj.cells #[.int .i64 c, .int .i64 r, .slice A n cap] 24) := ⟨_, rfl⟩
  have hT0 : w0.heap[w.heap.size]? = some (.cells #[.int .i64 c, .int .i64 r, .slice A n cap] 24 (0, 0)) := by rw [hW]; exact heap_new (by simp)
  have hB0 : Below w.heap.size w w0 := by rw [hW]; exact ((Below.refl _ _).alloc (by first | omega | (simp <;> omega)) _)
  replace H := H.below hB0
  go_enter Tryz.func77, Tryz.ntmps77
  go_wp2_with fail
  rw [← hW]
  have hsz0 : w0.heap.size = w.heap.size + 1 := by rw [hW]; simp
  clear hW
  have qhT0_0 : w0.cell? ⟨w.heap.size, 0, none⟩ = some (.int .i64 c) := cell_at hT0 rfl
  have qhT0_1 : w0.cell? ⟨w.heap.size, 1, none⟩ = some (.int .i64 r) := cell_at hT0 rfl
  have qhT0_2 : w0.cell? ⟨w.heap.size, 2, none⟩ = some (.slice A n cap) := cell_at hT0 rfl
  go_wp2_with fail
  refine (c60 c r A n cap l _ 2 2 [(s : Int), (d : Int)] _ hl (by omega) (H.below (below1a _ _)) (rd2 hsz0 _ _)).mono ?_
  rintro e w1 ⟨rfl, hb⟩
  clear qhT0_0 qhT0_1 qhT0_2
  have hS := (below1a _ _).call hb rfl
  have hB1 := hB0.call hS rfl
  replace hT0 := blkb hT0 hS
  replace H := H.below hS
  clear hS hB0
  have qhT0_0 : w1.cell? ⟨w.heap.size, 0, none⟩ = some (.int .i64 c) := cell_at hT0 rfl
  have qhT0_1 : w1.cell? ⟨w.heap.size, 1, none⟩ = some (.int .i64 r) := cell_at hT0 rfl
  have qhT0_2 : w1.cell? ⟨w.heap.size, 2, none⟩ = some (.slice A n cap) := cell_at hT0 rfl
  clear hb
  rw [← HE.out]
  go_wp2
  go_ret2
  exact ⟨rfl, hB1⟩

theorem c77_ok (c r : Nat) (A : Option Addr) (n cap : Nat) (l : List Int) (s d : Nat) (U : Option Addr) (m capu : Nat) (u : List Int) (w : World) (g : Im.Gr c r l) (hc : c ≤ 16) (hr : r ≤ 16) (H : RdI w A n l) (hs : s < n) (hd : d < n) (hm : m ≤ 1000000) (HU : RdI w U m u) :
   Calls Tryz.prog 77 #[.agg #[.int .i64 c, .int .i64 r, .slice A n cap], .int .i64 s, .int .i64 d, .slice U m capu] w fun en w' => en = .returned (.tuple #[.int .i64 (potV c l u s d), .int .i64 (potE c l u)]) ∧ Below w.heap.size w w' := by
  have hl : n ≤ 1000000 := by have := H.len; have := g.len; have : c * r ≤ 256 := Nat.mul_le_mul hc hr; omega
  have HLN := Lib.hid H.len
  have HUN := Lib.hid HU.len
  have HZ : Hid (Mo.cells c r l n [(s : Int), (d : Int)] = 0) := Lib.hid (by rw [Mo.cells2]; exact first3 (Mo.ground_of g hc hr) (Mo.cell_ok.2 (by omega)) (Mo.cell_ok.2 (by omega)))
  obtain ⟨V, hV⟩ : ∃ V, V = potV c l u s d := ⟨_, rfl⟩
  obtain ⟨X, hX⟩ : ∃ X, X = potE c l u := ⟨_, rfl⟩
  rw [← hV, ← hX]
  have HVX : Hid (V = if X = 0 then Im.at0 u d - Im.at0 u s else 0) := Lib.hid (by rw [hV, hX]; rfl)
  have HX := Lib.hid hX
  clear hV hX
  obtain ⟨w0, hW⟩ : ∃ W, W = w.alloc (Obj.cells #[.int .i64 c, .int .i64 r, .slice A n cap] 24) := ⟨_, rfl⟩
  have hT0 : w0.heap[w.heap.size]? = some (.cells #[.int .i64 c, .int .i64 r, .slice A n cap] 24 (0, 0)) := by rw [hW]; exact heap_new (by simp)
  have hB0 : Below w.heap.size w w0 := by rw [hW]; exact ((Below.refl _ _).alloc (by first | omega | (simp <;> omega)) _)
  replace H := H.below hB0
  replace HU := HU.below hB0
  go_enter Tryz.func77, Tryz.ntmps77
  go_wp2_with fail
  rw [← hW]
  have hsz0 : w0.heap.size = w.heap.size + 1 := by rw [hW]; simp
  clear hW
  have qhT0_0 : w0.cell? ⟨w.heap.size, 0, none⟩ = some (.int .i64 c) := cell_at hT0 rfl
  have qhT0_1 : w0.cell? ⟨w.heap.size, 1, none⟩ = some (.int .i64 r) := cell_at hT0 rfl
  have qhT0_2 : w0.cell? ⟨w.heap.size, 2, none⟩ = some (.slice A n cap) := cell_at hT0 rfl
  go_wp2_with fail
  refine (c60 c r A n cap l _ 2 2 [(s : Int), (d : Int)] _ hl (by omega) (H.below (below1a _ _)) (rd2 hsz0 _ _)).mono ?_
  rintro e w1 ⟨rfl, hb⟩
  clear qhT0_0 qhT0_1 qhT0_2
  have hS := (below1a _ _).call hb rfl
  have hB1 := hB0.call hS rfl
  replace hT0 := blkb hT0 hS
  replace H := H.below hS
  replace HU := HU.below hS
  clear hS hB0
  have qhT0_0 : w1.cell? ⟨w.heap.size, 0, none⟩ = some (.int .i64 c) := cell_at hT0 rfl
  have qhT0_1 : w1.cell? ⟨w.heap.size, 1, none⟩ = some (.int .i64 r) := cell_at hT0 rfl
  have qhT0_2 : w1.cell? ⟨w.heap.size, 2, none⟩ = some (.slice A n cap) := cell_at hT0 rfl
  clear hb
  rw [HZ.out]
  by_cases hnm : m = n
  rotate_left
  ·
      have hne : ((m : Int) != (n : Int)) = true := by simp; omega
      have HR : Hid (X = 2) := Lib.hid (by
        rw [HX.out]
        exact potE_a (by rw [HUN.out, HLN.out, hne]; rfl) (by decide))
      have HR2 : Hid (V = 0) := Lib.hid (by rw [HVX.out, HR.out]; rfl)
      clear hnm
      go_wp2
      go_ret2
      exact ⟨by rw [HR.out, HR2.out]; rfl, hB1⟩
  subst hnm
  have hne : ((m : Int) != (m : Int)) = false := by simp
  have HFE : Hid (Mo.first [Mo.when ((u.length : Int) != (l.length : Int)) 2, Mo.allw u (-999999999) 999999999] = Mo.allw u (-999999999) 999999999) := Lib.hid (by
    rw [HUN.out, HLN.out, hne]
    show Mo.first [0, _] = _
    rw [Mo.first_z rfl, Mo.first_one])
  go_wp2_with fail
  refine (c92 U m capu u _ _ _ hl HU).mono ?_
  rintro e w' ⟨rfl, rfl⟩
  obtain ⟨F, hF⟩ : ∃ F, F = Mo.allw u (-999999999) 999999999 := ⟨_, rfl⟩
  rw [← hF]
  have HF := Lib.hid hF
  clear hF
  by_cases hF0 : F = 0
  rotate_left
  ·
      have hff : (F != 0) = true := by simpa using hF0
      have HR : Hid (X = F) := Lib.hid (by rw [HX.out]; exact potE_a (HFE.out.trans HF.out.symm) hF0)
      have HR2 : Hid (V = 0) := Lib.hid (by rw [HVX.out, if_neg (by rw [HR.out]; exact hF0)])
      clear hF0
      go_wp2
      go_ret2
      exact ⟨by rw [HR.out, HR2.out]; rfl, hB1⟩
  have hff : (F != 0) = false := by simp [hF0]
  have hbd := Mo.allw_ok.1 (HF.out ▸ hF0 : Mo.allw u (-999999999) 999999999 = 0)
  have HUB : Hid (∀ k, -999999999 ≤ Im.at0 u k ∧ Im.at0 u k ≤ 999999999) := Lib.hid (Im.at0_le (by omega) hbd)
  have HE0 : Hid (Mo.first [Mo.when ((u.length : Int) != (l.length : Int)) 2, Mo.allw u (-999999999) 999999999] = 0) := Lib.hid (by rw [HFE.out, ← HF.out, hF0])
  have HG := Lib.hid g
  have HXA : Hid (¬ Im.Feas c l u → X = 19) := Lib.hid (fun h => by rw [HX.out]; exact potE_b HE0.out h)
  have HXB : Hid (Im.Feas c l u → X = 0) := Lib.hid (fun h => by rw [HX.out]; exact potE_c HE0.out h)
  have hn0 : 0 < m := by omega
  have HFT0 : Hid (FeasTo c l u 0 0) := Lib.hid (FeasTo.zero _ _ _)
  clear hbd hF0
  obtain ⟨ub, uoff, rfl, HCU⟩ := HU.cellA hn0
  have HCUH := Lib.hid HCU
  clear HCU
  go_wp2_with fail
  go_loopw [12] (fun i wr => ∃ k : Nat, k ≤ m ∧ i = .int .i64 k ∧ Hid (FeasTo c l u k 0) ∧ Below w1.heap.size w1 wr) (fun i _ => m - (intOf i).toNat)
  case atStart => exact ⟨0, Nat.zero_le _, rfl, HFT0, Below.refl _ _⟩
  case round =>
    clear HFT0
    obtain ⟨a, hka, rfl, HFT, hbr⟩ := hrel
    obtain ⟨w2, hww⟩ : ∃ W, W = wr := ⟨_, rfl⟩
    subst hww
    have hB2 := hB1.call hbr rfl
    replace hT0 := blkb hT0 hbr
    replace H := H.below hbr
    clear hB1
    have qhT0_0 : w2.cell? ⟨w.heap.size, 0, none⟩ = some (.int .i64 c) := cell_at hT0 rfl
    have qhT0_1 : w2.cell? ⟨w.heap.size, 1, none⟩ = some (.int .i64 r) := cell_at hT0 rfl
    have qhT0_2 : w2.cell? ⟨w.heap.size, 2, none⟩ = some (.slice A m cap) := cell_at hT0 rfl
    have hwk : IntKind.i64.wrap ((a : Int) + 1) = ((a + 1 : Nat) : Int) := by rw [wrapI (by omega)]; simp
    by_cases hlt : a < m
    rotate_left
    · obtain rfl : m = a := by omega
      have HFS : Hid (Im.Feas c l u) := Lib.hid (HFT.out.done (by rw [HLN.out]; exact Nat.le_refl _))
      have HR : Hid (X = 0) := Lib.hid (HXB.out HFS.out)
      have HR2 : Hid (V = Im.at0 u d - Im.at0 u s) := Lib.hid (by rw [HVX.out, if_pos HR.out])
      have h1 := (HUB.out d)
      have h2 := (HUB.out s)
      have hws : IntKind.i64.wrap (Im.at0 u d - Im.at0 u s) = Im.at0 u d - Im.at0 u s := wrapI (by omega)
      have hub := (HCUH.out _ hbr).1
      have qd := (HCUH.out _ hbr).2 d hd
      have qs := (HCUH.out _ hbr).2 s hs
      have hd2 : (d : Int) < (m : Int) := by omega
      have hd0 : (0 : Int) ≤ (d : Int) := by omega
      have hs2 : (s : Int) < (m : Int) := by omega
      have hs0 : (0 : Int) ≤ (s : Int) := by omega
      generalize Im.at0 u d = x at HR2 hws qd
      generalize Im.at0 u s = y at HR2 hws qs
      clear h1 h2
      go_wp2_with fail
      refine wp_region_growG (by kernel_rfl) (by kernel_rfl) ?_
      repeat (go_big_quiet_step ((first | fail)))
      refine wpQuiet_nil (gw_out ?_)
      intro w9 hb9
      have HB9 := Lib.hid (hB2.call hb9 rfl)
      clear hb9
      go_wp2
      go_ret2
      exact ⟨by rw [HR.out, HR2.out]; rfl, HB9.out⟩
    have ha2 : (a : Int) < (m : Int) := by omega
    have ha0 : (0 : Int) ≤ (a : Int) := by omega
    go_wp2_with fail
    go_loopw [13] (fun i wr => ∃ k : Nat, k ≤ m ∧ i = .int .i64 k ∧ Hid (FeasTo c l u a k) ∧ Below w2.heap.size w2 wr) (fun i _ => m - (intOf i).toNat)
    case atStart => exact ⟨0, Nat.zero_le _, rfl, HFT, Below.refl _ _⟩
    case round =>
      clear HFT
      obtain ⟨b, hkb, rfl, HFT, hbq⟩ := hrel
      obtain ⟨w3, hww⟩ : ∃ W, W = wr := ⟨_, rfl⟩
      subst hww
      have hB3 := hB2.call hbq rfl
      replace hT0 := blkb hT0 hbq
      replace H := H.below hbq
      replace hbr := hbr.call hbq rfl
      clear hB2
      have qhT0_0 : w3.cell? ⟨w.heap.size, 0, none⟩ = some (.int .i64 c) := cell_at hT0 rfl
      have qhT0_1 : w3.cell? ⟨w.heap.size, 1, none⟩ = some (.int .i64 r) := cell_at hT0 rfl
      have qhT0_2 : w3.cell? ⟨w.heap.size, 2, none⟩ = some (.slice A m cap) := cell_at hT0 rfl
      have hwb : IntKind.i64.wrap ((b : Int) + 1) = ((b + 1 : Nat) : Int) := by rw [wrapI (by omega)]; simp
      by_cases hlb : b < m
      rotate_left
      · obtain rfl : m = b := by omega
        have HF2 : Hid (FeasTo c l u (a + 1) 0) := Lib.hid (HFT.out.row (by rw [HLN.out]; exact Nat.le_refl _))
        have HN := Lib.hid hbr
        clear hbr
        go_wp2
        go_roundw
        case rel => exact ⟨a + 1, by omega, by go_num, HF2, HN.out⟩
        case measure => simp [intOf]; omega
      have hb2 : (b : Int) < (m : Int) := by omega
      have hb0 : (0 : Int) ≤ (b : Int) := by omega
      go_wp2_with fail
      refine (c61 c r A m cap l a b _ g hl hc hlt hlb H).mono ?_
      rintro e w4 ⟨rfl, hb⟩
      clear qhT0_0 qhT0_1 qhT0_2
      have hS := hb
      have hB4 := hB3.call hS rfl
      replace hT0 := blkb hT0 hS
      replace H := H.below hS
      replace hbr := hbr.call hS rfl
      replace hbq := hbq.call hS rfl
      clear hS hB3
      have qhT0_0 : w4.cell? ⟨w.heap.size, 0, none⟩ = some (.int .i64 c) := cell_at hT0 rfl
      have qhT0_1 : w4.cell? ⟨w.heap.size, 1, none⟩ = some (.int .i64 r) := cell_at hT0 rfl
      have qhT0_2 : w4.cell? ⟨w.heap.size, 2, none⟩ = some (.slice A m cap) := cell_at hT0 rfl
      clear hb
      have HST := Lib.hid (HFT.out.step)
      have HBAD : Hid (0 < Im.cost c l a b → Im.cost c l a b < Im.at0 u b - Im.at0 u a → ¬ Im.Feas c l u) := Lib.hid (fun h1 h2 h3 => by
        have := h3 a b (by rw [HLN.out]; exact hlt) (by rw [HLN.out]; exact hlb) h1
        omega)
      have hub := (HCUH.out _ hbr).1
      have qa := (HCUH.out _ hbr).2 a hlt
      have qb := (HCUH.out _ hbr).2 b hlb
      have h1 := HUB.out a
      have h2 := HUB.out b
      have hws : IntKind.i64.wrap (Im.at0 u b - Im.at0 u a) = Im.at0 u b - Im.at0 u a := wrapI (by omega)
      clear h1 h2
      generalize Im.at0 u a = x at qa hws HST HBAD
      generalize Im.at0 u b = y at qb hws HST HBAD
      generalize Im.cost c l a b = C at HST HBAD ⊢
      have HN := Lib.hid hbq
      have HB := Lib.hid hB4
      clear hbq
      by_cases hbad : 0 < C ∧ C < y - x
      rotate_left
      ·
          have HS := Lib.hid (HST.out hbad)
          by_cases hC0 : 0 < C
          ·
              have hd1 : decide (0 < C) = true := by simpa using hC0
              have hd2 : decide (C < y - x) = false := by simp; omega
              clear hC0 hbad
              go_wp2
              refine wp_region_growG (by kernel_rfl) (by kernel_rfl) ?_
              repeat (go_big_quiet_step ((first | fail)))
              refine wpQuiet_nil (gw_out ?_)
              intro w9 hb9
              have HN2 := Lib.hid (HN.out.call hb9 rfl)
              clear hb9
              go_wp2
              go_roundw
              case rel => exact ⟨b + 1, by omega, by go_num, HS, HN2.out⟩
              case measure => simp [intOf]; omega
          ·
              have hd1 : decide (0 < C) = false := by simpa using hC0
              clear hC0 hbad
              go_wp2
              refine wp_region_growG (by kernel_rfl) (by kernel_rfl) ?_
              repeat (go_big_quiet_step ((first | fail)))
              refine wpQuiet_nil (gw_out ?_)
              intro w9 hb9
              have HN2 := Lib.hid (HN.out.call hb9 rfl)
              clear hb9
              go_wp2
              go_roundw
              case rel => exact ⟨b + 1, by omega, by go_num, HS, HN2.out⟩
              case measure => simp [intOf]; omega
      have hd1 : decide (0 < C) = true := by simpa using hbad.1
      have hd2 : decide (C < y - x) = true := by simpa using hbad.2
      have HR : Hid (X = 19) := Lib.hid (HXA.out (HBAD.out hbad.1 hbad.2))
      have HR2 : Hid (V = 0) := Lib.hid (by rw [HVX.out, if_neg (by rw [HR.out]; decide)])
      clear hbad
      go_wp2
      refine wp_region_growG (by kernel_rfl) (by kernel_rfl) ?_
      repeat (go_big_quiet_step ((first | fail)))
      refine wpQuiet_nil (gw_out ?_)
      intro w9 hb9
      have HB2 := Lib.hid (HB.out.call hb9 rfl)
      clear hb9
      go_wp2
      go_ret2
      exact ⟨by rw [HR.out, HR2.out]; rfl, HB2.out⟩

end Go.Proofs.YtdimmlljjmmdbaaGreatDoor
namespace Go.Proofs.YtdimmlljjmmdbaaGreatDoor
open Go.RowKit Go.Shelf
set_option maxHeartbeats 8000000
set_option maxRecDepth 100000
open Classical in
/-- what is wrong with the times from a cell -/
noncomputable def tmE (c : Nat) (l u : List Int) (s : Nat) : Int := if u.length ≠ l.length then 2 else if u = Im.times c l s then 0 else 19

theorem c78_bad (c r : Int) (A : Option Addr) (n cap : Nat) (l : List Int) (s : Int) (U : Option Addr) (m capu : Nat) (u : List Int) (w : World) (hl : n ≤ 1000000) (H : RdI w A n l) (hE : Mo.first [Mo.ground c r l, Mo.cell n s] ≠ 0) :
   Calls Tryz.prog 78 #[.agg #[.int .i64 c, .int .i64 r, .slice A n cap], .int .i64 s, .slice U m capu] w fun en w' => en = .returned (.int .i64 (Mo.first [Mo.ground c r l, Mo.cell n s])) ∧ Below w.heap.size w w' := by
  obtain ⟨E, hE1⟩ : ∃ E, E = Mo.cells c r l n [s] := ⟨_, rfl⟩
  rw [← Mo.cells1, ← hE1] at hE ⊢
  have hef : (E != 0) = true := by simpa using hE
  have HE := Lib.hid hE1
  clear hE hE1
  obtain ⟨w0, hW⟩ : ∃ W, W = w.alloc (Obj.cells #[.int .i64 c, .int .i64 r, .slice A n cap] 24) := ⟨_, rfl⟩
  have hT0 : w0.heap[w.heap.size]? = some (.cells #[.int .i64 c, .int .i64 r, .slice A n cap] 24 (0, 0)) := by rw [hW]; exact heap_new (by simp)
  have hB0 : Below w.heap.size w w0 := by rw [hW]; exact ((Below.refl _ _).alloc (by first | omega | (simp <;> omega)) _)
  replace H := H.below hB0
  go_enter Tryz.func78, Tryz.ntmps78
  go_wp2_with fail
  rw [← hW]
  have hsz0 : w0.heap.size = w.heap.size + 1 := by rw [hW]; simp
  clear hW
  have qhT0_0 : w0.cell? ⟨w.heap.size, 0, none⟩ = some (.int .i64 c) := cell_at hT0 rfl
  have qhT0_1 : w0.cell? ⟨w.heap.size, 1, none⟩ = some (.int .i64 r) := cell_at hT0 rfl
  have qhT0_2 : w0.cell? ⟨w.heap.size, 2, none⟩ = some (.slice A n cap) := cell_at hT0 rfl
  go_wp2_with fail
  refine (c60 c r A n cap l _ 1 1 [(s : Int)] _ hl (by omega) (H.below (below1a _ _)) (rd1 hsz0 _)).mono ?_
  rintro e w1 ⟨rfl, hb⟩
  clear qhT0_0 qhT0_1 qhT0_2
  have hS := (below1a _ _).call hb rfl
  have hB1 := hB0.call hS rfl
  replace hT0 := blkb hT0 hS
  replace H := H.below hS
  clear hS hB0
  have qhT0_0 : w1.cell? ⟨w.heap.size, 0, none⟩ = some (.int .i64 c) := cell_at hT0 rfl
  have qhT0_1 : w1.cell? ⟨w.heap.size, 1, none⟩ = some (.int .i64 r) := cell_at hT0 rfl
  have qhT0_2 : w1.cell? ⟨w.heap.size, 2, none⟩ = some (.slice A n cap) := cell_at hT0 rfl
  clear hb
  rw [← HE.out]
  go_wp2
  go_ret
  exact ⟨rfl, hB1⟩

theorem c78_ok (c r : Nat) (A : Option Addr) (n cap : Nat) (l : List Int) (s : Nat) (U : Option Addr) (m capu : Nat) (u : List Int) (w : World) (g : Im.Gr c r l) (hc : c ≤ 16) (hr : r ≤ 16) (H : RdI w A n l) (hs : s < n) (hm : m ≤ 1000000) (HU : RdI w U m u) :
   Calls Tryz.prog 78 #[.agg #[.int .i64 c, .int .i64 r, .slice A n cap], .int .i64 s, .slice U m capu] w fun en w' => en = .returned (.int .i64 (tmE c l u s)) ∧ Below w.heap.size w w' := by
  have hl : n ≤ 1000000 := by have := H.len; have := g.len; have : c * r ≤ 256 := Nat.mul_le_mul hc hr; omega
  have HLN := Lib.hid H.len
  have HUN := Lib.hid HU.len
  obtain ⟨X, hX⟩ : ∃ X, X = tmE c l u s := ⟨_, rfl⟩
  rw [← hX]
  have HX := Lib.hid hX
  have HXA : Hid (m ≠ n → X = 2) := Lib.hid (fun h => by rw [hX]; unfold tmE; rw [if_pos (by rw [HUN.out, HLN.out]; exact h)])
  have HXB : Hid (m = n → u = Im.times c l s → X = 0) := Lib.hid (fun h h2 => by rw [hX]; unfold tmE; rw [if_neg (by rw [HUN.out, HLN.out]; omega), if_pos h2])
  have HXC : Hid (m = n → ¬ u = Im.times c l s → X = 19) := Lib.hid (fun h h2 => by rw [hX]; unfold tmE; rw [if_neg (by rw [HUN.out, HLN.out]; omega), if_neg h2])
  clear hX
  have HZ : Hid (Mo.cells c r l n [(s : Int)] = 0) := Lib.hid (by rw [Mo.cells1]; exact first2 (Mo.ground_of g hc hr) (Mo.cell_ok.2 (by omega)))
  obtain ⟨w0, hW⟩ : ∃ W, W = w.alloc (Obj.cells #[.int .i64 c, .int .i64 r, .slice A n cap] 24) := ⟨_, rfl⟩
  have hT0 : w0.heap[w.heap.size]? = some (.cells #[.int .i64 c, .int .i64 r, .slice A n cap] 24 (0, 0)) := by rw [hW]; exact heap_new (by simp)
  have hB0 : Below w.heap.size w w0 := by rw [hW]; exact ((Below.refl _ _).alloc (by first | omega | (simp <;> omega)) _)
  replace H := H.below hB0
  replace HU := HU.below hB0
  go_enter Tryz.func78, Tryz.ntmps78
  go_wp2_with fail
  rw [← hW]
  have hsz0 : w0.heap.size = w.heap.size + 1 := by rw [hW]; simp
  clear hW
  have qhT0_0 : w0.cell? ⟨w.heap.size, 0, none⟩ = some (.int .i64 c) := cell_at hT0 rfl
  have qhT0_1 : w0.cell? ⟨w.heap.size, 1, none⟩ = some (.int .i64 r) := cell_at hT0 rfl
  have qhT0_2 : w0.cell? ⟨w.heap.size, 2, none⟩ = some (.slice A n cap) := cell_at hT0 rfl
  go_wp2_with fail
  refine (c60 c r A n cap l _ 1 1 [(s : Int)] _ hl (by omega) (H.below (below1a _ _)) (rd1 hsz0 _)).mono ?_
  rintro e w1 ⟨rfl, hb⟩
  clear qhT0_0 qhT0_1 qhT0_2
  have hS := (below1a _ _).call hb rfl
  have hB1 := hB0.call hS rfl
  replace hT0 := blkb hT0 hS
  replace H := H.below hS
  replace HU := HU.below hS
  clear hS hB0
  have qhT0_0 : w1.cell? ⟨w.heap.size, 0, none⟩ = some (.int .i64 c) := cell_at hT0 rfl
  have qhT0_1 : w1.cell? ⟨w.heap.size, 1, none⟩ = some (.int .i64 r) := cell_at hT0 rfl
  have qhT0_2 : w1.cell? ⟨w.heap.size, 2, none⟩ = some (.slice A n cap) := cell_at hT0 rfl
  clear hb
  rw [HZ.out]
  by_cases hnm : m = n
  rotate_left
  ·
      have hne : ((m : Int) != (n : Int)) = true := by simp; omega
      have HR := Lib.hid (HXA.out hnm)
      clear hnm
      go_wp2
      go_ret
      exact ⟨by rw [HR.out]; rfl, hB1⟩
  have hne : ((m : Int) != (n : Int)) = false := by simp; omega
  have HNM := Lib.hid hnm
  clear hnm
  go_wp2_with fail
  refine (c63 c r A n cap l s _ g hc hr hs H).mono ?_
  rintro e w2 ⟨og, cp, t, rfl, hrow, hT, hb⟩
  clear qhT0_0 qhT0_1 qhT0_2
  have hS := hb
  have hB2 := hB1.call hS rfl
  replace hT0 := blkb hT0 hS
  replace H := H.below hS
  replace HU := HU.below hS
  clear hS hB1
  have qhT0_0 : w2.cell? ⟨w.heap.size, 0, none⟩ = some (.int .i64 c) := cell_at hT0 rfl
  have qhT0_1 : w2.cell? ⟨w.heap.size, 1, none⟩ = some (.int .i64 r) := cell_at hT0 rfl
  have qhT0_2 : w2.cell? ⟨w.heap.size, 2, none⟩ = some (.slice A n cap) := cell_at hT0 rfl
  clear hb
  have HT := Lib.hid (Im.times_eq hT)
  clear hT
  go_wp2_with fail
  refine (c30 U _ m n capu cp u t _ hm hl HU hrow.rd).mono ?_
  rintro e w3 ⟨rfl, hb⟩
  clear qhT0_0 qhT0_1 qhT0_2
  have hS := hb
  have hB3 := hB2.call hS rfl
  replace hT0 := blkb hT0 hS
  replace H := H.below hS
  replace HU := HU.below hS
  replace hrow := hrow.below hS
  clear hS hB2
  have qhT0_0 : w3.cell? ⟨w.heap.size, 0, none⟩ = some (.int .i64 c) := cell_at hT0 rfl
  have qhT0_1 : w3.cell? ⟨w.heap.size, 1, none⟩ = some (.int .i64 r) := cell_at hT0 rfl
  have qhT0_2 : w3.cell? ⟨w.heap.size, 2, none⟩ = some (.slice A n cap) := cell_at hT0 rfl
  clear hb
  by_cases hut : u = t
  ·
      have hd : decide (u = t) = true := by simpa using hut
      have HR : Hid (X = 0) := Lib.hid (HXB.out HNM.out (by rw [HT.out]; exact hut))
      clear hut
      go_wp2
      go_ret
      exact ⟨by rw [HR.out]; rfl, hB3⟩
  have hd : decide (u = t) = false := by simpa using hut
  have HR : Hid (X = 19) := Lib.hid (HXC.out HNM.out (by rw [HT.out]; exact hut))
  clear hut
  go_wp2
  go_ret
  exact ⟨by rw [HR.out]; rfl, hB3⟩

theorem c75_bad (c r : Int) (A : Option Addr) (n cap : Nat) (l : List Int) (s : Int) (U : Option Addr) (m capu : Nat) (u : List Int) (w : World) (hl : n ≤ 1000000) (H : RdI w A n l) (hE : Mo.first [Mo.ground c r l, Mo.cell n s] ≠ 0) :
   Calls Tryz.prog 75 #[.agg #[.int .i64 c, .int .i64 r, .slice A n cap], .int .i64 s, .slice U m capu] w fun en w' => en = .returned (.int .i64 (Mo.first [Mo.ground c r l, Mo.cell n s])) ∧ Below w.heap.size w w' := by
  obtain ⟨E, hE1⟩ : ∃ E, E = Mo.first [Mo.ground c r l, Mo.cell n s] := ⟨_, rfl⟩
  have K58 : Hid (∀ W : World, RdI W A n l → Calls Tryz.prog 58 #[.agg #[.int .i64 c, .int .i64 r, .slice A n cap], .int .i64 s] W fun en w' => en = .returned (.tuple #[.slice none 0 0, .int .i64 E]) ∧ Below W.heap.size W w') := Lib.hid (fun W h => by rw [hE1]; exact c58_bad c r A n cap l s W hl h hE)
  rw [← hE1] at hE ⊢
  have hef : (E != 0) = true := by simpa using hE
  have hef2 : (E == 0) = false := by simpa using hE
  have HF : Hid (Mo.first [E, Mo.when false 2] = E) := Lib.hid (Mo.first_nz hE _)
  clear hE hE1
  obtain ⟨w0, hW⟩ : ∃ W, W = w.alloc (Obj.cells #[.int .i64 c, .int .i64 r, .slice A n cap] 35) := ⟨_, rfl⟩
  have hT0 : w0.heap[w.heap.size]? = some (.cells #[.int .i64 c, .int .i64 r, .slice A n cap] 35 (0, 0)) := by rw [hW]; exact heap_new (by simp)
  have hB0 : Below w.heap.size w w0 := by rw [hW]; exact ((Below.refl _ _).alloc (by first | omega | (simp <;> omega)) _)
  replace H := H.below hB0
  go_enter Tryz.func75, Tryz.ntmps75
  go_wp2_with fail
  rw [← hW]
  clear hW
  have qhT0_0 : w0.cell? ⟨w.heap.size, 0, none⟩ = some (.int .i64 c) := cell_at hT0 rfl
  have qhT0_1 : w0.cell? ⟨w.heap.size, 1, none⟩ = some (.int .i64 r) := cell_at hT0 rfl
  have qhT0_2 : w0.cell? ⟨w.heap.size, 2, none⟩ = some (.slice A n cap) := cell_at hT0 rfl
  go_wp2_with fail
  refine (K58.out _ H).mono ?_
  rintro e w1 ⟨rfl, hb⟩
  clear qhT0_0 qhT0_1 qhT0_2
  have hS := hb
  have hB1 := hB0.call hS rfl
  replace hT0 := blkb hT0 hS
  replace H := H.below hS
  clear hS hB0
  have qhT0_0 : w1.cell? ⟨w.heap.size, 0, none⟩ = some (.int .i64 c) := cell_at hT0 rfl
  have qhT0_1 : w1.cell? ⟨w.heap.size, 1, none⟩ = some (.int .i64 r) := cell_at hT0 rfl
  have qhT0_2 : w1.cell? ⟨w.heap.size, 2, none⟩ = some (.slice A n cap) := cell_at hT0 rfl
  clear hb
  go_wp2_with fail
  refine (c94 false 2 _).mono ?_
  rintro e w' ⟨rfl, rfl⟩
  go_wp2_with fail
  refine (c89 _ 2 2 [E, Mo.when false 2] _ rfl (by omega) (RdS.of_new (cs := encI [E, Mo.when false 2]) rfl rfl)).mono ?_
  rintro e w' ⟨rfl, rfl⟩
  obtain ⟨w2, hwn⟩ : ∃ V, V = w1.alloc (Obj.cells (encI [E, Mo.when false 2]).toArray 32) := ⟨_, rfl⟩
  have hbn : Below w1.heap.size w1 w2 := by rw [hwn]; exact (Below.refl _ _).alloc (Nat.le_refl _) _
  try rw [← hwn]
  clear hwn
  clear qhT0_0 qhT0_1 qhT0_2
  have hS := hbn
  have hB2 := hB1.call hS rfl
  replace hT0 := blkb hT0 hS
  replace H := H.below hS
  clear hS hB1
  have qhT0_0 : w2.cell? ⟨w.heap.size, 0, none⟩ = some (.int .i64 c) := cell_at hT0 rfl
  have qhT0_1 : w2.cell? ⟨w.heap.size, 1, none⟩ = some (.int .i64 r) := cell_at hT0 rfl
  have qhT0_2 : w2.cell? ⟨w.heap.size, 2, none⟩ = some (.slice A n cap) := cell_at hT0 rfl
  clear hbn
  rw [HF.out]
  go_wp2
  go_ret
  exact ⟨rfl, hB2⟩

theorem c75_ok (c r : Nat) (A : Option Addr) (n cap : Nat) (l : List Int) (s : Nat) (U : Option Addr) (m capu : Nat) (u : List Int) (w : World) (g : Im.Gr c r l) (hc : c ≤ 16) (hr : r ≤ 16) (H : RdI w A n l) (hs : s < n) (hm : m ≤ 1000000) (HU : RdI w U m u) (hst : Steps w) :
   Calls Tryz.prog 75 #[.agg #[.int .i64 c, .int .i64 r, .slice A n cap], .int .i64 s, .slice U m capu] w fun en w' => en = .returned (.int .i64 (tmE c l u s)) ∧ Below w.heap.size w w' := by
  have hl : n ≤ 1000000 := by have := H.len; have := g.len; have : c * r ≤ 256 := Nat.mul_le_mul hc hr; omega
  have HLN := Lib.hid H.len
  have HUN := Lib.hid HU.len
  obtain ⟨X, hX⟩ : ∃ X, X = tmE c l u s := ⟨_, rfl⟩
  rw [← hX]
  have HX := Lib.hid hX
  have HXA : Hid (m ≠ n → X = 2) := Lib.hid (fun h => by rw [hX]; unfold tmE; rw [if_pos (by rw [HUN.out, HLN.out]; exact h)])
  have HXB : Hid (m = n → u = Im.times c l s → X = 0) := Lib.hid (fun h h2 => by rw [hX]; unfold tmE; rw [if_neg (by rw [HUN.out, HLN.out]; omega), if_pos h2])
  have HXC : Hid (m = n → ¬ u = Im.times c l s → X = 19) := Lib.hid (fun h h2 => by rw [hX]; unfold tmE; rw [if_neg (by rw [HUN.out, HLN.out]; omega), if_neg h2])
  clear hX
  obtain ⟨w0, hW⟩ : ∃ W, W = w.alloc (Obj.cells #[.int .i64 c, .int .i64 r, .slice A n cap] 35) := ⟨_, rfl⟩
  have hT0 : w0.heap[w.heap.size]? = some (.cells #[.int .i64 c, .int .i64 r, .slice A n cap] 35 (0, 0)) := by rw [hW]; exact heap_new (by simp)
  have hB0 : Below w.heap.size w w0 := by rw [hW]; exact ((Below.refl _ _).alloc (by first | omega | (simp <;> omega)) _)
  replace H := H.below hB0
  replace HU := HU.below hB0
  replace hst := hst.below hB0
  go_enter Tryz.func75, Tryz.ntmps75
  go_wp2_with fail
  rw [← hW]
  clear hW
  have qhT0_0 : w0.cell? ⟨w.heap.size, 0, none⟩ = some (.int .i64 c) := cell_at hT0 rfl
  have qhT0_1 : w0.cell? ⟨w.heap.size, 1, none⟩ = some (.int .i64 r) := cell_at hT0 rfl
  have qhT0_2 : w0.cell? ⟨w.heap.size, 2, none⟩ = some (.slice A n cap) := cell_at hT0 rfl
  go_wp2_with fail
  refine (c58_ok c r A n cap l s _ g hc hr H hst hs).mono ?_
  rintro e w1 ⟨og, t, rfl, hge, ho, hT, hb⟩
  clear qhT0_0 qhT0_1 qhT0_2
  have hS := hb
  have hB1 := hB0.call hS rfl
  replace hT0 := blkb hT0 hS
  replace H := H.below hS
  replace HU := HU.below hS
  replace hst := hst.below hS
  clear hS hB0
  have qhT0_0 : w1.cell? ⟨w.heap.size, 0, none⟩ = some (.int .i64 c) := cell_at hT0 rfl
  have qhT0_1 : w1.cell? ⟨w.heap.size, 1, none⟩ = some (.int .i64 r) := cell_at hT0 rfl
  have qhT0_2 : w1.cell? ⟨w.heap.size, 2, none⟩ = some (.slice A n cap) := cell_at hT0 rfl
  clear hb
  have HT := Lib.hid (Im.times_eq hT)
  have HTN := Lib.hid (hT.len.trans H.len)
  clear hT hge
  by_cases hnm : m = n
  rotate_left
  ·
      have hne : ((m : Int) != (n : Int)) = true := by simp; omega
      have HR := Lib.hid (HXA.out hnm)
      have HF : Hid (Mo.first [0, Mo.when true 2] = 2) := Lib.hid rfl
      clear hnm
      go_wp2_with fail
      refine (c94 true 2 _).mono ?_
      rintro e w' ⟨rfl, rfl⟩
      go_wp2_with fail
      refine (c89 _ 2 2 [0, Mo.when true 2] _ rfl (by omega) (RdS.of_new (cs := encI [0, Mo.when true 2]) rfl rfl)).mono ?_
      rintro e w' ⟨rfl, rfl⟩
      obtain ⟨w2, hwn⟩ : ∃ V, V = w1.alloc (Obj.cells (encI [0, Mo.when true 2]).toArray 32) := ⟨_, rfl⟩
      have hbn : Below w1.heap.size w1 w2 := by rw [hwn]; exact (Below.refl _ _).alloc (Nat.le_refl _) _
      try rw [← hwn]
      clear hwn
      clear qhT0_0 qhT0_1 qhT0_2
      have hS := hbn
      have hB2 := hB1.call hS rfl
      replace hT0 := blkb hT0 hS
      replace H := H.below hS
      replace HU := HU.below hS
      replace hst := hst.below hS
      replace ho := blkb ho hS
      clear hS hB1
      have qhT0_0 : w2.cell? ⟨w.heap.size, 0, none⟩ = some (.int .i64 c) := cell_at hT0 rfl
      have qhT0_1 : w2.cell? ⟨w.heap.size, 1, none⟩ = some (.int .i64 r) := cell_at hT0 rfl
      have qhT0_2 : w2.cell? ⟨w.heap.size, 2, none⟩ = some (.slice A n cap) := cell_at hT0 rfl
      clear hbn
      rw [HF.out]
      go_wp2
      go_ret
      exact ⟨by rw [HR.out]; rfl, hB2⟩
  have hne : ((m : Int) != (n : Int)) = false := by simp; omega
  have HNM := Lib.hid hnm
  have HF : Hid (Mo.first [0, Mo.when false 2] = 0) := Lib.hid rfl
  clear hnm
  go_wp2_with fail
  refine (c94 false 2 _).mono ?_
  rintro e w' ⟨rfl, rfl⟩
  go_wp2_with fail
  refine (c89 _ 2 2 [0, Mo.when false 2] _ rfl (by omega) (RdS.of_new (cs := encI [0, Mo.when false 2]) rfl rfl)).mono ?_
  rintro e w' ⟨rfl, rfl⟩
  obtain ⟨w2, hwn⟩ : ∃ V, V = w1.alloc (Obj.cells (encI [0, Mo.when false 2]).toArray 32) := ⟨_, rfl⟩
  have hbn : Below w1.heap.size w1 w2 := by rw [hwn]; exact (Below.refl _ _).alloc (Nat.le_refl _) _
  try rw [← hwn]
  clear hwn
  clear qhT0_0 qhT0_1 qhT0_2
  have hS := hbn
  have hB2 := hB1.call hS rfl
  replace hT0 := blkb hT0 hS
  replace H := H.below hS
  replace HU := HU.below hS
  replace hst := hst.below hS
  replace ho := blkb ho hS
  clear hS hB1
  have qhT0_0 : w2.cell? ⟨w.heap.size, 0, none⟩ = some (.int .i64 c) := cell_at hT0 rfl
  have qhT0_1 : w2.cell? ⟨w.heap.size, 1, none⟩ = some (.int .i64 r) := cell_at hT0 rfl
  have qhT0_2 : w2.cell? ⟨w.heap.size, 2, none⟩ = some (.slice A n cap) := cell_at hT0 rfl
  clear hbn
  rw [HF.out]
  go_wp2_with fail
  refine (c133 U _ m n capu n u t _ hm hl HU (RdI.of_cells HTN.out ho)).mono ?_
  rintro e w3 ⟨rfl, hb⟩
  clear qhT0_0 qhT0_1 qhT0_2
  have hS := hb
  have hB3 := hB2.call hS rfl
  replace hT0 := blkb hT0 hS
  replace H := H.below hS
  replace HU := HU.below hS
  replace hst := hst.below hS
  replace ho := blkb ho hS
  clear hS hB2
  have qhT0_0 : w3.cell? ⟨w.heap.size, 0, none⟩ = some (.int .i64 c) := cell_at hT0 rfl
  have qhT0_1 : w3.cell? ⟨w.heap.size, 1, none⟩ = some (.int .i64 r) := cell_at hT0 rfl
  have qhT0_2 : w3.cell? ⟨w.heap.size, 2, none⟩ = some (.slice A n cap) := cell_at hT0 rfl
  clear hb
  by_cases hut : u = t
  ·
      have hd : decide (u = t) = true := by simpa using hut
      have HR : Hid (X = 0) := Lib.hid (HXB.out HNM.out (by rw [HT.out]; exact hut))
      have HW : Hid (Mo.when false 19 = 0) := Lib.hid rfl
      clear hut
      go_wp2_with fail
      refine (c94 false 19 _).mono ?_
      rintro e w' ⟨rfl, rfl⟩
      rw [HW.out]
      go_wp2
      go_ret
      exact ⟨by rw [HR.out]; rfl, hB3⟩
  have hd : decide (u = t) = false := by simpa using hut
  have HR : Hid (X = 19) := Lib.hid (HXC.out HNM.out (by rw [HT.out]; exact hut))
  have HW : Hid (Mo.when true 19 = 19) := Lib.hid rfl
  clear hut
  go_wp2_with fail
  refine (c94 true 19 _).mono ?_
  rintro e w' ⟨rfl, rfl⟩
  rw [HW.out]
  go_wp2
  go_ret
  exact ⟨by rw [HR.out]; rfl, hB3⟩

end Go.Proofs.YtdimmlljjmmdbaaGreatDoor
