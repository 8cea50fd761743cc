/- A part of the proofs about chapter 7 (image): contracts of functions and plain laws (V40, V41, V42, V43, V44, V45). -/
import Derived.Test.YtdimmlljjmmdbaaGreatDoorZ04g
import Derived.Test.YtdimmlljjmmdbaaGreatDoorZ04h
set_option linter.all false
namespace Go.Proofs.YtdimmlljjmmdbaaGreatDoor
open Go.RowKit
set_option maxHeartbeats 4000000
set_option maxRecDepth 20000
namespace Mo
/-- a quotient in lowest terms -/
def lown (num : Int) (den : Nat) : Int := num.tdiv (Nat.gcd num.natAbs den : Nat)
def lowd (num : Int) (den : Nat) : Int := ((den / Nat.gcd num.natAbs den : Nat) : Int)
end Mo
theorem c109 (num : Int) (den : Nat) (w : World) (hn : -1000000000 ≤ num ∧ num ≤ 1000000000) (hd : 1 ≤ den ∧ den ≤ 1000000000) :
  Calls Tryz.prog 109 #[.int .i64 num, .int .i64 (den : Int)] w fun en w' => en = .returned (.agg #[.int .i64 (Mo.lown num den), .int .i64 (Mo.lowd num den)]) ∧ Below w.heap.size w w' := by
 obtain ⟨W, hW⟩ : ∃ W, W = w.alloc (Obj.cells #[.int .i64 0, .int .i64 0] 61) := ⟨_, rfl⟩
 have hT : W.heap[w.heap.size]? = some (.cells #[.int .i64 0, .int .i64 0] 61 (0, 0)) := by rw [hW]; exact heap_new rfl
 have HB : Hid (Below w.heap.size w W) := Lib.hid (by rw [hW]; exact (Below.refl _ _).alloc (Nat.le_refl _) _)
 have hw1 : IntKind.i64.wrap (-num) = -num := wrapI (by omega)
 have hmx : max num (-num) = ((num.natAbs : Nat) : Int) := by omega
 obtain ⟨G, hG⟩ : ∃ G, G = Nat.gcd num.natAbs den := ⟨_, rfl⟩
 have HG := Lib.hid hG
 have HGP : Hid (0 < G) := Lib.hid (by rw [hG]; exact Nat.gcd_pos_of_pos_right _ hd.1)
 have HGL : Hid (G ≤ den) := Lib.hid (by rw [hG]; exact Nat.gcd_le_right _ hd.1)
 have HNA : Hid (num.natAbs ≤ 1000000000) := Lib.hid (by omega)
 have HV : Hid (Mo.lown num den = num.tdiv (G : Nat) ∧ Mo.lowd num den = ((den / G : Nat) : Int)) := Lib.hid (by rw [hG]; exact ⟨rfl, rfl⟩)
 clear hG
 go_enter Tryz.func109, Tryz.ntmps109
 go_wp2_with fail
 rw [← hW]
 clear hW
 go_loopw [5, 6] (fun a b wr => ∃ x y : Nat, a = .int .i64 (x : Int) ∧ b = .int .i64 (y : Int) ∧ Hid (Nat.gcd x y = G ∧ x ≤ 1000000000 ∧ y ≤ 1000000000) ∧ Hid (Below W.heap.size W wr)) (fun _ b _ => (intOf b).toNat)
 case atStart => exact ⟨num.natAbs, den, rfl, rfl, Lib.hid ⟨HG.out.symm, HNA.out, hd.2⟩, Lib.hid (Below.refl _ _)⟩
 case round =>
  obtain ⟨x, y, rfl, rfl, HXY, HBR⟩ := hrel
  by_cases hy : y = 0
  ·subst hy
   have hyf : (((0 : Nat) : Int) != 0) = false := rfl
   have hx : x = G := by have h := HXY.out.1; rwa [Nat.gcd_zero_right] at h
   subst hx
   have hg0 : ¬ ((x : Int) = 0) := by have := HGP.out; omega
   have e1 : (den : Int).tdiv (x : Int) = ((den / x : Nat) : Int) := (Int.ofNat_tdiv _ _).symm
   have e2 : IntKind.i64.wrap (num.tdiv (x : Int)) = num.tdiv (x : Int) := wrapI (by
    have h := Int.natAbs_tdiv_le_natAbs num (x : Int)
    omega)
   have hql := Nat.div_le_self den x
   have HV1 := HV.out.1
   have HV2 := HV.out.2
   obtain ⟨q, hq⟩ : ∃ q, q = den / x := ⟨_, rfl⟩
   rw [← hq] at e1 hql HV2
   have e3 : IntKind.i64.wrap (q : Int) = (q : Int) := wrapI (by omega)
   have HVV : Hid (Mo.lown num den = num.tdiv (x : Int) ∧ Mo.lowd num den = (q : Int)) := Lib.hid ⟨HV1, HV2⟩
   clear hq HV1 HV2 hmx hw1
   have hx0 : ¬ x = 0 := by omega
   go_wp2_with fail
   refine wp_region_splitG 7 (by kernel_rfl) (by kernel_rfl) ?_
   simp only [List.take_succ_cons, List.take_zero, List.drop_succ_cons, List.drop_zero]
   repeat (go_big_quiet_step ((first | fail)))
   refine wpQuiet_nil (gw_out ?_)
   intro wq hbq
   have hTq := blkb (blkb hT HBR.out) hbq
   have hBq := (HB.out.call HBR.out rfl).call hbq rfl
   have c0 : wq.cell? ⟨w.heap.size, 0, none⟩ = some (.int .i64 0) := cell_at hTq rfl
   have c1 : wq.cell? ⟨w.heap.size, 1, none⟩ = some (.int .i64 0) := cell_at hTq rfl
   have f0 : wq.frozen? ⟨w.heap.size, 0, none⟩ = false := free_at hTq
   have f1 : wq.frozen? ⟨w.heap.size, 1, none⟩ = false := free_at hTq
   have hT2 := set_blk (i := 1) (set_blk (i := 0) hTq (.int .i64 (num.tdiv (x : Int)))) (.int .i64 (q : Int))
   have hbf := (hBq.setCell (p := ⟨w.heap.size, 0, none⟩) (by show _ ≤ w.heap.size; omega) (.int .i64 (num.tdiv (x : Int)))).setCell (p := ⟨w.heap.size, 1, none⟩) (by show _ ≤ w.heap.size; omega) (.int .i64 (q : Int))
   have HT2 := Lib.hid hT2
   have HBF := Lib.hid hbf
   clear hT2 hbf hTq hBq hbq hT
   go_wp2_with fail
   exact bodyPost_ret (results_blk rfl rfl HT2.out _ Tryz.underlying61 rfl (by kernel_rfl)) rfl ⟨by rw [HVV.out.1, HVV.out.2]; rfl, HBF.out⟩
  ·have hyf : ((y : Int) != 0) = true := by simp; omega
   have hy0 : ¬ ((y : Int) = 0) := by omega
   have hml : x % y < y := Nat.mod_lt _ (by omega)
   have em0 : (x : Int).tmod (y : Int) = ((x % y : Nat) : Int) := (Int.ofNat_tmod _ _).symm
   have HXY2 : Hid (Nat.gcd y (x % y) = G ∧ y ≤ 1000000000 ∧ x % y ≤ 1000000000) := Lib.hid (by
    have h := HXY.out
    refine ⟨?_, h.2.2, by omega⟩
    rw [← h.1, Nat.gcd_comm x y, Nat.gcd_rec y x, Nat.gcd_comm])
   obtain ⟨q, hq⟩ : ∃ q, q = x % y := ⟨_, rfl⟩
   rw [← hq] at em0 HXY2 hml
   have hwm : IntKind.i64.wrap (q : Int) = (q : Int) := wrapI (by have := HXY2.out.2.2; omega)
   clear hq
   go_wp2
   refine wp_region_growG (by kernel_rfl) (by kernel_rfl) ?_
   repeat (go_big_quiet_step ((first | fail)))
   refine wpQuiet_nil (gw_out ?_)
   intro wq hwq
   have HBR2 : Hid (Below W.heap.size W wq) := Lib.hid (HBR.out.call hwq rfl)
   clear hwq
   go_wp2
   go_roundw
   case rel => exact ⟨y, q, rfl, rfl, HXY2, HBR2⟩
   case measure => simp [intOf]; omega
end Go.Proofs.YtdimmlljjmmdbaaGreatDoor
namespace Go.Proofs.YtdimmlljjmmdbaaGreatDoor
open Go.RowKit
set_option maxHeartbeats 4000000
set_option maxRecDepth 20000
namespace Mo
/-- what is wrong with traces and a cell; the amplitude -/
noncomputable def ampE (c r : Int) (l : List Int) (un len most : Int) (ps : List Pr) (d : List (List Int)) (i : Int) : Int := first [dta c r l un len most ps d, cell l.length i]
def cnt (dss : List (List Int)) (k : Nat) : Nat := dss.countP fun ds => decide (0 ≤ Im.at0 ds k)
def ampR (img : List Int) (many : Nat) (k : Nat) : (Int × Int) × Int := if many = 0 then ((0, 0), 17) else ((lown (Im.at0 img k) many, lowd (Im.at0 img k) many), 0)
end Mo
theorem cnt_take {dss : List (List Int)} {j k : Nat} {ds : List Int} (h : dss[j]? = some ds) : Mo.cnt (dss.take (j + 1)) k = Mo.cnt (dss.take j) k + if 0 ≤ Im.at0 ds k then 1 else 0 := by
 unfold Mo.cnt
 rw [List.take_add_one, h]
 simp [List.countP_append, List.countP_cons]
theorem image_le {n : Nat} {dss data : List (List Int)} (hn : ∀ ds, ds ∈ dss → ds.length = n) (hd : ∀ tr, tr ∈ data → ∀ x, x ∈ tr → -1048576 ≤ x ∧ x ≤ 1048576) (hl : dss.length = data.length) (h16 : dss.length ≤ 16) {k : Nat} (hk : k < n) :
  -16777216 ≤ Im.at0 (Im.image n dss data) k ∧ Im.at0 (Im.image n dss data) k ≤ 16777216 := by
 have h := Im.imgN_le (n := n) (dss := dss) (data := data) (B := 1048576) (by omega) hn hd hl dss.length (Nat.le_refl _) k hk
 rw [Im.imgN_full hl] at h
 have : (dss.length : Int) * 1048576 ≤ 16 * 1048576 := Int.mul_le_mul_of_nonneg_right (by omega) (by omega)
 omega
theorem c35_bad (c r : Int) (A : Option Addr) (n cap : Nat) (l : List Int) (un len most : Int) (P : Option Addr) (np capp : Nat) (ps : List Pr) (D : Option Addr) (md capd : Nat) (d : List (List Int)) (i : Int) (w : World) (hl : n ≤ 1000000) (hp : np ≤ 1000000) (hd : md ≤ 1000000) (hdl : ∀ x, x ∈ d → x.length ≤ 1000000) (HP : RdP w P np ps) (HD : RdD w D md d) (H : RdI w A n l) (hE : Mo.ampE c r l un len most ps d i ≠ 0) :
  Calls Tryz.prog 35 #[.agg #[.int .i64 c, .int .i64 r, .slice A n cap], .agg #[.int .i64 un, .int .i64 len, .int .i64 most, .slice P np capp], .slice D md capd, .int .i64 i] w fun en w' => en = .returned (.tuple #[.agg #[.int .i64 0, .int .i64 0], .int .i64 (Mo.ampE c r l un len most ps d i)]) ∧ Below w.heap.size w w' := by
 obtain ⟨E, hE0⟩ : ∃ E, E = Mo.ampE c r l un len most ps d i := ⟨_, rfl⟩
 have HE : Hid (Mo.first [Mo.first [Mo.surv c r l un len most ps, Mo.dat len ps d], Mo.cell n i] = E) := Lib.hid (by rw [hE0]; unfold Mo.ampE; rw [H.len]; rfl)
 rw [← hE0] at hE ⊢
 have hef : (E != 0) = true := by simpa using hE
 clear hE0 hE
 obtain ⟨w0, hW⟩ : ∃ W, W = ((w.alloc (Obj.cells #[.int .i64 c, .int .i64 r, .slice A n cap] 35)).alloc (Obj.cells #[.int .i64 un, .int .i64 len, .int .i64 most, .slice P np capp] 39)).alloc (Obj.cells #[.int .i64 0, .int .i64 0] 61) := ⟨_, rfl⟩
 have hT0 : w0.heap[w.heap.size]? = some (.cells #[.int .i64 c, .int .i64 r, .slice A n cap] 35 (0, 0)) := by rw [hW]; exact heap_old (by simp <;> omega) (heap_old (by simp <;> omega) (heap_new (by simp)))
 have hT1 : w0.heap[w.heap.size + 1]? = some (.cells #[.int .i64 un, .int .i64 len, .int .i64 most, .slice P np capp] 39 (0, 0)) := by rw [hW]; exact heap_old (by simp <;> omega) (heap_new (by simp))
 have hT2 : w0.heap[w.heap.size + 1 + 1]? = some (.cells #[.int .i64 0, .int .i64 0] 61 (0, 0)) := by rw [hW]; exact heap_new (by simp)
 have hB0 : Below w.heap.size w w0 := by rw [hW]; exact ((((Below.refl _ _).alloc (by first | omega | (simp <;> omega)) _).alloc (by first | omega | (simp <;> omega)) _).alloc (by first | omega | (simp <;> omega)) _)
 replace H := H.below hB0
 replace HP := HP.below hB0
 replace HD := HD.below hB0
 go_enter Tryz.func35, Tryz.ntmps35
 go_wp2_with fail
 rw [← hW]
 clear hW
 have qhT0_0 : w0.cell? ⟨w.heap.size, 0, none⟩ = some (.int .i64 c) := cell_at hT0 rfl
 have qhT0_1 : w0.cell? ⟨w.heap.size, 1, none⟩ = some (.int .i64 r) := cell_at hT0 rfl
 have qhT0_2 : w0.cell? ⟨w.heap.size, 2, none⟩ = some (.slice A n cap) := cell_at hT0 rfl
 have qhT1_0 : w0.cell? ⟨w.heap.size + 1, 0, none⟩ = some (.int .i64 un) := cell_at hT1 rfl
 have qhT1_1 : w0.cell? ⟨w.heap.size + 1, 1, none⟩ = some (.int .i64 len) := cell_at hT1 rfl
 have qhT1_2 : w0.cell? ⟨w.heap.size + 1, 2, none⟩ = some (.int .i64 most) := cell_at hT1 rfl
 have qhT1_3 : w0.cell? ⟨w.heap.size + 1, 3, none⟩ = some (.slice P np capp) := cell_at hT1 rfl
 have qhT2_0 : w0.cell? ⟨w.heap.size + 1 + 1, 0, none⟩ = some (.int .i64 0) := cell_at hT2 rfl
 have qhT2_1 : w0.cell? ⟨w.heap.size + 1 + 1, 1, none⟩ = some (.int .i64 0) := cell_at hT2 rfl
 refine wp_region_plan [(0, true), (1, true), (2, true), (4, true), (5, true), (3, false), (6, false), (7, false), (8, false), (9, true)] w0.heap.size (by kernel_rfl) (by kernel_rfl) (Nat.le_refl _) (fun _ _ d _ _ h => by cases d <;> exact h) ?_
 have hC : Below w0.heap.size w0 w0 := Below.refl _ _
 have zhT0 : w.heap.size < w0.heap.size := (Array.getElem?_eq_some_iff.1 hT0).1
 have zhT1 : w.heap.size + 1 < w0.heap.size := (Array.getElem?_eq_some_iff.1 hT1).1
 have zhT2 : w.heap.size + 1 + 1 < w0.heap.size := (Array.getElem?_eq_some_iff.1 hT2).1
 repeat (first | (refine wpPlanA_skip _ rfl (by rfl) ?_; simp only [Act.put, List.setIfInBounds_toArray, List.set_cons_zero, List.set_cons_succ]) | (refine wpPlanA_soft _ ?_ rfl (by rfl) ?_ ?_; rotate_left; (intro wq hq hcq; go_simp; first | exact rfl | exact ⟨rfl, rfl⟩); simp only [Act.put, List.setIfInBounds_toArray, List.set_cons_zero, List.set_cons_succ]))
 refine wpPlanA_hard _ rfl (by rfl) (fun w1 hS K hK => ?_)
 have hB1 := hB0.call hS rfl
 replace hC := hC.call hS rfl
 replace hT0 := blkb hT0 hS
 replace hT1 := blkb hT1 hS
 replace hT2 := blkb hT2 hS
 replace H := H.below hS
 replace HP := HP.below hS
 replace HD := HD.below hS
 clear hS hB0
 go_simp
 refine (c102 c r A n cap l un len most P np capp ps D md capd d _ hl hp hd hdl HP HD H).mono ?_
 rintro e w2 ⟨rfl, hb⟩
 have hB2 := hB1.call hb rfl
 replace hC := hC.call hb rfl
 replace hT0 := blkb hT0 hb
 replace hT1 := blkb hT1 hb
 replace hT2 := blkb hT2 hb
 replace H := H.below hb
 replace HP := HP.below hb
 replace HD := HD.below hb
 clear hb hB1
 refine hK _ _ hC ?_
 clear hK K
 try simp only [Act.put, List.setIfInBounds_toArray, List.set_cons_zero, List.set_cons_succ]
 refine wpPlanA_hard _ rfl (by rfl) (fun w3 hS K hK => ?_)
 have hB3 := hB2.call hS rfl
 replace hC := hC.call hS rfl
 replace hT0 := blkb hT0 hS
 replace hT1 := blkb hT1 hS
 replace hT2 := blkb hT2 hS
 replace H := H.below hS
 replace HP := HP.below hS
 replace HD := HD.below hS
 clear hS hB2
 go_simp
 refine (c97 c r A n cap i _).mono ?_
 rintro e w4 ⟨rfl, hb⟩
 have hB4 := hB3.call hb rfl
 replace hC := hC.call hb rfl
 replace hT0 := blkb hT0 hb
 replace hT1 := blkb hT1 hb
 replace hT2 := blkb hT2 hb
 replace H := H.below hb
 replace HP := HP.below hb
 replace HD := HD.below hb
 clear hb hB3
 refine hK _ _ hC ?_
 clear hK K
 try simp only [Act.put, List.setIfInBounds_toArray, List.set_cons_zero, List.set_cons_succ]
 refine wpPlanA_hard _ rfl (by rfl) (fun w5 hS K hK => ?_)
 have hB5 := hB4.call hS rfl
 replace hC := hC.call hS rfl
 replace hT0 := blkb hT0 hS
 replace hT1 := blkb hT1 hS
 replace hT2 := blkb hT2 hS
 replace H := H.below hS
 replace HP := HP.below hS
 replace HD := HD.below hS
 clear hS hB4
 go_simp
 have hb : Below w5.heap.size w5 (w5.alloc (Obj.cells #[.int .i64 (Mo.first [Mo.surv c r l un len most ps, Mo.dat len ps d]), .int .i64 (Mo.cell n i)] 32)) := (Below.refl _ _).alloc (Nat.le_refl _) _
 have k1 : (w5.alloc (Obj.cells #[.int .i64 (Mo.first [Mo.surv c r l un len most ps, Mo.dat len ps d]), .int .i64 (Mo.cell n i)] 32)).heap[w5.heap.size]? = some (Obj.cells #[.int .i64 (Mo.first [Mo.surv c r l un len most ps, Mo.dat len ps d]), .int .i64 (Mo.cell n i)] 32) := heap_new rfl
 refine hK _ _ (hC.alloc hC.size _) ?_
 clear hK K
 replace hC := hC.call hb rfl
 have hB6 := hB5.call hb rfl
 replace hT0 := blkb hT0 hb
 replace hT1 := blkb hT1 hb
 replace hT2 := blkb hT2 hb
 replace H := H.below hb
 replace HP := HP.below hb
 replace HD := HD.below hb
 clear hb hB5
 generalize hWn : w5.alloc (Obj.cells #[.int .i64 (Mo.first [Mo.surv c r l un len most ps, Mo.dat len ps d]), .int .i64 (Mo.cell n i)] 32) = w6 at k1 hC hB6 hT0 hT1 hT2 H HP HD ⊢
 clear hWn
 generalize hWn : w5.heap.size = bk1 at k1 ⊢
 clear hWn
 try simp only [Act.put, List.setIfInBounds_toArray, List.set_cons_zero, List.set_cons_succ]
 refine wpPlanA_hard _ rfl (by rfl) (fun w7 hS K hK => ?_)
 have hB7 := hB6.call hS rfl
 replace hC := hC.call hS rfl
 replace hT0 := blkb hT0 hS
 replace hT1 := blkb hT1 hS
 replace hT2 := blkb hT2 hS
 replace H := H.below hS
 replace HP := HP.below hS
 replace HD := HD.below hS
 replace k1 := blkb k1 hS
 clear hS hB6
 go_simp
 refine (c89 _ 2 2 [Mo.first [Mo.surv c r l un len most ps, Mo.dat len ps d], Mo.cell n i] _ rfl (by omega) (RdS.of_block (cs := encI [Mo.first [Mo.surv c r l un len most ps, Mo.dat len ps d], Mo.cell n i]) k1 rfl)).mono ?_
 rintro e w' ⟨rfl, rfl⟩
 refine hK _ _ hC ?_
 clear hK K
 try simp only [Act.put, List.setIfInBounds_toArray, List.set_cons_zero, List.set_cons_succ]
 repeat (first | (refine wpPlanA_skip _ rfl (by rfl) ?_; simp only [Act.put, List.setIfInBounds_toArray, List.set_cons_zero, List.set_cons_succ]) | (refine wpPlanA_soft _ ?_ rfl (by rfl) ?_ ?_; rotate_left; (intro wq hq hcq; go_simp; first | exact rfl | exact ⟨rfl, rfl⟩); simp only [Act.put, List.setIfInBounds_toArray, List.set_cons_zero, List.set_cons_succ]))
 clear k1
 clear qhT0_0 qhT0_1 qhT0_2 qhT1_0 qhT1_1 qhT1_2 qhT1_3 qhT2_0 qhT2_1
 refine wpPlanA_nil (fun w8 hS => ?_)
 clear hC zhT0 zhT1 zhT2
 have hB8 := hB7.call hS rfl
 replace hT0 := blkb hT0 hS
 replace hT1 := blkb hT1 hS
 replace hT2 := blkb hT2 hS
 replace H := H.below hS
 replace HP := HP.below hS
 replace HD := HD.below hS
 clear hS hB7
 have qhT0_0 : w8.cell? ⟨w.heap.size, 0, none⟩ = some (.int .i64 c) := cell_at hT0 rfl
 have qhT0_1 : w8.cell? ⟨w.heap.size, 1, none⟩ = some (.int .i64 r) := cell_at hT0 rfl
 have qhT0_2 : w8.cell? ⟨w.heap.size, 2, none⟩ = some (.slice A n cap) := cell_at hT0 rfl
 have qhT1_0 : w8.cell? ⟨w.heap.size + 1, 0, none⟩ = some (.int .i64 un) := cell_at hT1 rfl
 have qhT1_1 : w8.cell? ⟨w.heap.size + 1, 1, none⟩ = some (.int .i64 len) := cell_at hT1 rfl
 have qhT1_2 : w8.cell? ⟨w.heap.size + 1, 2, none⟩ = some (.int .i64 most) := cell_at hT1 rfl
 have qhT1_3 : w8.cell? ⟨w.heap.size + 1, 3, none⟩ = some (.slice P np capp) := cell_at hT1 rfl
 have qhT2_0 : w8.cell? ⟨w.heap.size + 1 + 1, 0, none⟩ = some (.int .i64 0) := cell_at hT2 rfl
 have qhT2_1 : w8.cell? ⟨w.heap.size + 1 + 1, 1, none⟩ = some (.int .i64 0) := cell_at hT2 rfl
 rw [HE.out]
 have f0 : w8.frozen? ⟨w.heap.size + 1 + 1, 0, none⟩ = false := free_at hT2
 have f1 : w8.frozen? ⟨w.heap.size + 1 + 1, 1, none⟩ = false := free_at hT2
 have hTs := set_blk (i := 1) (set_blk (i := 0) hT2 (.int .i64 (0))) (.int .i64 (0))
 have hbs := (hB8.setCell (p := ⟨w.heap.size + 1 + 1, 0, none⟩) (by show _ ≤ w.heap.size + 1 + 1; omega) (.int .i64 (0))).setCell (p := ⟨w.heap.size + 1 + 1, 1, none⟩) (by show _ ≤ w.heap.size + 1 + 1; omega) (.int .i64 (0))
 have HTS := Lib.hid hTs
 have HBS := Lib.hid hbs
 clear hTs hbs hT2 hB8
 go_wp2_with fail
 exact bodyPost_ret (results_blk_tmp rfl rfl HTS.out _ Tryz.underlying61 rfl (by kernel_rfl)) rfl ⟨rfl, HBS.out⟩
theorem c35_ok (c r : Nat) (A : Option Addr) (n cap : Nat) (l : List Int) (un : Int) (ln : Nat) (most : Int) (P : Option Addr) (np capp : Nat) (ps : List Pr) (D : Option Addr) (capd : Nat) (d : List (List Int)) (i : Nat) (w : World) (g : Im.Gr c r l) (hc : c ≤ 16) (hr : r ≤ 16) (hcp : np ≤ capp) (H : RdI w A n l) (HP : RdP w P np ps) (HD : RdD w D np d) (hst : Steps w) (hE : Mo.ampE c r l un ln most ps d i = 0) :
  Calls Tryz.prog 35 #[.agg #[.int .i64 c, .int .i64 r, .slice A n cap], .agg #[.int .i64 un, .int .i64 (ln : Nat), .int .i64 most, .slice P np capp], .slice D np capd, .int .i64 (i : Int)] w fun en w' => en = .returned (.tuple #[.agg #[.int .i64 (Mo.ampR (Im.image n (ps.map (dlp c l un ln most)) d) (Mo.cnt (ps.map (dlp c l un ln most)) i) i).1.1, .int .i64 (Mo.ampR (Im.image n (ps.map (dlp c l un ln most)) d) (Mo.cnt (ps.map (dlp c l un ln most)) i) i).1.2], .int .i64 (Mo.ampR (Im.image n (ps.map (dlp c l un ln most)) d) (Mo.cnt (ps.map (dlp c l un ln most)) i) i).2]) ∧ Below w.heap.size w w' := by
 have hz := Mo.first_zero hE
 obtain ⟨hS, hdn, hsd, hvd⟩ := Mo.dta_zero (hz _ List.mem_cons_self)
 have hci := Mo.cell_ok.1 (hz (Mo.cell l.length i) (by simp))
 obtain ⟨hG, hu, hln1, hmo, hnp, hcl⟩ := surv_ok hS
 obtain ⟨_, hd1, _⟩ := flat_facts (ln := ln) (by omega) hnp hdn hsd hvd
 have hl : n ≤ 1000000 := by have h1 := H.len; have := g.len; have : c * r ≤ 16 * 16 := Nat.mul_le_mul hc hr; omega
 have HLN := Lib.hid H.len
 have HPL := Lib.hid HP.len
 have hin : i < n := by rw [H.len] at hci; omega
 have hn0 : 0 < n := by omega
 have hpl := HP.len
 have hp : np ≤ 1000000 := by omega
 have hd := hp
 have hdl : ∀ x, x ∈ d → x.length ≤ 1000000 := fun x hx => by have := hd1 x hx; omega
 have HCL : Hid (∀ p, p ∈ ps → (0 ≤ p.s ∧ p.s < (n : Int)) ∧ (0 ≤ p.r ∧ p.r < (n : Int))) := Lib.hid (fun p hp => by have := hcl p hp; rw [H.len] at this; exact this)
 have hn16 : np ≤ 16 := by omega
 have hl256 : 1 ≤ ln ∧ ln ≤ 256 := by omega
 have HSD := Lib.hid hsd
 have HVD := Lib.hid hvd
 have HE : Hid (Mo.first [Mo.first [Mo.surv c r l un ln most ps, Mo.dat ln ps d], Mo.cell n i] = 0) := Lib.hid (by have h := hE; unfold Mo.ampE at h; rw [H.len] at h; exact h)
 obtain ⟨DS, hDS⟩ : ∃ T, T = ps.map (dlp c l un ln most) := ⟨_, rfl⟩
 have HDS := Lib.hid hDS
 have HDL : Hid (DS.length = np) := Lib.hid (by rw [hDS]; simp [hpl])
 have HIB := Lib.hid (image_le (n := n) (dss := DS) (data := d) (k := i) (fun ds hds => by rw [hDS] at hds; obtain ⟨p, _, rfl⟩ := List.mem_map.1 hds; rw [dlp_len, HLN.out]) hvd (by rw [HDL.out, hdn, hpl]) (by rw [HDL.out]; omega) hin)
 have HCT : Hid (∀ j, Mo.cnt (DS.take j) i ≤ 16) := Lib.hid (fun j => by
  have h1 : Mo.cnt (DS.take j) i ≤ (DS.take j).length := List.countP_le_length
  rw [List.length_take, HDL.out] at h1; omega)
 have HCF : Hid (Mo.cnt (DS.take np) i = Mo.cnt DS i) := Lib.hid (by rw [List.take_of_length_le (by rw [HDL.out]; exact Nat.le_refl _)])
 have HCN : Hid (∀ (j : Nat) (x : List Int), DS[j]? = some x → Mo.cnt (DS.take (j + 1)) i = Mo.cnt (DS.take j) i + if 0 ≤ Im.at0 x i then 1 else 0) := Lib.hid (fun j x h => cnt_take h)
 obtain ⟨R, hR⟩ : ∃ R, R = (Mo.ampR (Im.image n (ps.map (dlp c l un ln most)) d) (Mo.cnt (ps.map (dlp c l un ln most)) i) i) := ⟨_, rfl⟩
 rw [← hR]
 rw [← hDS] at hR
 have HRD := Lib.hid hR
 clear hR
 obtain ⟨ck, hck⟩ : ∃ f : Nat → Nat, f = fun j => Mo.cnt (DS.take j) i := ⟨_, rfl⟩
 have HC0 : Hid (ck 0 = 0) := Lib.hid (by rw [hck]; rfl)
 have HCK : Hid (∀ (j : Nat) (x : List Int), DS[j]? = some x → ck (j + 1) = ck j + if 0 ≤ Im.at0 x i then 1 else 0) := Lib.hid (fun j x h => by rw [hck]; exact HCN.out j x h)
 have HCB : Hid (∀ j, ck j ≤ 16) := Lib.hid (fun j => by rw [hck]; exact HCT.out j)
 have HCM : Hid (Mo.cnt DS i = ck np) := Lib.hid (by rw [hck]; exact HCF.out.symm)
 clear hE hS hG hmo hcl hpl hnp hz hdn hsd hvd hd1 hci hDS hck HCN HCT HCF
 obtain ⟨w0, hW⟩ : ∃ W, W = ((w.alloc (Obj.cells #[.int .i64 c, .int .i64 r, .slice A n cap] 35)).alloc (Obj.cells #[.int .i64 un, .int .i64 (ln : Nat), .int .i64 most, .slice P np capp] 39)).alloc (Obj.cells #[.int .i64 0, .int .i64 0] 61) := ⟨_, rfl⟩
 have hT0 : w0.heap[w.heap.size]? = some (.cells #[.int .i64 c, .int .i64 r, .slice A n cap] 35 (0, 0)) := by rw [hW]; exact heap_old (by simp <;> omega) (heap_old (by simp <;> omega) (heap_new (by simp)))
 have hT1 : w0.heap[w.heap.size + 1]? = some (.cells #[.int .i64 un, .int .i64 (ln : Nat), .int .i64 most, .slice P np capp] 39 (0, 0)) := by rw [hW]; exact heap_old (by simp <;> omega) (heap_new (by simp))
 have hT2 : w0.heap[w.heap.size + 1 + 1]? = some (.cells #[.int .i64 0, .int .i64 0] 61 (0, 0)) := by rw [hW]; exact heap_new (by simp)
 have hB0 : Below w.heap.size w w0 := by rw [hW]; exact ((((Below.refl _ _).alloc (by first | omega | (simp <;> omega)) _).alloc (by first | omega | (simp <;> omega)) _).alloc (by first | omega | (simp <;> omega)) _)
 replace H := H.below hB0
 replace HP := HP.below hB0
 replace HD := HD.below hB0
 replace hst := hst.below hB0
 go_enter Tryz.func35, Tryz.ntmps35
 go_wp2_with fail
 rw [← hW]
 clear hW
 have qhT0_0 : w0.cell? ⟨w.heap.size, 0, none⟩ = some (.int .i64 c) := cell_at hT0 rfl
 have qhT0_1 : w0.cell? ⟨w.heap.size, 1, none⟩ = some (.int .i64 r) := cell_at hT0 rfl
 have qhT0_2 : w0.cell? ⟨w.heap.size, 2, none⟩ = some (.slice A n cap) := cell_at hT0 rfl
 have qhT1_0 : w0.cell? ⟨w.heap.size + 1, 0, none⟩ = some (.int .i64 un) := cell_at hT1 rfl
 have qhT1_1 : w0.cell? ⟨w.heap.size + 1, 1, none⟩ = some (.int .i64 (ln : Nat)) := cell_at hT1 rfl
 have qhT1_2 : w0.cell? ⟨w.heap.size + 1, 2, none⟩ = some (.int .i64 most) := cell_at hT1 rfl
 have qhT1_3 : w0.cell? ⟨w.heap.size + 1, 3, none⟩ = some (.slice P np capp) := cell_at hT1 rfl
 have qhT2_0 : w0.cell? ⟨w.heap.size + 1 + 1, 0, none⟩ = some (.int .i64 0) := cell_at hT2 rfl
 have qhT2_1 : w0.cell? ⟨w.heap.size + 1 + 1, 1, none⟩ = some (.int .i64 0) := cell_at hT2 rfl
 refine wp_region_plan [(0, true), (1, true), (2, true), (4, true), (5, true), (3, false), (6, false), (7, false), (8, false), (9, true)] w0.heap.size (by kernel_rfl) (by kernel_rfl) (Nat.le_refl _) (fun _ _ d _ _ h => by cases d <;> exact h) ?_
 have hC : Below w0.heap.size w0 w0 := Below.refl _ _
 have zhT0 : w.heap.size < w0.heap.size := (Array.getElem?_eq_some_iff.1 hT0).1
 have zhT1 : w.heap.size + 1 < w0.heap.size := (Array.getElem?_eq_some_iff.1 hT1).1
 have zhT2 : w.heap.size + 1 + 1 < w0.heap.size := (Array.getElem?_eq_some_iff.1 hT2).1
 repeat (first | (refine wpPlanA_skip _ rfl (by rfl) ?_; simp only [Act.put, List.setIfInBounds_toArray, List.set_cons_zero, List.set_cons_succ]) | (refine wpPlanA_soft _ ?_ rfl (by rfl) ?_ ?_; rotate_left; (intro wq hq hcq; go_simp; first | exact rfl | exact ⟨rfl, rfl⟩); simp only [Act.put, List.setIfInBounds_toArray, List.set_cons_zero, List.set_cons_succ]))
 refine wpPlanA_hard _ rfl (by rfl) (fun w1 hS K hK => ?_)
 have hB1 := hB0.call hS rfl
 replace hC := hC.call hS rfl
 replace hT0 := blkb hT0 hS
 replace hT1 := blkb hT1 hS
 replace hT2 := blkb hT2 hS
 replace H := H.below hS
 replace HP := HP.below hS
 replace HD := HD.below hS
 replace hst := hst.below hS
 clear hS hB0
 go_simp
 refine (c102 c r A n cap l un ln most P np capp ps D np capd d _ hl hp hd hdl HP HD H).mono ?_
 rintro e w2 ⟨rfl, hb⟩
 have hB2 := hB1.call hb rfl
 replace hC := hC.call hb rfl
 replace hT0 := blkb hT0 hb
 replace hT1 := blkb hT1 hb
 replace hT2 := blkb hT2 hb
 replace H := H.below hb
 replace HP := HP.below hb
 replace HD := HD.below hb
 replace hst := hst.below hb
 clear hb hB1
 refine hK _ _ hC ?_
 clear hK K
 try simp only [Act.put, List.setIfInBounds_toArray, List.set_cons_zero, List.set_cons_succ]
 refine wpPlanA_hard _ rfl (by rfl) (fun w3 hS K hK => ?_)
 have hB3 := hB2.call hS rfl
 replace hC := hC.call hS rfl
 replace hT0 := blkb hT0 hS
 replace hT1 := blkb hT1 hS
 replace hT2 := blkb hT2 hS
 replace H := H.below hS
 replace HP := HP.below hS
 replace HD := HD.below hS
 replace hst := hst.below hS
 clear hS hB2
 go_simp
 refine (c97 c r A n cap i _).mono ?_
 rintro e w4 ⟨rfl, hb⟩
 have hB4 := hB3.call hb rfl
 replace hC := hC.call hb rfl
 replace hT0 := blkb hT0 hb
 replace hT1 := blkb hT1 hb
 replace hT2 := blkb hT2 hb
 replace H := H.below hb
 replace HP := HP.below hb
 replace HD := HD.below hb
 replace hst := hst.below hb
 clear hb hB3
 refine hK _ _ hC ?_
 clear hK K
 try simp only [Act.put, List.setIfInBounds_toArray, List.set_cons_zero, List.set_cons_succ]
 refine wpPlanA_hard _ rfl (by rfl) (fun w5 hS K hK => ?_)
 have hB5 := hB4.call hS rfl
 replace hC := hC.call hS rfl
 replace hT0 := blkb hT0 hS
 replace hT1 := blkb hT1 hS
 replace hT2 := blkb hT2 hS
 replace H := H.below hS
 replace HP := HP.below hS
 replace HD := HD.below hS
 replace hst := hst.below hS
 clear hS hB4
 go_simp
 have hb : Below w5.heap.size w5 (w5.alloc (Obj.cells #[.int .i64 (Mo.first [Mo.surv c r l un ln most ps, Mo.dat ln ps d]), .int .i64 (Mo.cell n i)] 32)) := (Below.refl _ _).alloc (Nat.le_refl _) _
 have k1 : (w5.alloc (Obj.cells #[.int .i64 (Mo.first [Mo.surv c r l un ln most ps, Mo.dat ln ps d]), .int .i64 (Mo.cell n i)] 32)).heap[w5.heap.size]? = some (Obj.cells #[.int .i64 (Mo.first [Mo.surv c r l un ln most ps, Mo.dat ln ps d]), .int .i64 (Mo.cell n i)] 32) := heap_new rfl
 refine hK _ _ (hC.alloc hC.size _) ?_
 clear hK K
 replace hC := hC.call hb rfl
 have hB6 := hB5.call hb rfl
 replace hT0 := blkb hT0 hb
 replace hT1 := blkb hT1 hb
 replace hT2 := blkb hT2 hb
 replace H := H.below hb
 replace HP := HP.below hb
 replace HD := HD.below hb
 replace hst := hst.below hb
 clear hb hB5
 generalize hWn : w5.alloc (Obj.cells #[.int .i64 (Mo.first [Mo.surv c r l un ln most ps, Mo.dat ln ps d]), .int .i64 (Mo.cell n i)] 32) = w6 at k1 hC hB6 hT0 hT1 hT2 H HP HD hst ⊢
 clear hWn
 generalize hWn : w5.heap.size = bk1 at k1 ⊢
 clear hWn
 try simp only [Act.put, List.setIfInBounds_toArray, List.set_cons_zero, List.set_cons_succ]
 refine wpPlanA_hard _ rfl (by rfl) (fun w7 hS K hK => ?_)
 have hB7 := hB6.call hS rfl
 replace hC := hC.call hS rfl
 replace hT0 := blkb hT0 hS
 replace hT1 := blkb hT1 hS
 replace hT2 := blkb hT2 hS
 replace H := H.below hS
 replace HP := HP.below hS
 replace HD := HD.below hS
 replace hst := hst.below hS
 replace k1 := blkb k1 hS
 clear hS hB6
 go_simp
 refine (c89 _ 2 2 [Mo.first [Mo.surv c r l un ln most ps, Mo.dat ln ps d], Mo.cell n i] _ rfl (by omega) (RdS.of_block (cs := encI [Mo.first [Mo.surv c r l un ln most ps, Mo.dat ln ps d], Mo.cell n i]) k1 rfl)).mono ?_
 rintro e w' ⟨rfl, rfl⟩
 refine hK _ _ hC ?_
 clear hK K
 try simp only [Act.put, List.setIfInBounds_toArray, List.set_cons_zero, List.set_cons_succ]
 repeat (first | (refine wpPlanA_skip _ rfl (by rfl) ?_; simp only [Act.put, List.setIfInBounds_toArray, List.set_cons_zero, List.set_cons_succ]) | (refine wpPlanA_soft _ ?_ rfl (by rfl) ?_ ?_; rotate_left; (intro wq hq hcq; go_simp; first | exact rfl | exact ⟨rfl, rfl⟩); simp only [Act.put, List.setIfInBounds_toArray, List.set_cons_zero, List.set_cons_succ]))
 clear k1
 clear qhT0_0 qhT0_1 qhT0_2 qhT1_0 qhT1_1 qhT1_2 qhT1_3 qhT2_0 qhT2_1
 refine wpPlanA_nil (fun w8 hS => ?_)
 clear hC zhT0 zhT1 zhT2
 have hB8 := hB7.call hS rfl
 replace hT0 := blkb hT0 hS
 replace hT1 := blkb hT1 hS
 replace hT2 := blkb hT2 hS
 replace H := H.below hS
 replace HP := HP.below hS
 replace HD := HD.below hS
 replace hst := hst.below hS
 clear hS hB7
 have qhT0_0 : w8.cell? ⟨w.heap.size, 0, none⟩ = some (.int .i64 c) := cell_at hT0 rfl
 have qhT0_1 : w8.cell? ⟨w.heap.size, 1, none⟩ = some (.int .i64 r) := cell_at hT0 rfl
 have qhT0_2 : w8.cell? ⟨w.heap.size, 2, none⟩ = some (.slice A n cap) := cell_at hT0 rfl
 have qhT1_0 : w8.cell? ⟨w.heap.size + 1, 0, none⟩ = some (.int .i64 un) := cell_at hT1 rfl
 have qhT1_1 : w8.cell? ⟨w.heap.size + 1, 1, none⟩ = some (.int .i64 (ln : Nat)) := cell_at hT1 rfl
 have qhT1_2 : w8.cell? ⟨w.heap.size + 1, 2, none⟩ = some (.int .i64 most) := cell_at hT1 rfl
 have qhT1_3 : w8.cell? ⟨w.heap.size + 1, 3, none⟩ = some (.slice P np capp) := cell_at hT1 rfl
 have qhT2_0 : w8.cell? ⟨w.heap.size + 1 + 1, 0, none⟩ = some (.int .i64 0) := cell_at hT2 rfl
 have qhT2_1 : w8.cell? ⟨w.heap.size + 1 + 1, 1, none⟩ = some (.int .i64 0) := cell_at hT2 rfl
 rw [HE.out]
 go_wp2_with fail
 go_wp2_with fail
 refine (c108 c r A n cap l un ln most P np capp ps _ g hc hr hu hn16 hcp HCL.out H HP hst).mono ?_
 rintro e w9 ⟨AL, capL, rfl, hallB, hb⟩
 clear qhT0_0 qhT0_1 qhT0_2 qhT1_0 qhT1_1 qhT1_2 qhT1_3 qhT2_0 qhT2_1
 have hS := hb
 have hB9 := hB8.call hS rfl
 replace hT0 := blkb hT0 hS
 replace hT1 := blkb hT1 hS
 replace hT2 := blkb hT2 hS
 replace H := H.below hS
 replace HP := HP.below hS
 replace HD := HD.below hS
 replace hst := hst.below hS
 clear hS hB8
 have qhT0_0 : w9.cell? ⟨w.heap.size, 0, none⟩ = some (.int .i64 c) := cell_at hT0 rfl
 have qhT0_1 : w9.cell? ⟨w.heap.size, 1, none⟩ = some (.int .i64 r) := cell_at hT0 rfl
 have qhT0_2 : w9.cell? ⟨w.heap.size, 2, none⟩ = some (.slice A n cap) := cell_at hT0 rfl
 have qhT1_0 : w9.cell? ⟨w.heap.size + 1, 0, none⟩ = some (.int .i64 un) := cell_at hT1 rfl
 have qhT1_1 : w9.cell? ⟨w.heap.size + 1, 1, none⟩ = some (.int .i64 (ln : Nat)) := cell_at hT1 rfl
 have qhT1_2 : w9.cell? ⟨w.heap.size + 1, 2, none⟩ = some (.int .i64 most) := cell_at hT1 rfl
 have qhT1_3 : w9.cell? ⟨w.heap.size + 1, 3, none⟩ = some (.slice P np capp) := cell_at hT1 rfl
 have qhT2_0 : w9.cell? ⟨w.heap.size + 1 + 1, 0, none⟩ = some (.int .i64 0) := cell_at hT2 rfl
 have qhT2_1 : w9.cell? ⟨w.heap.size + 1 + 1, 1, none⟩ = some (.int .i64 0) := cell_at hT2 rfl
 clear hb
 have hall0 := hallB.rd
 rw [← HDS.out] at hall0
 have HALL := Lib.hid hall0
 clear hallB hall0
 go_wp2_with fail
 go_loop [11, 31] (fun S k => ∃ j : Nat, j ≤ np ∧ k = .int .i64 j ∧ S = .int .i64 (ck j : Nat)) (fun _ k => np - (intOf k).toNat)
 case atStart => exact ⟨0, Nat.zero_le _, rfl, by rw [HC0.out]; rfl⟩
 case round =>
  obtain ⟨j, hj, rfl, rfl⟩ := hrel
  have hwj : IntKind.i64.wrap ((j : Int) + 1) = ((j + 1 : Nat) : Int) := by rw [wrapI (by omega)]; simp
  by_cases hlt : j < np
  rotate_left
  ·
    obtain rfl : np = j := by omega
    obtain ⟨M, hM⟩ : ∃ M, M = ck np := ⟨_, rfl⟩
    have HM : Hid (Mo.cnt DS i = M) := Lib.hid (by rw [hM, HCM.out])
    have hmb := HCB.out np
    rw [← hM] at hmb ⊢
    clear hM hwj hlt hj
    by_cases hM0 : M = 0
    ·
      subst hM0
      have HR : Hid (R = ((0, 0), 17)) := Lib.hid (by rw [HRD.out, HM.out]; rfl)
      have f0 : w9.frozen? ⟨w.heap.size + 1 + 1, 0, none⟩ = false := free_at hT2
      have f1 : w9.frozen? ⟨w.heap.size + 1 + 1, 1, none⟩ = false := free_at hT2
      have hTs := set_blk (i := 1) (set_blk (i := 0) hT2 (.int .i64 (0))) (.int .i64 (0))
      have hbs := (hB9.setCell (p := ⟨w.heap.size + 1 + 1, 0, none⟩) (by show _ ≤ w.heap.size + 1 + 1; omega) (.int .i64 (0))).setCell (p := ⟨w.heap.size + 1 + 1, 1, none⟩) (by show _ ≤ w.heap.size + 1 + 1; omega) (.int .i64 (0))
      have HTS := Lib.hid hTs
      have HBS := Lib.hid hbs
      clear hTs hbs hT2 hB9
      go_wp2_with fail
      exact bodyPost_ret (results_blk_tmp rfl rfl HTS.out _ Tryz.underlying61 rfl (by kernel_rfl)) rfl ⟨by rw [HR.out]; rfl, HBS.out⟩
    have hMf : ((M : Int) == 0) = false := by simp; omega
    have hin2 : (i : Int) < (n : Int) := by omega
    have hi02 : (0 : Int) ≤ (i : Int) := by omega
    go_wp2_with fail
    go_wp2_with fail
    refine (c104 c r A n cap l un ln most P np capp ps D capd d _ g hc hr hu hl256 hn16 hcp HCL.out HSD.out HVD.out H HP HD hst).mono ?_
    rintro e w10 ⟨vo, rfl, howni, hb⟩
    clear qhT0_0 qhT0_1 qhT0_2 qhT1_0 qhT1_1 qhT1_2 qhT1_3 qhT2_0 qhT2_1
    have hS := hb
    have hB10 := hB9.call hS rfl
    replace hT0 := blkb hT0 hS
    replace hT1 := blkb hT1 hS
    replace hT2 := blkb hT2 hS
    replace H := H.below hS
    replace HP := HP.below hS
    replace HD := HD.below hS
    replace hst := hst.below hS
    clear hS hB9
    have qhT0_0 : w10.cell? ⟨w.heap.size, 0, none⟩ = some (.int .i64 c) := cell_at hT0 rfl
    have qhT0_1 : w10.cell? ⟨w.heap.size, 1, none⟩ = some (.int .i64 r) := cell_at hT0 rfl
    have qhT0_2 : w10.cell? ⟨w.heap.size, 2, none⟩ = some (.slice A n cap) := cell_at hT0 rfl
    have qhT1_0 : w10.cell? ⟨w.heap.size + 1, 0, none⟩ = some (.int .i64 un) := cell_at hT1 rfl
    have qhT1_1 : w10.cell? ⟨w.heap.size + 1, 1, none⟩ = some (.int .i64 (ln : Nat)) := cell_at hT1 rfl
    have qhT1_2 : w10.cell? ⟨w.heap.size + 1, 2, none⟩ = some (.int .i64 most) := cell_at hT1 rfl
    have qhT1_3 : w10.cell? ⟨w.heap.size + 1, 3, none⟩ = some (.slice P np capp) := cell_at hT1 rfl
    have qhT2_0 : w10.cell? ⟨w.heap.size + 1 + 1, 0, none⟩ = some (.int .i64 0) := cell_at hT2 rfl
    have qhT2_1 : w10.cell? ⟨w.heap.size + 1 + 1, 1, none⟩ = some (.int .i64 0) := cell_at hT2 rfl
    clear hb
    obtain ⟨gi, ci, rfl, hri⟩ := RowI.of_own hn0 howni
    clear howni
    rw [← HDS.out] at hri
    have hib := HIB.out
    have HR : Hid (R = ((Mo.lown (Im.at0 (Im.image n DS d) i) M, Mo.lowd (Im.at0 (Im.image n DS d) i) M), 0)) := Lib.hid (by rw [HRD.out, HM.out]; unfold Mo.ampR; rw [if_neg hM0])
    generalize Im.image n DS d = img at hri hib HR
    have hic := (hri.cell hin).1
    have hgl := (hri.cell hin).2.2
    generalize Im.at0 img i = v at hic hib HR
    clear hri
    go_wp2_with fail
    go_wp2_with fail
    refine (c109 v M _ (by omega) (by omega)).mono ?_
    rintro e w11 ⟨rfl, hb⟩
    clear qhT0_0 qhT0_1 qhT0_2 qhT1_0 qhT1_1 qhT1_2 qhT1_3 qhT2_0 qhT2_1
    have hS := hb
    have hB11 := hB10.call hS rfl
    replace hT0 := blkb hT0 hS
    replace hT1 := blkb hT1 hS
    replace hT2 := blkb hT2 hS
    replace H := H.below hS
    replace HP := HP.below hS
    replace HD := HD.below hS
    replace hst := hst.below hS
    clear hS hB10
    have qhT0_0 : w11.cell? ⟨w.heap.size, 0, none⟩ = some (.int .i64 c) := cell_at hT0 rfl
    have qhT0_1 : w11.cell? ⟨w.heap.size, 1, none⟩ = some (.int .i64 r) := cell_at hT0 rfl
    have qhT0_2 : w11.cell? ⟨w.heap.size, 2, none⟩ = some (.slice A n cap) := cell_at hT0 rfl
    have qhT1_0 : w11.cell? ⟨w.heap.size + 1, 0, none⟩ = some (.int .i64 un) := cell_at hT1 rfl
    have qhT1_1 : w11.cell? ⟨w.heap.size + 1, 1, none⟩ = some (.int .i64 (ln : Nat)) := cell_at hT1 rfl
    have qhT1_2 : w11.cell? ⟨w.heap.size + 1, 2, none⟩ = some (.int .i64 most) := cell_at hT1 rfl
    have qhT1_3 : w11.cell? ⟨w.heap.size + 1, 3, none⟩ = some (.slice P np capp) := cell_at hT1 rfl
    have qhT2_0 : w11.cell? ⟨w.heap.size + 1 + 1, 0, none⟩ = some (.int .i64 0) := cell_at hT2 rfl
    have qhT2_1 : w11.cell? ⟨w.heap.size + 1 + 1, 1, none⟩ = some (.int .i64 0) := cell_at hT2 rfl
    clear hb
    clear hic hgl
    have f0 : w11.frozen? ⟨w.heap.size + 1 + 1, 0, none⟩ = false := free_at hT2
    have f1 : w11.frozen? ⟨w.heap.size + 1 + 1, 1, none⟩ = false := free_at hT2
    have hTs := set_blk (i := 1) (set_blk (i := 0) hT2 (.int .i64 (Mo.lown v M))) (.int .i64 (Mo.lowd v M))
    have hbs := (hB11.setCell (p := ⟨w.heap.size + 1 + 1, 0, none⟩) (by show _ ≤ w.heap.size + 1 + 1; omega) (.int .i64 (Mo.lown v M))).setCell (p := ⟨w.heap.size + 1 + 1, 1, none⟩) (by show _ ≤ w.heap.size + 1 + 1; omega) (.int .i64 (Mo.lowd v M))
    have HTS := Lib.hid hTs
    have HBS := Lib.hid hbs
    clear hTs hbs hT2 hB11
    go_wp2_with fail
    exact bodyPost_ret (results_blk_tmp rfl rfl HTS.out _ Tryz.underlying61 rfl (by kernel_rfl)) rfl ⟨by rw [HR.out]; rfl, HBS.out⟩
  have hkm2 : (j : Int) < (np : Int) := by omega
  have hk02 : (0 : Int) ≤ (j : Int) := by omega
  have hin2 : (i : Int) < (n : Int) := by omega
  have hi02 : (0 : Int) ≤ (i : Int) := by omega
  obtain ⟨ab, aoff, x, xa, xc, rfl, hx, hab, hac, hrx⟩ := HALL.out.at hlt
  have hxl : x.length = n := by
   have h := hx
   rw [HDS.out, List.getElem?_map] at h
   cases hp0 : ps[j]? with
   | none => rw [hp0] at h; cases h
   | some p => rw [hp0] at h; rw [← Option.some.inj h, dlp_len, HLN.out]
  rw [hxl] at hac hrx
  obtain ⟨xb, xoff, xv, rfl, hxv, hxb, hxcell⟩ := hrx.at hin
  have hxe : Im.at0 x i = xv := by simp [Im.at0, List.getD_eq_getElem?_getD, hxv]
  have HN := Lib.hid (HCK.out j x hx)
  rw [hxe] at HN
  have hcb := HCB.out j
  clear hx hxl hrx hxv hxe
  generalize ck j = S at hcb HN ⊢
  by_cases h0 : 0 ≤ xv
  ·have hd0 : decide (0 ≤ xv) = true := by simp [h0]
   have hws : IntKind.i64.wrap ((S : Int) + 1) = (S : Int) + 1 := wrapI (by omega)
   rw [if_pos h0] at HN
   go_wp2
   go_round
   case rel => exact ⟨j + 1, by omega, rfl, by rw [HN.out, Int.natCast_add]; rfl⟩
   case measure => simp [intOf]; omega
  ·have hd0 : decide (0 ≤ xv) = false := by simp [h0]
   rw [if_neg h0] at HN
   go_wp2
   go_round
   case rel => exact ⟨j + 1, by omega, rfl, by rw [HN.out]; rfl⟩
   case measure => simp [intOf]; omega
end Go.Proofs.YtdimmlljjmmdbaaGreatDoor
namespace Go.Proofs.YtdimmlljjmmdbaaGreatDoor
open Go.RowKit
set_option maxHeartbeats 4000000
set_option maxRecDepth 20000
/-- the same data -/
theorem data_ext {a b : List (List Int)} {n : Nat} (ha : a.length = n) (hb : b.length = n) (h : ∀ (j : Nat) (x y : List Int), a[j]? = some x → b[j]? = some y → x = y) : a = b := by
 apply List.ext_getElem (by omega)
 intro i h1 h2
 exact h i a[i] b[i] (List.getElem?_eq_getElem h1) (List.getElem?_eq_getElem h2)
theorem c27 (A B : Option Addr) (n m cap cap2 : Nat) (a b : List (List Int)) (w : World) (hn : n ≤ 1000000) (hm : m ≤ 1000000) (hal : ∀ x, x ∈ a → x.length ≤ 1000000) (hbl : ∀ x, x ∈ b → x.length ≤ 1000000) (H : RdD w A n a) (G : RdD w B m b) :
  Calls Tryz.prog 27 #[.slice A n cap, .slice B m cap2] w fun en w' => en = .returned (.bool (decide (a = b))) ∧ Below w.heap.size w w' := by
 have HAL := Lib.hid H.len
 have HBL := Lib.hid G.len
 by_cases hnm : n = m
 rotate_left
 ·have hne : ((n : Int) != (m : Int)) = true := by simp; omega
  have hab : decide (a = b) = false := by
   simp only [decide_eq_false_iff_not]
   intro e
   have h1 := HAL.out; have h2 := HBL.out
   rw [e] at h1; omega
  rw [hab]
  go_enter Tryz.func27, Tryz.ntmps27
  go_wp2
  go_ret
  exact ⟨rfl, Below.refl _ _⟩
 subst hnm
 have hne : ((n : Int) != (n : Int)) = false := by simp
 obtain ⟨V, hV⟩ : ∃ V, V = decide (a = b) := ⟨_, rfl⟩
 rw [← hV]
 have HV := Lib.hid hV
 have HA0 := Lib.hid H
 have HG0 := Lib.hid G
 have HXA := Lib.hid hal
 have HXB := Lib.hid hbl
 clear hV H G hal hbl
 go_enter Tryz.func27, Tryz.ntmps27
 go_wp2_with fail
 go_loopw [5] (fun i wr => ∃ k : Nat, k ≤ n ∧ i = .int .i64 k ∧ Hid (∀ (j : Nat) (x y : List Int), j < k → a[j]? = some x → b[j]? = some y → x = y) ∧ Hid (Below w.heap.size w wr)) (fun i _ => n - (intOf i).toNat)
 case atStart => exact ⟨0, Nat.zero_le _, rfl, Lib.hid (fun j _ _ h => absurd h (Nat.not_lt_zero j)), Lib.hid (Below.refl _ _)⟩
 case round =>
  obtain ⟨k, hk, rfl, HC, HB⟩ := hrel
  have hwk : IntKind.i64.wrap ((k : Int) + 1) = ((k + 1 : Nat) : Int) := by rw [wrapI (by omega)]; simp
  by_cases hlt : k < n
  rotate_left
  ·obtain rfl : n = k := by omega
   have HT : Hid (V = true) := Lib.hid (by
    rw [HV.out]
    simp only [decide_eq_true_eq]
    refine data_ext HAL.out HBL.out (fun j x y h1 h2 => HC.out j x y ?_ h1 h2)
    have : j < a.length := by
     by_cases h : j < a.length
     ·exact h
     ·rw [List.getElem?_eq_none (by omega)] at h1; cases h1
    rw [HAL.out] at this; exact this)
   go_wp2
   go_ret
   exact ⟨by rw [HT.out]; rfl, HB.out⟩
  have hkm2 : (k : Int) < (n : Int) := by omega
  have hk02 : (0 : Int) ≤ (k : Int) := by omega
  obtain ⟨xb, xoff, x, xa, xc, rfl, hx, hxb, hxcell, hrx⟩ := (HA0.out.below HB.out).at hlt
  obtain ⟨yb, yoff, y, ya, yc, rfl, hy, hyb, hycell, hry⟩ := (HG0.out.below HB.out).at hlt
  have HX := Lib.hid hx
  have HY := Lib.hid hy
  have HLX := Lib.hid (HXA.out x (List.mem_of_getElem? hx))
  have HLY := Lib.hid (HXB.out y (List.mem_of_getElem? hy))
  clear hx hy
  obtain ⟨w0, hw0⟩ : ∃ W, W = wr := ⟨_, rfl⟩
  subst hw0
  go_wp2
  refine wp_region_plan [(0, true), (1, true), (2, true), (3, true), (4, true), (5, true), (6, true), (7, true), (8, false), (9, true)] w0.heap.size (by kernel_rfl) (by kernel_rfl) (Nat.le_refl _) (fun _ _ d _ _ h => by cases d <;> exact h) ?_
  have hC : Below w0.heap.size w0 w0 := Below.refl _ _
  repeat (first | (refine wpPlanA_skip _ rfl (by rfl) ?_; simp only [Act.put, List.setIfInBounds_toArray, List.set_cons_zero, List.set_cons_succ]) | (refine wpPlanA_soft _ ?_ rfl (by rfl) ?_ ?_; rotate_left; (intro wq hq hcq; go_simp; first | exact rfl | exact ⟨rfl, rfl⟩); simp only [Act.put, List.setIfInBounds_toArray, List.set_cons_zero, List.set_cons_succ]))
  refine wpPlanA_hard _ rfl (by rfl) (fun w1 hS K hK => ?_)
  have hrx1 := hrx.below hS
  have hry1 := hry.below hS
  replace hC := hC.call hS rfl
  go_simp
  refine (c30 xa ya x.length y.length xc yc x y w1 HLX.out HLY.out hrx1 hry1).mono ?_
  rintro e w2 ⟨rfl, hb⟩
  replace hC := hC.call hb rfl
  refine hK _ _ hC ?_
  clear hK K hb hS hrx1 hry1
  try simp only [Act.put, List.setIfInBounds_toArray, List.set_cons_zero, List.set_cons_succ]
  repeat (first | (refine wpPlanA_skip _ rfl (by rfl) ?_; simp only [Act.put, List.setIfInBounds_toArray, List.set_cons_zero, List.set_cons_succ]) | (refine wpPlanA_soft _ ?_ rfl (by rfl) ?_ ?_; rotate_left; (intro wq hq hcq; go_simp; first | exact rfl | exact ⟨rfl, rfl⟩); simp only [Act.put, List.setIfInBounds_toArray, List.set_cons_zero, List.set_cons_succ]))
  refine wpPlanA_nil (fun w3 hS => ?_)
  have HB3 : Hid (Below w.heap.size w w3) := Lib.hid ((HB.out.call hC rfl).call hS rfl)
  clear hC hS hrx hry hxcell hycell
  by_cases hxy : x = y
  ·have hd : decide (x = y) = true := by simp [hxy]
   rw [hd]
   have HC2 : Hid (∀ (j : Nat) (u v : List Int), j < k + 1 → a[j]? = some u → b[j]? = some v → u = v) := Lib.hid (fun j u v hj hu hv => by
    by_cases h : j = k
    ·subst h
     rw [HX.out] at hu; rw [HY.out] at hv
     cases hu; cases hv; exact hxy
    ·exact HC.out j u v (by omega) hu hv)
   clear hxy hd
   go_wp2
   go_roundw
   case rel => exact ⟨k + 1, by omega, rfl, HC2, HB3⟩
   case measure => simp [intOf]; omega
  ·have hd : decide (x = y) = false := by simp [hxy]
   rw [hd]
   have HF : Hid (V = false) := Lib.hid (by
    rw [HV.out]
    simp only [decide_eq_false_iff_not]
    intro e
    have h1 := HX.out; have h2 := HY.out
    rw [e, h2] at h1
    exact hxy (Option.some.inj h1).symm)
   clear hd
   go_wp2
   go_ret
   exact ⟨by rw [HF.out]; rfl, HB3.out⟩
end Go.Proofs.YtdimmlljjmmdbaaGreatDoor
namespace Go.Proofs.YtdimmlljjmmdbaaGreatDoor
open Go.RowKit
set_option maxHeartbeats 4000000
set_option maxRecDepth 20000
theorem c86 (w : World) : Calls Tryz.prog 86 #[] w fun en w' => ∃ g, en = .returned (.agg #[.int .i64 2, .int .i64 2, .slice (some ⟨g, 0, none⟩) 4 4]) ∧ RdI w' (some ⟨g, 0, none⟩) 4 [1, 2, 3, 4] ∧ Below w.heap.size w w' := by
 go_enter Tryz.func86, Tryz.ntmps86
 go_wp2_with fail
 exact bodyPost_ret (results_blk rfl rfl (heap_old (by simp) (heap_new rfl)) _ Tryz.underlying35 rfl (by kernel_rfl)) rfl ⟨w.heap.size + 1, rfl, RdS.of_new (cs := encI [1, 2, 3, 4]) (by simp) rfl, below2 _ _ _⟩
theorem c87 (m : Int) (w : World) : Calls Tryz.prog 87 #[.int .i64 m] w fun en w' => ∃ g, en = .returned (.agg #[.int .i64 5, .int .i64 6, .int .i64 m, .slice (some ⟨g, 0, none⟩) 1 1]) ∧ RdP w' (some ⟨g, 0, none⟩) 1 [⟨0, 1, false⟩] ∧ Below w.heap.size w w' := by
 go_enter Tryz.func87, Tryz.ntmps87
 go_wp2_with fail
 exact bodyPost_ret (results_blk rfl rfl (heap_old (by simp) (heap_new rfl)) _ Tryz.underlying39 rfl (by kernel_rfl)) rfl ⟨w.heap.size + 1, rfl, RdS.of_new (cs := [.int .i64 0, .int .i64 1, .bool false]) (by simp) rfl, below2 _ _ _⟩
theorem c88 (w : World) : Calls Tryz.prog 88 #[] w fun en w' => ∃ g, en = .returned (.slice (some ⟨g, 0, none⟩) 1 1) ∧ RdD w' (some ⟨g, 0, none⟩) 1 [[0, 5, 0, 0, 7, 9]] ∧ Below w.heap.size w w' := by
 go_enter Tryz.func88, Tryz.ntmps88
 go_wp2_with fail
 go_ret
 refine ⟨w.heap.size + 1, rfl, ⟨[.slice (some ⟨w.heap.size, 0, none⟩) 6 6], RdS.of_new (cs := [.slice (some ⟨w.heap.size, 0, none⟩) 6 6]) (by simp) rfl, rfl, fun k x hx => ?_⟩, below2 _ _ _⟩
 have h1 : RdI (w.alloc (Obj.cells (encI [0, 5, 0, 0, 7, 9]).toArray 3)) (some ⟨w.heap.size, 0, none⟩) 6 [0, 5, 0, 0, 7, 9] := RdS.of_new (cs := encI [0, 5, 0, 0, 7, 9]) rfl rfl
 have h2 := h1.below ((Below.refl (w.alloc (Obj.cells (encI [0, 5, 0, 0, 7, 9]).toArray 3)).heap.size _).alloc (Nat.le_refl _) (Obj.cells #[.slice (some ⟨w.heap.size, 0, none⟩) 6 6] 22))
 match k, hx with
 | 0, hx =>
  obtain rfl : [0, 5, 0, 0, 7, 9] = x := by simpa using hx
  exact ⟨_, 6, rfl, h2⟩
 | k + 1, hx => simp at hx
end Go.Proofs.YtdimmlljjmmdbaaGreatDoor
namespace Go.Proofs.YtdimmlljjmmdbaaGreatDoor
open Go.RowKit
set_option maxHeartbeats 4000000
set_option maxRecDepth 20000
theorem run_store_complex {P : Program} {w : World} {a : Addr} {m : Mode} (k : FloatKind) (x y : Nat) : (store a (.complex k x y) m).run P w = stored P w a (.complex k x y) m := run_store P w a _ m rfl
attribute [go_sem] run_store_complex
/-- floats and complex numbers of the panel of ones -/
theorem fo1 : FloatKind.f32.format.order 1065353216 3313500160 = some .gt := by kernel_rfl
theorem fo2 : FloatKind.f32.format.order 1065353216 1166016512 = some .lt := by kernel_rfl
theorem fo3 : FloatKind.f32.format.order 0 3313500160 = some .gt := by kernel_rfl
theorem fo4 : FloatKind.f32.format.order 0 1166016512 = some .lt := by kernel_rfl
theorem fo5 : FloatKind.f32.format.order 1098907648 1098907648 = some .eq := by kernel_rfl
theorem fo6 : FloatKind.f32.format.order 0 0 = some .eq := by kernel_rfl
theorem fm1 (w : World) : (binOp .mul 81 (.float .f32 1098907648) (.float .f32 1065353216)).run Tryz.prog w = .ok (.float .f32 1098907648) w := by kernel_rfl
theorem fm0 (w : World) : (binOp .mul 81 (.float .f32 1098907648) (.float .f32 0)).run Tryz.prog w = .ok (.float .f32 0) w := by kernel_rfl
theorem fn1 (w : World) : (binOp .neq 81 (.float .f32 1098907648) (.float .f32 1098907648)).run Tryz.prog w = .ok (.bool false) w := by kernel_rfl
theorem fn0 (w : World) : (binOp .neq 81 (.float .f32 0) (.float .f32 0)).run Tryz.prog w = .ok (.bool false) w := by kernel_rfl
theorem fc1 (w : World) : (convert 81 3 (.float .f32 1098907648)).run Tryz.prog w = .ok (.int .i64 16) w := by kernel_rfl
theorem fc0 (w : World) : (convert 81 3 (.float .f32 0)).run Tryz.prog w = .ok (.int .i64 0) w := by kernel_rfl
theorem fi1 (w : World) : (convert 3 81 (.int .i64 16)).run Tryz.prog w = .ok (.float .f32 1098907648) w := by kernel_rfl
theorem fi0 (w : World) : (convert 3 81 (.int .i64 0)).run Tryz.prog w = .ok (.float .f32 0) w := by kernel_rfl
theorem cs1 (w : World) : (binOp .sub 83 (.complex .f32 1065353216 0) (.complex .f32 1065353216 0)).run Tryz.prog w = .ok (.complex .f32 0 0) w := by kernel_rfl
theorem cn0 (w : World) : (binOp .neq 83 (.complex .f32 0 0) (.complex .f32 0 0)).run Tryz.prog w = .ok (.bool false) w := by kernel_rfl
theorem c153_1 (w : World) : Calls Tryz.prog 153 #[.float .f32 1065353216] w fun en w' => en = .returned (.int .i64 0) ∧ w = w' := by
 have o1 := fo1; have o2 := fo2; have o5 := fo5; have m1 := fm1; have n1 := fn1; have a1 := fc1; have b1 := fi1
 go_enter Tryz.func153, Tryz.ntmps153
 go_wp2_with (go_at_call 94; refine (c94 false 3 _).mono ?_; rintro e w' ⟨rfl, rfl⟩)
 go_ret
 exact ⟨rfl, rfl⟩
theorem c153_0 (w : World) : Calls Tryz.prog 153 #[.float .f32 0] w fun en w' => en = .returned (.int .i64 0) ∧ w = w' := by
 have o1 := fo3; have o2 := fo4; have o5 := fo6; have m1 := fm0; have n1 := fn0; have a1 := fc0; have b1 := fi0
 go_enter Tryz.func153, Tryz.ntmps153
 go_wp2_with (go_at_call 94; refine (c94 false 3 _).mono ?_; rintro e w' ⟨rfl, rfl⟩)
 go_ret
 exact ⟨rfl, rfl⟩
theorem c152_1 (w : World) : Calls Tryz.prog 152 #[.complex .f32 1065353216 0] w fun en w' => en = .returned (.int .i64 0) ∧ Below w.heap.size w w' := by
 have s1 := cs1; have n0 := cn0
 go_enter Tryz.func152, Tryz.ntmps152
 go_wp2_with fail
 refine (c94 false 1 _).mono ?_
 rintro e w' ⟨rfl, rfl⟩
 go_wp2_with fail
 refine (c153_1 _).mono ?_
 rintro e w' ⟨rfl, rfl⟩
 go_wp2_with fail
 refine (c153_0 _).mono ?_
 rintro e w' ⟨rfl, rfl⟩
 go_wp2_with fail
 refine (c89 _ 3 3 [Mo.when false 1, 0, 0] _ rfl (by omega) (RdS.of_new (cs := encI [Mo.when false 1, 0, 0]) rfl rfl)).mono ?_
 rintro e w' ⟨rfl, rfl⟩
 have hf : Mo.first [Mo.when false 1, 0, 0] = 0 := rfl
 rw [hf]
 have hB := (Below.refl w.heap.size w).alloc (Nat.le_refl _) (Obj.cells (encI [Mo.when false 1, 0, 0]).toArray 32)
 go_wp2
 go_ret
 exact ⟨rfl, hB⟩
/-- the block of a panel of ones -/
def Ones (w : World) (b : Nat) : Prop := ∀ k, k < 4 → w.cell? ⟨b, k, none⟩ = some (.complex .f32 1065353216 0)
theorem Ones.below {w w' : World} {b : Nat} (h : Ones w b) (hb : Below w.heap.size w w') : Ones w' b := fun k hk => by
 have h1 := h k hk
 exact (hb.cell (p := ⟨b, k, none⟩) (cell_lt h1)).trans h1
theorem c151_1 (b : Nat) (w : World) (H : Ones w b) :
  Calls Tryz.prog 151 #[.slice (some ⟨b, 0, none⟩) 4 4, .func (.func 152) #[] #[]] w fun en w' => ∃ A' cap', en = .returned (.slice A' 4 cap') ∧ RdI w' A' 4 [0, 0, 0, 0] ∧ Below w.heap.size w w' := by
 obtain ⟨i0, hi, hz0, hz1, hz2⟩ := info_parts info32
 have HH := Lib.hid H
 clear H
 go_enter Tryz.func151, Tryz.ntmps151
 go_wp2
 go_loopw [5, 10] (fun x i wr => ∃ k : Nat, k ≤ 4 ∧ i = .int .i64 k ∧ wr.ownsRow w.heap.size 32 1 x k (List.replicate k (.int .i64 0)) ∧ Below w.heap.size w wr) (fun _ i _ => 4 - (intOf i).toNat)
 case atStart => exact ⟨0, Nat.zero_le _, rfl, World.ownsRow_nil _ _ _ _, Below.refl _ _⟩
 case round =>
  obtain ⟨k, hk, rfl, hown, hB⟩ := hrel
  by_cases hlt : k < 4
  ·have hc := (HH.out.below hB) k hlt
   have hbl := cell_lt hc
   have hk4 : (k : Int) < 4 := by omega
   have hk0 : (0 : Int) ≤ (k : Int) := by omega
   go_wp2_with fail
   refine (c152_1 _).mono ?_
   rintro e w2 ⟨rfl, hb2⟩
   have hown2 := own_below hown hb2
   have hB2 := fin0 hB hb2
   have hsz := hB2.size
   go_wp2_with (at_builtin; refine wpList_append_own _ rfl _ _ 152 rfl w.heap.size 32 i0 (.int .i64 0) 1 8 Tryz.underlying152 hi hz0 hz1 hz2 rfl (by decide) _ _ _ rfl (hown2.alloc _) ⟨w2.heap.size, 0, none⟩ 1 1 [Value.int .i64 0] rfl rfl (news_one _ _ rfl) (fun x hx => by rw [List.mem_singleton.1 hx]; rfl) (by unfold maxLen; omega) (by omega) (by simp; omega) ?_)
   intro x' w3 hown3 hg3 _
   have hB3 : Below w.heap.size w w3 := (hB2.alloc hsz _).grown hg3 (by simp; omega) (fun g hg => (hown2.lt g hg).1)
   have HO : Hid (w3.ownsRow w.heap.size 32 1 x' (k + 1) (List.replicate (k + 1) (.int .i64 0))) := Lib.hid (by rw [List.replicate_succ']; exact hown3)
   clear hown3 hg3 hown2 hown
   go_wp2
   go_roundw
   case rel => exact ⟨k + 1, by omega, by go_num, HO.out, hB3⟩
   case measure => simp [intOf]; omega
  ·obtain rfl : k = 4 := by omega
   have HO := Lib.hid hown
   clear hown
   go_wp2
   go_ret
   obtain ⟨A', cap', rfl, hr⟩ := Sl.of_own HO.out
   exact ⟨A', cap', rfl, hr, hB⟩
theorem pe1 (w : World) : (Op.equalIn 10000 84 (.agg #[.complex .f32 1065353216 0, .complex .f32 1065353216 0, .complex .f32 1065353216 0, .complex .f32 1065353216 0]) (.agg #[.complex .f32 0 0, .complex .f32 0 0, .complex .f32 0 0, .complex .f32 0 0])).run Tryz.prog w = .ok false w := by kernel_rfl
theorem c120_1 (w : World) : Calls Tryz.prog 120 #[.agg #[.complex .f32 1065353216 0, .complex .f32 1065353216 0, .complex .f32 1065353216 0, .complex .f32 1065353216 0]] w fun en w' => en = .returned (.int .i64 0) ∧ Below w.heap.size w w' := by
 have p1 := pe1
 obtain ⟨w0, hW⟩ : ∃ W, W = w.alloc (Obj.cells #[.complex .f32 1065353216 0, .complex .f32 1065353216 0, .complex .f32 1065353216 0, .complex .f32 1065353216 0] 84) := ⟨_, rfl⟩
 have hT0 : w0.heap[w.heap.size]? = some (.cells #[.complex .f32 1065353216 0, .complex .f32 1065353216 0, .complex .f32 1065353216 0, .complex .f32 1065353216 0] 84 (0, 0)) := by rw [hW]; exact heap_new rfl
 have hB0 : Below w.heap.size w w0 := by rw [hW]; exact (Below.refl _ _).alloc (Nat.le_refl _) _
 have hon : Ones w0 w.heap.size := fun k hk => by
  have h4 : k = 0 ∨ k = 1 ∨ k = 2 ∨ k = 3 := by omega
  rcases h4 with rfl | rfl | rfl | rfl <;> exact cell_at hT0 rfl
 go_enter Tryz.func120, Tryz.ntmps120
 go_wp2_with fail
 rw [← hW]
 refine (c151_1 _ _ hon).mono ?_
 rintro e w1 ⟨A1, cap1, rfl, hr1, hb1⟩
 have hB1 := hB0.call hb1 rfl
 clear hon hT0 hW hb1
 go_wp2_with fail
 refine (c89 A1 4 cap1 _ _ hr1.len (by omega) hr1).mono ?_
 rintro e w' ⟨rfl, rfl⟩
 have hf : Mo.first [0, 0, 0, 0] = 0 := rfl
 rw [hf]
 go_wp2
 go_ret
 exact ⟨rfl, hB1⟩
theorem px0 (W : World) : (Instr.index 84 (.agg #[.complex .f32 1065353216 0, .complex .f32 1065353216 0, .complex .f32 1065353216 0, .complex .f32 1065353216 0]) (.int .i64 0)).run Tryz.prog W = .ok (.complex .f32 1065353216 0) W := by kernel_rfl
theorem px1 (W : World) : (Instr.index 84 (.agg #[.complex .f32 1065353216 0, .complex .f32 1065353216 0, .complex .f32 1065353216 0, .complex .f32 1065353216 0]) (.int .i64 1)).run Tryz.prog W = .ok (.complex .f32 1065353216 0) W := by kernel_rfl
theorem px2 (W : World) : (Instr.index 84 (.agg #[.complex .f32 1065353216 0, .complex .f32 1065353216 0, .complex .f32 1065353216 0, .complex .f32 1065353216 0]) (.int .i64 2)).run Tryz.prog W = .ok (.complex .f32 1065353216 0) W := by kernel_rfl
theorem px3 (W : World) : (Instr.index 84 (.agg #[.complex .f32 1065353216 0, .complex .f32 1065353216 0, .complex .f32 1065353216 0, .complex .f32 1065353216 0]) (.int .i64 3)).run Tryz.prog W = .ok (.complex .f32 1065353216 0) W := by kernel_rfl
theorem ng1 (w : World) : (Op.unary UnOp.neg (.float .f32 1065353216)).run Tryz.prog w = .ok (.float .f32 3212836864) w := by kernel_rfl
theorem ng0 (w : World) : (Op.unary UnOp.neg (.float .f32 0)).run Tryz.prog w = .ok (.float .f32 2147483648) w := by kernel_rfl
theorem ngc (w : World) : (Op.unary UnOp.neg (.complex .f32 1065353216 0)).run Tryz.prog w = .ok (.complex .f32 3212836864 2147483648) w := by kernel_rfl
theorem bt1 : bits BinOp.and IntKind.i64 1 3 = 1 := by kernel_rfl
theorem bt11 : bits BinOp.and IntKind.i64 11 3 = 3 := by kernel_rfl
theorem bt0 : bits BinOp.and IntKind.i64 0 3 = 0 := by kernel_rfl
theorem bt2 : bits BinOp.and IntKind.i64 2 3 = 2 := by kernel_rfl
theorem bt3 : bits BinOp.and IntKind.i64 3 3 = 3 := by kernel_rfl
theorem bt6 : bits BinOp.and IntKind.i64 6 3 = 2 := by kernel_rfl
theorem bt9 : bits BinOp.and IntKind.i64 9 3 = 1 := by kernel_rfl
theorem wp0 : wrap64 0 = 0 := by kernel_rfl
theorem wp1 : wrap64 1 = 1 := by kernel_rfl
theorem wp2 : wrap64 2 = 2 := by kernel_rfl
theorem wp3 : wrap64 3 = 3 := by kernel_rfl
theorem wp6 : wrap64 6 = 6 := by kernel_rfl
theorem wp9 : wrap64 9 = 9 := by kernel_rfl
def pan1 (k : Nat) : Array Value := if k = 0 then #[.complex .f32 1065353216 0, .complex .f32 1065353216 0, .complex .f32 1065353216 0, .complex .f32 1065353216 0] else if k = 1 then #[.complex .f32 1065353216 0, .complex .f32 1065353216 0, .complex .f32 1065353216 0, .complex .f32 1065353216 0] else if k = 2 then #[.complex .f32 1065353216 0, .complex .f32 0 3212836864, .complex .f32 1065353216 0, .complex .f32 1065353216 0] else if k = 3 then #[.complex .f32 1065353216 0, .complex .f32 0 3212836864, .complex .f32 3212836864 2147483648, .complex .f32 1065353216 0] else #[.complex .f32 1065353216 0, .complex .f32 0 3212836864, .complex .f32 3212836864 2147483648, .complex .f32 2147483648 1065353216]
theorem c123_1 (w : World) : Calls Tryz.prog 123 #[.agg #[.complex .f32 1065353216 0, .complex .f32 1065353216 0, .complex .f32 1065353216 0, .complex .f32 1065353216 0], .int .i64 1] w fun en w' => en = .returned (.agg #[.complex .f32 1065353216 0, .complex .f32 0 3212836864, .complex .f32 3212836864 2147483648, .complex .f32 2147483648 1065353216]) ∧ Below w.heap.size w w' := by
 obtain ⟨w0, hW⟩ : ∃ W, W = ((w.alloc (Obj.cells #[.complex .f32 1065353216 0, .complex .f32 1065353216 0, .complex .f32 1065353216 0, .complex .f32 1065353216 0] 84)).alloc (Obj.cells #[.complex .f32 0 0, .complex .f32 0 0, .complex .f32 0 0, .complex .f32 0 0] 84)).alloc (Obj.cells #[.complex .f32 1065353216 0, .complex .f32 1065353216 0, .complex .f32 1065353216 0, .complex .f32 1065353216 0] 84) := ⟨_, rfl⟩
 have hT1 : w0.heap[w.heap.size + 1]? = some (.cells #[.complex .f32 0 0, .complex .f32 0 0, .complex .f32 0 0, .complex .f32 0 0] 84 (0, 0)) := by rw [hW]; exact heap_old (by simp) (heap_new (by simp))
 have hT2 : w0.heap[w.heap.size + 1 + 1]? = some (.cells #[.complex .f32 1065353216 0, .complex .f32 1065353216 0, .complex .f32 1065353216 0, .complex .f32 1065353216 0] 84 (0, 0)) := by rw [hW]; exact heap_new (by simp)
 have hB0 : Below w.heap.size w w0 := by rw [hW]; exact (below2 _ _ _).alloc (by simp; omega) _
 have hst0 : Hid (w0.heap[w.heap.size + 1 + 1]? = some (.cells (pan1 0) 84 (0, 0))) := Lib.hid hT2
 have HT1 := Lib.hid hT1
 have HB0 := Lib.hid hB0
 have t1 := bt1
 have t11 := bt11
 have t0 := bt0
 have t2 := bt2
 have t3 := bt3
 have t6 := bt6
 have t9 := bt9
 have v0 := wp0
 have v1 := wp1
 have v2 := wp2
 have v3 := wp3
 have v6 := wp6
 have v9 := wp9
 have g1 := ng1
 have g0 := ng0
 have gc := ngc
 go_enter Tryz.func123, Tryz.ntmps123
 go_wp2_with fail
 rw [← hW]
 clear hW hT1 hT2 hB0
 go_loopw [10] (fun i wr => ∃ (k : Nat) (z : Int), k ≤ 4 ∧ z = (k : Int) ∧ i = .int .i64 z ∧ Hid (wr.heap[w.heap.size + 1 + 1]? = some (.cells (pan1 k) 84 (0, 0))) ∧ Hid (wr.heap[w.heap.size + 1]? = some (.cells #[.complex .f32 0 0, .complex .f32 0 0, .complex .f32 0 0, .complex .f32 0 0] 84 (0, 0))) ∧ Hid (Below w.heap.size w wr)) (fun i _ => 4 - (intOf i).toNat)
 case atStart => exact ⟨0, 0, Nat.zero_le _, rfl, rfl, hst0, HT1, HB0⟩
 case round =>
  clear hst0 HT1 HB0
  obtain ⟨k, z, hk, hz, rfl, HP, HZ, HB⟩ := hrel
  have h5 : k = 0 ∨ k = 1 ∨ k = 2 ∨ k = 3 ∨ k = 4 := by omega
  rcases h5 with rfl | rfl | rfl | rfl | rfl
  ·obtain rfl : z = 0 := hz
   have ix := px0
   go_wp2
   go_roundw
   case rel => exact ⟨1, 1, by omega, rfl, rfl, HP, HZ, HB⟩
   case measure => simp [intOf]
  ·obtain rfl : z = 1 := hz
   have ix := px1
   have qc : wr.cell? ⟨w.heap.size + 1 + 1, 1, none⟩ = some (.complex .f32 1065353216 0) := cell_at HP.out rfl
   have qf : wr.frozen? ⟨w.heap.size + 1 + 1, 1, none⟩ = false := free_at HP.out
   have HP2 : Hid ((wr.setCell ⟨w.heap.size + 1 + 1, 1, none⟩ (.complex .f32 0 3212836864)).heap[w.heap.size + 1 + 1]? = some (.cells (pan1 2) 84 (0, 0))) := Lib.hid (set_blk (i := 1) HP.out _)
   have HZ2 : Hid ((wr.setCell ⟨w.heap.size + 1 + 1, 1, none⟩ (.complex .f32 0 3212836864)).heap[w.heap.size + 1]? = some (.cells #[.complex .f32 0 0, .complex .f32 0 0, .complex .f32 0 0, .complex .f32 0 0] 84 (0, 0))) := Lib.hid ((set_far (p := ⟨w.heap.size + 1 + 1, 1, none⟩) _ (by show w.heap.size + 1 ≠ w.heap.size + 1 + 1; omega)).trans HZ.out)
   have HB2 : Hid (Below w.heap.size w (wr.setCell ⟨w.heap.size + 1 + 1, 1, none⟩ (.complex .f32 0 3212836864))) := Lib.hid (HB.out.setCell (p := ⟨w.heap.size + 1 + 1, 1, none⟩) (by show _ ≤ w.heap.size + 1 + 1; omega) _)
   go_wp2
   go_roundw
   case rel => exact ⟨2, 2, by omega, rfl, rfl, HP2, HZ2, HB2⟩
   case measure => simp [intOf]
  ·obtain rfl : z = 2 := hz
   have ix := px2
   have qc : wr.cell? ⟨w.heap.size + 1 + 1, 2, none⟩ = some (.complex .f32 1065353216 0) := cell_at HP.out rfl
   have qf : wr.frozen? ⟨w.heap.size + 1 + 1, 2, none⟩ = false := free_at HP.out
   have HP2 : Hid ((wr.setCell ⟨w.heap.size + 1 + 1, 2, none⟩ (.complex .f32 3212836864 2147483648)).heap[w.heap.size + 1 + 1]? = some (.cells (pan1 3) 84 (0, 0))) := Lib.hid (set_blk (i := 2) HP.out _)
   have HZ2 : Hid ((wr.setCell ⟨w.heap.size + 1 + 1, 2, none⟩ (.complex .f32 3212836864 2147483648)).heap[w.heap.size + 1]? = some (.cells #[.complex .f32 0 0, .complex .f32 0 0, .complex .f32 0 0, .complex .f32 0 0] 84 (0, 0))) := Lib.hid ((set_far (p := ⟨w.heap.size + 1 + 1, 2, none⟩) _ (by show w.heap.size + 1 ≠ w.heap.size + 1 + 1; omega)).trans HZ.out)
   have HB2 : Hid (Below w.heap.size w (wr.setCell ⟨w.heap.size + 1 + 1, 2, none⟩ (.complex .f32 3212836864 2147483648))) := Lib.hid (HB.out.setCell (p := ⟨w.heap.size + 1 + 1, 2, none⟩) (by show _ ≤ w.heap.size + 1 + 1; omega) _)
   go_wp2
   go_roundw
   case rel => exact ⟨3, 3, by omega, rfl, rfl, HP2, HZ2, HB2⟩
   case measure => simp [intOf]
  ·obtain rfl : z = 3 := hz
   have ix := px3
   have qc : wr.cell? ⟨w.heap.size + 1 + 1, 3, none⟩ = some (.complex .f32 1065353216 0) := cell_at HP.out rfl
   have qf : wr.frozen? ⟨w.heap.size + 1 + 1, 3, none⟩ = false := free_at HP.out
   have HP2 : Hid ((wr.setCell ⟨w.heap.size + 1 + 1, 3, none⟩ (.complex .f32 2147483648 1065353216)).heap[w.heap.size + 1 + 1]? = some (.cells (pan1 4) 84 (0, 0))) := Lib.hid (set_blk (i := 3) HP.out _)
   have HZ2 : Hid ((wr.setCell ⟨w.heap.size + 1 + 1, 3, none⟩ (.complex .f32 2147483648 1065353216)).heap[w.heap.size + 1]? = some (.cells #[.complex .f32 0 0, .complex .f32 0 0, .complex .f32 0 0, .complex .f32 0 0] 84 (0, 0))) := Lib.hid ((set_far (p := ⟨w.heap.size + 1 + 1, 3, none⟩) _ (by show w.heap.size + 1 ≠ w.heap.size + 1 + 1; omega)).trans HZ.out)
   have HB2 : Hid (Below w.heap.size w (wr.setCell ⟨w.heap.size + 1 + 1, 3, none⟩ (.complex .f32 2147483648 1065353216))) := Lib.hid (HB.out.setCell (p := ⟨w.heap.size + 1 + 1, 3, none⟩) (by show _ ≤ w.heap.size + 1 + 1; omega) _)
   go_wp2
   go_roundw
   case rel => exact ⟨4, 4, by omega, rfl, rfl, HP2, HZ2, HB2⟩
   case measure => simp [intOf]
  ·obtain rfl : z = 4 := hz
   have c0 : wr.cell? ⟨w.heap.size + 1 + 1, 0, none⟩ = some (.complex .f32 1065353216 0) := cell_at HP.out rfl
   have c1 : wr.cell? ⟨w.heap.size + 1 + 1, 1, none⟩ = some (.complex .f32 0 3212836864) := cell_at HP.out rfl
   have c2 : wr.cell? ⟨w.heap.size + 1 + 1, 2, none⟩ = some (.complex .f32 3212836864 2147483648) := cell_at HP.out rfl
   have c3 : wr.cell? ⟨w.heap.size + 1 + 1, 3, none⟩ = some (.complex .f32 2147483648 1065353216) := cell_at HP.out rfl
   have z0 : wr.cell? ⟨w.heap.size + 1, 0, none⟩ = some (.complex .f32 0 0) := cell_at HZ.out rfl
   have z1 : wr.cell? ⟨w.heap.size + 1, 1, none⟩ = some (.complex .f32 0 0) := cell_at HZ.out rfl
   have z2 : wr.cell? ⟨w.heap.size + 1, 2, none⟩ = some (.complex .f32 0 0) := cell_at HZ.out rfl
   have z3 : wr.cell? ⟨w.heap.size + 1, 3, none⟩ = some (.complex .f32 0 0) := cell_at HZ.out rfl
   have f0 : wr.frozen? ⟨w.heap.size + 1, 0, none⟩ = false := free_at HZ.out
   have f1 : wr.frozen? ⟨w.heap.size + 1, 1, none⟩ = false := free_at HZ.out
   have f2 : wr.frozen? ⟨w.heap.size + 1, 2, none⟩ = false := free_at HZ.out
   have f3 : wr.frozen? ⟨w.heap.size + 1, 3, none⟩ = false := free_at HZ.out
   have hT := set_blk (i := 3) (set_blk (i := 2) (set_blk (i := 1) (set_blk (i := 0) HZ.out (.complex .f32 1065353216 0)) (.complex .f32 0 3212836864)) (.complex .f32 3212836864 2147483648)) (.complex .f32 2147483648 1065353216)
   have hbf := (((HB.out.setCell (p := ⟨w.heap.size + 1, 0, none⟩) (by show _ ≤ w.heap.size + 1; omega) (.complex .f32 1065353216 0)).setCell (p := ⟨w.heap.size + 1, 1, none⟩) (by show _ ≤ w.heap.size + 1; omega) (.complex .f32 0 3212836864)).setCell (p := ⟨w.heap.size + 1, 2, none⟩) (by show _ ≤ w.heap.size + 1; omega) (.complex .f32 3212836864 2147483648)).setCell (p := ⟨w.heap.size + 1, 3, none⟩) (by show _ ≤ w.heap.size + 1; omega) (.complex .f32 2147483648 1065353216)
   have HTF := Lib.hid hT
   have HBF := Lib.hid hbf
   clear hT hbf
   go_wp2_with fail
   exact bodyPost_ret (results_blk rfl rfl HTF.out _ Tryz.underlying84 rfl (by kernel_rfl)) rfl ⟨rfl, HBF.out⟩
def pan11 (k : Nat) : Array Value := if k = 0 then #[.complex .f32 1065353216 0, .complex .f32 1065353216 0, .complex .f32 1065353216 0, .complex .f32 1065353216 0] else if k = 1 then #[.complex .f32 1065353216 0, .complex .f32 1065353216 0, .complex .f32 1065353216 0, .complex .f32 1065353216 0] else if k = 2 then #[.complex .f32 1065353216 0, .complex .f32 2147483648 1065353216, .complex .f32 1065353216 0, .complex .f32 1065353216 0] else if k = 3 then #[.complex .f32 1065353216 0, .complex .f32 2147483648 1065353216, .complex .f32 3212836864 2147483648, .complex .f32 1065353216 0] else #[.complex .f32 1065353216 0, .complex .f32 2147483648 1065353216, .complex .f32 3212836864 2147483648, .complex .f32 0 3212836864]
theorem c123_11 (w : World) : Calls Tryz.prog 123 #[.agg #[.complex .f32 1065353216 0, .complex .f32 1065353216 0, .complex .f32 1065353216 0, .complex .f32 1065353216 0], .int .i64 11] w fun en w' => en = .returned (.agg #[.complex .f32 1065353216 0, .complex .f32 2147483648 1065353216, .complex .f32 3212836864 2147483648, .complex .f32 0 3212836864]) ∧ Below w.heap.size w w' := by
 obtain ⟨w0, hW⟩ : ∃ W, W = ((w.alloc (Obj.cells #[.complex .f32 1065353216 0, .complex .f32 1065353216 0, .complex .f32 1065353216 0, .complex .f32 1065353216 0] 84)).alloc (Obj.cells #[.complex .f32 0 0, .complex .f32 0 0, .complex .f32 0 0, .complex .f32 0 0] 84)).alloc (Obj.cells #[.complex .f32 1065353216 0, .complex .f32 1065353216 0, .complex .f32 1065353216 0, .complex .f32 1065353216 0] 84) := ⟨_, rfl⟩
 have hT1 : w0.heap[w.heap.size + 1]? = some (.cells #[.complex .f32 0 0, .complex .f32 0 0, .complex .f32 0 0, .complex .f32 0 0] 84 (0, 0)) := by rw [hW]; exact heap_old (by simp) (heap_new (by simp))
 have hT2 : w0.heap[w.heap.size + 1 + 1]? = some (.cells #[.complex .f32 1065353216 0, .complex .f32 1065353216 0, .complex .f32 1065353216 0, .complex .f32 1065353216 0] 84 (0, 0)) := by rw [hW]; exact heap_new (by simp)
 have hB0 : Below w.heap.size w w0 := by rw [hW]; exact (below2 _ _ _).alloc (by simp; omega) _
 have hst0 : Hid (w0.heap[w.heap.size + 1 + 1]? = some (.cells (pan11 0) 84 (0, 0))) := Lib.hid hT2
 have HT1 := Lib.hid hT1
 have HB0 := Lib.hid hB0
 have t1 := bt1
 have t11 := bt11
 have t0 := bt0
 have t2 := bt2
 have t3 := bt3
 have t6 := bt6
 have t9 := bt9
 have v0 := wp0
 have v1 := wp1
 have v2 := wp2
 have v3 := wp3
 have v6 := wp6
 have v9 := wp9
 have g1 := ng1
 have g0 := ng0
 have gc := ngc
 go_enter Tryz.func123, Tryz.ntmps123
 go_wp2_with fail
 rw [← hW]
 clear hW hT1 hT2 hB0
 go_loopw [10] (fun i wr => ∃ (k : Nat) (z : Int), k ≤ 4 ∧ z = (k : Int) ∧ i = .int .i64 z ∧ Hid (wr.heap[w.heap.size + 1 + 1]? = some (.cells (pan11 k) 84 (0, 0))) ∧ Hid (wr.heap[w.heap.size + 1]? = some (.cells #[.complex .f32 0 0, .complex .f32 0 0, .complex .f32 0 0, .complex .f32 0 0] 84 (0, 0))) ∧ Hid (Below w.heap.size w wr)) (fun i _ => 4 - (intOf i).toNat)
 case atStart => exact ⟨0, 0, Nat.zero_le _, rfl, rfl, hst0, HT1, HB0⟩
 case round =>
  clear hst0 HT1 HB0
  obtain ⟨k, z, hk, hz, rfl, HP, HZ, HB⟩ := hrel
  have h5 : k = 0 ∨ k = 1 ∨ k = 2 ∨ k = 3 ∨ k = 4 := by omega
  rcases h5 with rfl | rfl | rfl | rfl | rfl
  ·obtain rfl : z = 0 := hz
   have ix := px0
   go_wp2
   go_roundw
   case rel => exact ⟨1, 1, by omega, rfl, rfl, HP, HZ, HB⟩
   case measure => simp [intOf]
  ·obtain rfl : z = 1 := hz
   have ix := px1
   have qc : wr.cell? ⟨w.heap.size + 1 + 1, 1, none⟩ = some (.complex .f32 1065353216 0) := cell_at HP.out rfl
   have qf : wr.frozen? ⟨w.heap.size + 1 + 1, 1, none⟩ = false := free_at HP.out
   have HP2 : Hid ((wr.setCell ⟨w.heap.size + 1 + 1, 1, none⟩ (.complex .f32 2147483648 1065353216)).heap[w.heap.size + 1 + 1]? = some (.cells (pan11 2) 84 (0, 0))) := Lib.hid (set_blk (i := 1) HP.out _)
   have HZ2 : Hid ((wr.setCell ⟨w.heap.size + 1 + 1, 1, none⟩ (.complex .f32 2147483648 1065353216)).heap[w.heap.size + 1]? = some (.cells #[.complex .f32 0 0, .complex .f32 0 0, .complex .f32 0 0, .complex .f32 0 0] 84 (0, 0))) := Lib.hid ((set_far (p := ⟨w.heap.size + 1 + 1, 1, none⟩) _ (by show w.heap.size + 1 ≠ w.heap.size + 1 + 1; omega)).trans HZ.out)
   have HB2 : Hid (Below w.heap.size w (wr.setCell ⟨w.heap.size + 1 + 1, 1, none⟩ (.complex .f32 2147483648 1065353216))) := Lib.hid (HB.out.setCell (p := ⟨w.heap.size + 1 + 1, 1, none⟩) (by show _ ≤ w.heap.size + 1 + 1; omega) _)
   go_wp2
   go_roundw
   case rel => exact ⟨2, 2, by omega, rfl, rfl, HP2, HZ2, HB2⟩
   case measure => simp [intOf]
  ·obtain rfl : z = 2 := hz
   have ix := px2
   have qc : wr.cell? ⟨w.heap.size + 1 + 1, 2, none⟩ = some (.complex .f32 1065353216 0) := cell_at HP.out rfl
   have qf : wr.frozen? ⟨w.heap.size + 1 + 1, 2, none⟩ = false := free_at HP.out
   have HP2 : Hid ((wr.setCell ⟨w.heap.size + 1 + 1, 2, none⟩ (.complex .f32 3212836864 2147483648)).heap[w.heap.size + 1 + 1]? = some (.cells (pan11 3) 84 (0, 0))) := Lib.hid (set_blk (i := 2) HP.out _)
   have HZ2 : Hid ((wr.setCell ⟨w.heap.size + 1 + 1, 2, none⟩ (.complex .f32 3212836864 2147483648)).heap[w.heap.size + 1]? = some (.cells #[.complex .f32 0 0, .complex .f32 0 0, .complex .f32 0 0, .complex .f32 0 0] 84 (0, 0))) := Lib.hid ((set_far (p := ⟨w.heap.size + 1 + 1, 2, none⟩) _ (by show w.heap.size + 1 ≠ w.heap.size + 1 + 1; omega)).trans HZ.out)
   have HB2 : Hid (Below w.heap.size w (wr.setCell ⟨w.heap.size + 1 + 1, 2, none⟩ (.complex .f32 3212836864 2147483648))) := Lib.hid (HB.out.setCell (p := ⟨w.heap.size + 1 + 1, 2, none⟩) (by show _ ≤ w.heap.size + 1 + 1; omega) _)
   go_wp2
   go_roundw
   case rel => exact ⟨3, 3, by omega, rfl, rfl, HP2, HZ2, HB2⟩
   case measure => simp [intOf]
  ·obtain rfl : z = 3 := hz
   have ix := px3
   have qc : wr.cell? ⟨w.heap.size + 1 + 1, 3, none⟩ = some (.complex .f32 1065353216 0) := cell_at HP.out rfl
   have qf : wr.frozen? ⟨w.heap.size + 1 + 1, 3, none⟩ = false := free_at HP.out
   have HP2 : Hid ((wr.setCell ⟨w.heap.size + 1 + 1, 3, none⟩ (.complex .f32 0 3212836864)).heap[w.heap.size + 1 + 1]? = some (.cells (pan11 4) 84 (0, 0))) := Lib.hid (set_blk (i := 3) HP.out _)
   have HZ2 : Hid ((wr.setCell ⟨w.heap.size + 1 + 1, 3, none⟩ (.complex .f32 0 3212836864)).heap[w.heap.size + 1]? = some (.cells #[.complex .f32 0 0, .complex .f32 0 0, .complex .f32 0 0, .complex .f32 0 0] 84 (0, 0))) := Lib.hid ((set_far (p := ⟨w.heap.size + 1 + 1, 3, none⟩) _ (by show w.heap.size + 1 ≠ w.heap.size + 1 + 1; omega)).trans HZ.out)
   have HB2 : Hid (Below w.heap.size w (wr.setCell ⟨w.heap.size + 1 + 1, 3, none⟩ (.complex .f32 0 3212836864))) := Lib.hid (HB.out.setCell (p := ⟨w.heap.size + 1 + 1, 3, none⟩) (by show _ ≤ w.heap.size + 1 + 1; omega) _)
   go_wp2
   go_roundw
   case rel => exact ⟨4, 4, by omega, rfl, rfl, HP2, HZ2, HB2⟩
   case measure => simp [intOf]
  ·obtain rfl : z = 4 := hz
   have c0 : wr.cell? ⟨w.heap.size + 1 + 1, 0, none⟩ = some (.complex .f32 1065353216 0) := cell_at HP.out rfl
   have c1 : wr.cell? ⟨w.heap.size + 1 + 1, 1, none⟩ = some (.complex .f32 2147483648 1065353216) := cell_at HP.out rfl
   have c2 : wr.cell? ⟨w.heap.size + 1 + 1, 2, none⟩ = some (.complex .f32 3212836864 2147483648) := cell_at HP.out rfl
   have c3 : wr.cell? ⟨w.heap.size + 1 + 1, 3, none⟩ = some (.complex .f32 0 3212836864) := cell_at HP.out rfl
   have z0 : wr.cell? ⟨w.heap.size + 1, 0, none⟩ = some (.complex .f32 0 0) := cell_at HZ.out rfl
   have z1 : wr.cell? ⟨w.heap.size + 1, 1, none⟩ = some (.complex .f32 0 0) := cell_at HZ.out rfl
   have z2 : wr.cell? ⟨w.heap.size + 1, 2, none⟩ = some (.complex .f32 0 0) := cell_at HZ.out rfl
   have z3 : wr.cell? ⟨w.heap.size + 1, 3, none⟩ = some (.complex .f32 0 0) := cell_at HZ.out rfl
   have f0 : wr.frozen? ⟨w.heap.size + 1, 0, none⟩ = false := free_at HZ.out
   have f1 : wr.frozen? ⟨w.heap.size + 1, 1, none⟩ = false := free_at HZ.out
   have f2 : wr.frozen? ⟨w.heap.size + 1, 2, none⟩ = false := free_at HZ.out
   have f3 : wr.frozen? ⟨w.heap.size + 1, 3, none⟩ = false := free_at HZ.out
   have hT := set_blk (i := 3) (set_blk (i := 2) (set_blk (i := 1) (set_blk (i := 0) HZ.out (.complex .f32 1065353216 0)) (.complex .f32 2147483648 1065353216)) (.complex .f32 3212836864 2147483648)) (.complex .f32 0 3212836864)
   have hbf := (((HB.out.setCell (p := ⟨w.heap.size + 1, 0, none⟩) (by show _ ≤ w.heap.size + 1; omega) (.complex .f32 1065353216 0)).setCell (p := ⟨w.heap.size + 1, 1, none⟩) (by show _ ≤ w.heap.size + 1; omega) (.complex .f32 2147483648 1065353216)).setCell (p := ⟨w.heap.size + 1, 2, none⟩) (by show _ ≤ w.heap.size + 1; omega) (.complex .f32 3212836864 2147483648)).setCell (p := ⟨w.heap.size + 1, 3, none⟩) (by show _ ≤ w.heap.size + 1; omega) (.complex .f32 0 3212836864)
   have HTF := Lib.hid hT
   have HBF := Lib.hid hbf
   clear hT hbf
   go_wp2_with fail
   exact bodyPost_ret (results_blk rfl rfl HTF.out _ Tryz.underlying84 rfl (by kernel_rfl)) rfl ⟨rfl, HBF.out⟩
end Go.Proofs.YtdimmlljjmmdbaaGreatDoor
namespace Go.Proofs.YtdimmlljjmmdbaaGreatDoor
open Go.RowKit
set_option maxHeartbeats 4000000
set_option maxRecDepth 20000
/-- a layer -/
structure Ly where
 t : Int
 s : Int
def Ly.enc (x : Ly) : List Value := [.int .i64 x.t, .int .i64 x.s]
theorem Ly.len (x : Ly) : x.enc.length = 2 := rfl
def RdY (w : World) (A : Option Addr) (n : Nat) (l : List Ly) : Prop := RdS w 2 A n (l.flatMap Ly.enc)
theorem RdY.below {w w' : World} {A : Option Addr} {n : Nat} {l : List Ly} (h : RdY w A n l) (hb : Below w.heap.size w w') : RdY w' A n l := RdS.below h hb
theorem RdY.len {w : World} {A : Option Addr} {n : Nat} {l : List Ly} (h : RdY w A n l) : l.length = n := by
 have := h.1
 rw [flat_len Ly.len] at this
 omega
theorem RdY.at {w : World} {A : Option Addr} {n : Nat} {l : List Ly} (h : RdY w A n l) {k : Nat} (hk : k < n) :
  ∃ b off x, A = some ⟨b, off, none⟩ ∧ l[k]? = some x ∧ b < w.heap.size ∧ w.cell? ⟨b, off + k * 2, none⟩ = some (.int .i64 x.t) ∧ w.cell? ⟨b, off + k * 2 + 1, none⟩ = some (.int .i64 x.s) := by
 have hn := h.len
 have h' : RdL w 2 Ly.enc A l := by unfold RdL; rw [hn]; exact h
 obtain ⟨b, off, x, hA, hx, hb, hc⟩ := h'.at Ly.len (by rw [hn]; exact hk)
 exact ⟨b, off, x, hA, hx, hb, hc 0 (by omega), hc 1 (by omega)⟩
def Mo.lay (x : Ly) : Int := Mo.first [Mo.range x.t 0 1000, Mo.range x.s 1 100]
theorem c122 (x : Ly) (w : World) :
  Calls Tryz.prog 122 #[.agg #[.int .i64 x.t, .int .i64 x.s]] w fun en w' => en = .returned (.int .i64 (Mo.lay x)) ∧ Below w.heap.size w w' := by
 obtain ⟨w0, hW⟩ : ∃ W, W = w.alloc (Obj.cells #[.int .i64 x.t, .int .i64 x.s] 80) := ⟨_, rfl⟩
 have hT0 : w0.heap[w.heap.size]? = some (.cells #[.int .i64 x.t, .int .i64 x.s] 80 (0, 0)) := by rw [hW]; exact heap_new (by simp)
 have hB0 : Below w.heap.size w w0 := by rw [hW]; exact ((Below.refl _ _).alloc (by first | omega | (simp <;> omega)) _)
 go_enter Tryz.func122, Tryz.ntmps122
 go_wp2_with fail
 rw [← hW]
 clear hW
 have qhT0_0 : w0.cell? ⟨w.heap.size, 0, none⟩ = some (.int .i64 x.t) := cell_at hT0 rfl
 have qhT0_1 : w0.cell? ⟨w.heap.size, 1, none⟩ = some (.int .i64 x.s) := cell_at hT0 rfl
 refine wp_region_plan [(0, true), (1, true), (3, true), (4, true), (2, false), (5, false), (6, false), (7, false), (8, true)] w0.heap.size (by kernel_rfl) (by kernel_rfl) (Nat.le_refl _) (fun _ _ d _ _ h => by cases d <;> exact h) ?_
 have hC : Below w0.heap.size w0 w0 := Below.refl _ _
 have zhT0 : w.heap.size < w0.heap.size := (Array.getElem?_eq_some_iff.1 hT0).1
 repeat (first | (refine wpPlanA_skip _ rfl (by rfl) ?_; simp only [Act.put, List.setIfInBounds_toArray, List.set_cons_zero, List.set_cons_succ]) | (refine wpPlanA_soft _ ?_ rfl (by rfl) ?_ ?_; rotate_left; (intro wq hq hcq; go_simp; first | exact rfl | exact ⟨rfl, rfl⟩); simp only [Act.put, List.setIfInBounds_toArray, List.set_cons_zero, List.set_cons_succ]))
 refine wpPlanA_hard _ rfl (by rfl) (fun w1 hS K hK => ?_)
 have hB1 := hB0.call hS rfl
 replace hC := hC.call hS rfl
 replace hT0 := blkb hT0 hS
 clear hS hB0
 go_simp
 refine (c93 x.t 0 1000 _).mono ?_
 rintro e w' ⟨rfl, rfl⟩
 refine hK _ _ hC ?_
 clear hK K
 try simp only [Act.put, List.setIfInBounds_toArray, List.set_cons_zero, List.set_cons_succ]
 refine wpPlanA_hard _ rfl (by rfl) (fun w2 hS K hK => ?_)
 have hB2 := hB1.call hS rfl
 replace hC := hC.call hS rfl
 replace hT0 := blkb hT0 hS
 clear hS hB1
 go_simp
 refine (c93 x.s 1 100 _).mono ?_
 rintro e w' ⟨rfl, rfl⟩
 refine hK _ _ hC ?_
 clear hK K
 try simp only [Act.put, List.setIfInBounds_toArray, List.set_cons_zero, List.set_cons_succ]
 refine wpPlanA_hard _ rfl (by rfl) (fun w3 hS K hK => ?_)
 have hB3 := hB2.call hS rfl
 replace hC := hC.call hS rfl
 replace hT0 := blkb hT0 hS
 clear hS hB2
 go_simp
 have hb : Below w3.heap.size w3 (w3.alloc (Obj.cells #[.int .i64 (Mo.range x.t 0 1000), .int .i64 (Mo.range x.s 1 100)] 32)) := (Below.refl _ _).alloc (Nat.le_refl _) _
 have k1 : (w3.alloc (Obj.cells #[.int .i64 (Mo.range x.t 0 1000), .int .i64 (Mo.range x.s 1 100)] 32)).heap[w3.heap.size]? = some (Obj.cells #[.int .i64 (Mo.range x.t 0 1000), .int .i64 (Mo.range x.s 1 100)] 32) := heap_new rfl
 refine hK _ _ (hC.alloc hC.size _) ?_
 clear hK K
 replace hC := hC.call hb rfl
 have hB4 := hB3.call hb rfl
 replace hT0 := blkb hT0 hb
 clear hb hB3
 generalize hWn : w3.alloc (Obj.cells #[.int .i64 (Mo.range x.t 0 1000), .int .i64 (Mo.range x.s 1 100)] 32) = w4 at k1 hC hB4 hT0 ⊢
 clear hWn
 generalize hWn : w3.heap.size = bk1 at k1 ⊢
 clear hWn
 try simp only [Act.put, List.setIfInBounds_toArray, List.set_cons_zero, List.set_cons_succ]
 refine wpPlanA_hard _ rfl (by rfl) (fun w5 hS K hK => ?_)
 have hB5 := hB4.call hS rfl
 replace hC := hC.call hS rfl
 replace hT0 := blkb hT0 hS
 replace k1 := blkb k1 hS
 clear hS hB4
 go_simp
 refine (c89 _ 2 2 [Mo.range x.t 0 1000, Mo.range x.s 1 100] _ rfl (by omega) (RdS.of_block (cs := encI [Mo.range x.t 0 1000, Mo.range x.s 1 100]) k1 rfl)).mono ?_
 rintro e w' ⟨rfl, rfl⟩
 refine hK _ _ hC ?_
 clear hK K
 try simp only [Act.put, List.setIfInBounds_toArray, List.set_cons_zero, List.set_cons_succ]
 repeat (first | (refine wpPlanA_skip _ rfl (by rfl) ?_; simp only [Act.put, List.setIfInBounds_toArray, List.set_cons_zero, List.set_cons_succ]) | (refine wpPlanA_soft _ ?_ rfl (by rfl) ?_ ?_; rotate_left; (intro wq hq hcq; go_simp; first | exact rfl | exact ⟨rfl, rfl⟩); simp only [Act.put, List.setIfInBounds_toArray, List.set_cons_zero, List.set_cons_succ]))
 clear k1
 clear qhT0_0 qhT0_1
 refine wpPlanA_nil (fun w6 hS => ?_)
 clear hC zhT0
 have hB6 := hB5.call hS rfl
 replace hT0 := blkb hT0 hS
 clear hS hB5
 have qhT0_0 : w6.cell? ⟨w.heap.size, 0, none⟩ = some (.int .i64 x.t) := cell_at hT0 rfl
 have qhT0_1 : w6.cell? ⟨w.heap.size, 1, none⟩ = some (.int .i64 x.s) := cell_at hT0 rfl
 go_wp2
 go_ret
 exact ⟨rfl, hB6⟩
theorem c121 (A : Option Addr) (n cap : Nat) (l : List Ly) (f : Ly → Int) (w : World) (hl : n ≤ 1000000) (H : RdY w A n l)
  (hcl : ∀ (W : World) (x : Ly), x ∈ l → Below w.heap.size w W →
   Calls Tryz.prog 122 #[.agg #[.int .i64 x.t, .int .i64 x.s]] W fun e w' => e = .returned (Value.int .i64 (f x)) ∧ Below W.heap.size W w') :
  Calls Tryz.prog 121 #[.slice A n cap, .func (.func 122) #[] #[]] w fun en w' => ∃ A' cap', en = .returned (.slice A' n cap') ∧ RdI w' A' n (l.map f) ∧ Below w.heap.size w w' := by
 have Hn := Lib.hid H.len
 have Hcl := Lib.hid hcl
 have hmm : encI (l.map f) = l.map fun x => Value.int .i64 (f x) := by simp [encI]
 have Hm := Lib.hid hmm
 clear hcl hmm
 obtain ⟨i0, hi, hz0, hz1, hz2⟩ := info_parts info32
 go_enter Tryz.func121, Tryz.ntmps121
 go_wp2
 go_loopw [5, 10] (fun x i wr => ∃ k : Nat, k ≤ n ∧ i = .int .i64 k ∧ wr.ownsRow w.heap.size 32 1 x k ((l.map fun x => Value.int .i64 (f x)).take k) ∧ Below w.heap.size w wr) (fun _ i _ => n - (intOf i).toNat)
 case atStart => exact ⟨0, Nat.zero_le _, rfl, World.ownsRow_nil _ _ _ _, Below.refl _ _⟩
 case round =>
  obtain ⟨k, hk, rfl, hown, hB⟩ := hrel
  by_cases hlt : k < n
  ·obtain ⟨b, off, x, rfl, hx, hb, h0, h1⟩ := (H.below hB).at hlt
   have Hx := Lib.hid hx
   have htk : (l.map fun x => Value.int .i64 (f x)).take (k + 1) = (l.map fun x => Value.int .i64 (f x)).take k ++ [Value.int .i64 (f x)] := by rw [List.take_succ, List.getElem?_map, hx]; simp
   have HTK := Lib.hid htk
   clear hx htk
   go_wp2_with fail
   refine (Hcl.out _ x (List.mem_of_getElem? Hx.out) (hB.alloc hB.size _)).mono ?_
   rintro e w2 ⟨rfl, hb2⟩
   have hown2 := own_below (hown.alloc (Obj.cells #[.int .i64 x.t, .int .i64 x.s] 80)) hb2
   have hB2 := (hB.alloc hB.size (Obj.cells #[.int .i64 x.t, .int .i64 x.s] 80)).call hb2 rfl
   have hsz := hB2.size
   go_wp2_with (at_builtin; refine wpList_append_own _ rfl _ _ 152 rfl w.heap.size 32 i0 (.int .i64 0) 1 8 Tryz.underlying152 hi hz0 hz1 hz2 rfl (by decide) _ _ _ rfl (hown2.alloc _) ⟨w2.heap.size, 0, none⟩ 1 1 [Value.int .i64 (f x)] rfl rfl ?c1 ?c2 ?c3 ?c4 ?c5 ?_)
   case c1 => exact news_one _ _ rfl
   case c2 => intro x hx; simp at hx; subst hx; rfl
   case c3 => unfold maxLen; omega
   case c4 => omega
   case c5 => simp; omega
   intro x' w3 hown3 hg3 _
   have hB3 : Below w.heap.size w w3 := (hB2.alloc hsz _).grown hg3 (by simp; omega) (fun g hg => (hown2.lt g hg).1)
   rw [← HTK.out] at hown3
   have HO := Lib.hid hown3
   clear hown3 hg3 hown2 hown
   go_wp2
   go_roundw
   case rel => exact ⟨k + 1, by omega, by go_num, HO.out, hB3⟩
   case measure => simp [intOf]; omega
  ·obtain rfl : k = n := by omega
   rw [List.take_of_length_le (by rw [List.length_map, Hn.out]; exact Nat.le_refl _)] at hown
   have HO := Lib.hid hown
   clear hown
   go_wp2
   go_ret
   obtain ⟨A', cap', rfl, hr⟩ := Sl.of_own HO.out
   exact ⟨A', cap', rfl, by unfold RdI; rw [Hm.out]; exact hr, hB⟩
theorem c45_1 (w : World) :
  Calls Tryz.prog 45 #[.agg #[.complex .f32 1065353216 0, .complex .f32 1065353216 0, .complex .f32 1065353216 0, .complex .f32 1065353216 0], .int .i64 1] w fun en w' => en = .returned (.tuple #[.agg #[.complex .f32 1065353216 0, .complex .f32 0 3212836864, .complex .f32 3212836864 2147483648, .complex .f32 2147483648 1065353216], .int .i64 0]) ∧ Below w.heap.size w w' := by
 obtain ⟨w0, hW⟩ : ∃ W, W = (w.alloc (Obj.cells #[.complex .f32 1065353216 0, .complex .f32 1065353216 0, .complex .f32 1065353216 0, .complex .f32 1065353216 0] 84)).alloc (Obj.cells #[.complex .f32 0 0, .complex .f32 0 0, .complex .f32 0 0, .complex .f32 0 0] 84) := ⟨_, rfl⟩
 have hT0 : w0.heap[w.heap.size]? = some (.cells #[.complex .f32 1065353216 0, .complex .f32 1065353216 0, .complex .f32 1065353216 0, .complex .f32 1065353216 0] 84 (0, 0)) := by rw [hW]; exact heap_old (by simp <;> omega) (heap_new (by simp))
 have hT1 : w0.heap[w.heap.size + 1]? = some (.cells #[.complex .f32 0 0, .complex .f32 0 0, .complex .f32 0 0, .complex .f32 0 0] 84 (0, 0)) := by rw [hW]; exact heap_new (by simp)
 have hB0 : Below w.heap.size w w0 := by rw [hW]; exact (((Below.refl _ _).alloc (by first | omega | (simp <;> omega)) _).alloc (by first | omega | (simp <;> omega)) _)
 go_enter Tryz.func45, Tryz.ntmps45
 go_wp2_with fail
 rw [← hW]
 clear hW
 have qhT0_0 : w0.cell? ⟨w.heap.size, 0, none⟩ = some (.complex .f32 1065353216 0) := cell_at hT0 rfl
 have qhT0_1 : w0.cell? ⟨w.heap.size, 1, none⟩ = some (.complex .f32 1065353216 0) := cell_at hT0 rfl
 have qhT0_2 : w0.cell? ⟨w.heap.size, 2, none⟩ = some (.complex .f32 1065353216 0) := cell_at hT0 rfl
 have qhT0_3 : w0.cell? ⟨w.heap.size, 3, none⟩ = some (.complex .f32 1065353216 0) := cell_at hT0 rfl
 have qhT1_0 : w0.cell? ⟨w.heap.size + 1, 0, none⟩ = some (.complex .f32 0 0) := cell_at hT1 rfl
 have qhT1_1 : w0.cell? ⟨w.heap.size + 1, 1, none⟩ = some (.complex .f32 0 0) := cell_at hT1 rfl
 have qhT1_2 : w0.cell? ⟨w.heap.size + 1, 2, none⟩ = some (.complex .f32 0 0) := cell_at hT1 rfl
 have qhT1_3 : w0.cell? ⟨w.heap.size + 1, 3, none⟩ = some (.complex .f32 0 0) := cell_at hT1 rfl
 go_wp2_with fail
 refine (c120_1 _).mono ?_
 rintro e w1 ⟨rfl, hb⟩
 clear qhT0_0 qhT0_1 qhT0_2 qhT0_3 qhT1_0 qhT1_1 qhT1_2 qhT1_3
 have hS := hb
 have hB1 := hB0.call hS rfl
 replace hT0 := blkb hT0 hS
 replace hT1 := blkb hT1 hS
 clear hS hB0
 have qhT0_0 : w1.cell? ⟨w.heap.size, 0, none⟩ = some (.complex .f32 1065353216 0) := cell_at hT0 rfl
 have qhT0_1 : w1.cell? ⟨w.heap.size, 1, none⟩ = some (.complex .f32 1065353216 0) := cell_at hT0 rfl
 have qhT0_2 : w1.cell? ⟨w.heap.size, 2, none⟩ = some (.complex .f32 1065353216 0) := cell_at hT0 rfl
 have qhT0_3 : w1.cell? ⟨w.heap.size, 3, none⟩ = some (.complex .f32 1065353216 0) := cell_at hT0 rfl
 have qhT1_0 : w1.cell? ⟨w.heap.size + 1, 0, none⟩ = some (.complex .f32 0 0) := cell_at hT1 rfl
 have qhT1_1 : w1.cell? ⟨w.heap.size + 1, 1, none⟩ = some (.complex .f32 0 0) := cell_at hT1 rfl
 have qhT1_2 : w1.cell? ⟨w.heap.size + 1, 2, none⟩ = some (.complex .f32 0 0) := cell_at hT1 rfl
 have qhT1_3 : w1.cell? ⟨w.heap.size + 1, 3, none⟩ = some (.complex .f32 0 0) := cell_at hT1 rfl
 clear hb
 go_wp2_with fail
 refine (c93 1 (-100000) 100000 _).mono ?_
 rintro e w' ⟨rfl, rfl⟩
 have hr1 : Mo.range 1 (-100000) 100000 = 0 := rfl
 rw [hr1]
 clear hr1
 go_wp2_with fail
 refine (c89 _ 2 2 [0, 0] _ rfl (by omega) (RdS.of_new (cs := encI [0, 0]) rfl rfl)).mono ?_
 rintro e w' ⟨rfl, rfl⟩
 obtain ⟨w2, hwn⟩ : ∃ V, V = w1.alloc (Obj.cells (encI [0, 0]).toArray 32) := ⟨_, rfl⟩
 have hbn : Below w1.heap.size w1 w2 := by rw [hwn]; exact (Below.refl _ _).alloc (Nat.le_refl _) _
 try rw [← hwn]
 clear hwn
 clear qhT0_0 qhT0_1 qhT0_2 qhT0_3 qhT1_0 qhT1_1 qhT1_2 qhT1_3
 have hS := hbn
 have hB2 := hB1.call hS rfl
 replace hT0 := blkb hT0 hS
 replace hT1 := blkb hT1 hS
 clear hS hB1
 have qhT0_0 : w2.cell? ⟨w.heap.size, 0, none⟩ = some (.complex .f32 1065353216 0) := cell_at hT0 rfl
 have qhT0_1 : w2.cell? ⟨w.heap.size, 1, none⟩ = some (.complex .f32 1065353216 0) := cell_at hT0 rfl
 have qhT0_2 : w2.cell? ⟨w.heap.size, 2, none⟩ = some (.complex .f32 1065353216 0) := cell_at hT0 rfl
 have qhT0_3 : w2.cell? ⟨w.heap.size, 3, none⟩ = some (.complex .f32 1065353216 0) := cell_at hT0 rfl
 have qhT1_0 : w2.cell? ⟨w.heap.size + 1, 0, none⟩ = some (.complex .f32 0 0) := cell_at hT1 rfl
 have qhT1_1 : w2.cell? ⟨w.heap.size + 1, 1, none⟩ = some (.complex .f32 0 0) := cell_at hT1 rfl
 have qhT1_2 : w2.cell? ⟨w.heap.size + 1, 2, none⟩ = some (.complex .f32 0 0) := cell_at hT1 rfl
 have qhT1_3 : w2.cell? ⟨w.heap.size + 1, 3, none⟩ = some (.complex .f32 0 0) := cell_at hT1 rfl
 clear hbn
 have hf2 : Mo.first [0, 0] = 0 := rfl
 rw [hf2]
 clear hf2
 go_wp2_with fail
 go_wp2_with fail
 refine (c123_1 _).mono ?_
 rintro e w3 ⟨rfl, hb⟩
 clear qhT0_0 qhT0_1 qhT0_2 qhT0_3 qhT1_0 qhT1_1 qhT1_2 qhT1_3
 have hS := hb
 have hB3 := hB2.call hS rfl
 replace hT0 := blkb hT0 hS
 replace hT1 := blkb hT1 hS
 clear hS hB2
 have qhT0_0 : w3.cell? ⟨w.heap.size, 0, none⟩ = some (.complex .f32 1065353216 0) := cell_at hT0 rfl
 have qhT0_1 : w3.cell? ⟨w.heap.size, 1, none⟩ = some (.complex .f32 1065353216 0) := cell_at hT0 rfl
 have qhT0_2 : w3.cell? ⟨w.heap.size, 2, none⟩ = some (.complex .f32 1065353216 0) := cell_at hT0 rfl
 have qhT0_3 : w3.cell? ⟨w.heap.size, 3, none⟩ = some (.complex .f32 1065353216 0) := cell_at hT0 rfl
 have qhT1_0 : w3.cell? ⟨w.heap.size + 1, 0, none⟩ = some (.complex .f32 0 0) := cell_at hT1 rfl
 have qhT1_1 : w3.cell? ⟨w.heap.size + 1, 1, none⟩ = some (.complex .f32 0 0) := cell_at hT1 rfl
 have qhT1_2 : w3.cell? ⟨w.heap.size + 1, 2, none⟩ = some (.complex .f32 0 0) := cell_at hT1 rfl
 have qhT1_3 : w3.cell? ⟨w.heap.size + 1, 3, none⟩ = some (.complex .f32 0 0) := cell_at hT1 rfl
 clear hb
 clear qhT0_0 qhT0_1 qhT0_2 qhT0_3 qhT1_0 qhT1_1 qhT1_2 qhT1_3
 have sc0 : w3.cell? ⟨w.heap.size + 1, 0, none⟩ = some (.complex .f32 0 0) := cell_at hT1 rfl
 have sf0 : w3.frozen? ⟨w.heap.size + 1, 0, none⟩ = false := free_at hT1
 have sc1 : w3.cell? ⟨w.heap.size + 1, 1, none⟩ = some (.complex .f32 0 0) := cell_at hT1 rfl
 have sf1 : w3.frozen? ⟨w.heap.size + 1, 1, none⟩ = false := free_at hT1
 have sc2 : w3.cell? ⟨w.heap.size + 1, 2, none⟩ = some (.complex .f32 0 0) := cell_at hT1 rfl
 have sf2 : w3.frozen? ⟨w.heap.size + 1, 2, none⟩ = false := free_at hT1
 have sc3 : w3.cell? ⟨w.heap.size + 1, 3, none⟩ = some (.complex .f32 0 0) := cell_at hT1 rfl
 have sf3 : w3.frozen? ⟨w.heap.size + 1, 3, none⟩ = false := free_at hT1
 have hTs := set_blk (i := 3) (set_blk (i := 2) (set_blk (i := 1) (set_blk (i := 0) hT1 (.complex .f32 1065353216 0)) (.complex .f32 0 3212836864)) (.complex .f32 3212836864 2147483648)) (.complex .f32 2147483648 1065353216)
 have hbs := ((((hB3.setCell (p := ⟨w.heap.size + 1, 0, none⟩) (by show _ ≤ w.heap.size + 1; omega) (.complex .f32 1065353216 0)).setCell (p := ⟨w.heap.size + 1, 1, none⟩) (by show _ ≤ w.heap.size + 1; omega) (.complex .f32 0 3212836864)).setCell (p := ⟨w.heap.size + 1, 2, none⟩) (by show _ ≤ w.heap.size + 1; omega) (.complex .f32 3212836864 2147483648)).setCell (p := ⟨w.heap.size + 1, 3, none⟩) (by show _ ≤ w.heap.size + 1; omega) (.complex .f32 2147483648 1065353216))
 have HTS := Lib.hid hTs
 have HBS := Lib.hid hbs
 clear hTs hbs
 go_wp2_with fail
 exact bodyPost_ret (results_blk_tmp rfl rfl HTS.out _ Tryz.underlying84 rfl (by kernel_rfl)) rfl ⟨rfl, HBS.out⟩
theorem c44_1 (b : Nat) (w : World) (HL : RdY w (some ⟨b, 0, none⟩) 2 [⟨2, 3⟩, ⟨1, 5⟩]) :
  Calls Tryz.prog 44 #[.agg #[.complex .f32 1065353216 0, .complex .f32 1065353216 0, .complex .f32 1065353216 0, .complex .f32 1065353216 0], .slice (some ⟨b, 0, none⟩) 2 2, .bool false] w fun en w' => en = .returned (.tuple #[.agg #[.complex .f32 1065353216 0, .complex .f32 2147483648 1065353216, .complex .f32 3212836864 2147483648, .complex .f32 0 3212836864], .int .i64 0]) ∧ Below w.heap.size w w' := by
 obtain ⟨w0, hW⟩ : ∃ W, W = (w.alloc (Obj.cells #[.complex .f32 1065353216 0, .complex .f32 1065353216 0, .complex .f32 1065353216 0, .complex .f32 1065353216 0] 84)).alloc (Obj.cells #[.complex .f32 0 0, .complex .f32 0 0, .complex .f32 0 0, .complex .f32 0 0] 84) := ⟨_, rfl⟩
 have hT0 : w0.heap[w.heap.size]? = some (.cells #[.complex .f32 1065353216 0, .complex .f32 1065353216 0, .complex .f32 1065353216 0, .complex .f32 1065353216 0] 84 (0, 0)) := by rw [hW]; exact heap_old (by simp <;> omega) (heap_new (by simp))
 have hT1 : w0.heap[w.heap.size + 1]? = some (.cells #[.complex .f32 0 0, .complex .f32 0 0, .complex .f32 0 0, .complex .f32 0 0] 84 (0, 0)) := by rw [hW]; exact heap_new (by simp)
 have hB0 : Below w.heap.size w w0 := by rw [hW]; exact (((Below.refl _ _).alloc (by first | omega | (simp <;> omega)) _).alloc (by first | omega | (simp <;> omega)) _)
 replace HL := HL.below hB0
 go_enter Tryz.func44, Tryz.ntmps44
 go_wp2_with fail
 rw [← hW]
 clear hW
 have qhT0_0 : w0.cell? ⟨w.heap.size, 0, none⟩ = some (.complex .f32 1065353216 0) := cell_at hT0 rfl
 have qhT0_1 : w0.cell? ⟨w.heap.size, 1, none⟩ = some (.complex .f32 1065353216 0) := cell_at hT0 rfl
 have qhT0_2 : w0.cell? ⟨w.heap.size, 2, none⟩ = some (.complex .f32 1065353216 0) := cell_at hT0 rfl
 have qhT0_3 : w0.cell? ⟨w.heap.size, 3, none⟩ = some (.complex .f32 1065353216 0) := cell_at hT0 rfl
 have qhT1_0 : w0.cell? ⟨w.heap.size + 1, 0, none⟩ = some (.complex .f32 0 0) := cell_at hT1 rfl
 have qhT1_1 : w0.cell? ⟨w.heap.size + 1, 1, none⟩ = some (.complex .f32 0 0) := cell_at hT1 rfl
 have qhT1_2 : w0.cell? ⟨w.heap.size + 1, 2, none⟩ = some (.complex .f32 0 0) := cell_at hT1 rfl
 have qhT1_3 : w0.cell? ⟨w.heap.size + 1, 3, none⟩ = some (.complex .f32 0 0) := cell_at hT1 rfl
 go_wp2_with fail
 refine (c120_1 _).mono ?_
 rintro e w1 ⟨rfl, hb⟩
 clear qhT0_0 qhT0_1 qhT0_2 qhT0_3 qhT1_0 qhT1_1 qhT1_2 qhT1_3
 have hS := hb
 have hB1 := hB0.call hS rfl
 replace hT0 := blkb hT0 hS
 replace hT1 := blkb hT1 hS
 replace HL := HL.below hS
 clear hS hB0
 have qhT0_0 : w1.cell? ⟨w.heap.size, 0, none⟩ = some (.complex .f32 1065353216 0) := cell_at hT0 rfl
 have qhT0_1 : w1.cell? ⟨w.heap.size, 1, none⟩ = some (.complex .f32 1065353216 0) := cell_at hT0 rfl
 have qhT0_2 : w1.cell? ⟨w.heap.size, 2, none⟩ = some (.complex .f32 1065353216 0) := cell_at hT0 rfl
 have qhT0_3 : w1.cell? ⟨w.heap.size, 3, none⟩ = some (.complex .f32 1065353216 0) := cell_at hT0 rfl
 have qhT1_0 : w1.cell? ⟨w.heap.size + 1, 0, none⟩ = some (.complex .f32 0 0) := cell_at hT1 rfl
 have qhT1_1 : w1.cell? ⟨w.heap.size + 1, 1, none⟩ = some (.complex .f32 0 0) := cell_at hT1 rfl
 have qhT1_2 : w1.cell? ⟨w.heap.size + 1, 2, none⟩ = some (.complex .f32 0 0) := cell_at hT1 rfl
 have qhT1_3 : w1.cell? ⟨w.heap.size + 1, 3, none⟩ = some (.complex .f32 0 0) := cell_at hT1 rfl
 clear hb
 go_wp2_with fail
 refine (c94 false 5 _).mono ?_
 rintro e w' ⟨rfl, rfl⟩
 have hr1 : Mo.when false 5 = 0 := rfl
 rw [hr1]
 clear hr1
 go_wp2_with fail
 refine (c89 _ 2 2 [0, 0] _ rfl (by omega) (RdS.of_new (cs := encI [0, 0]) rfl rfl)).mono ?_
 rintro e w' ⟨rfl, rfl⟩
 obtain ⟨w2, hwn⟩ : ∃ V, V = w1.alloc (Obj.cells (encI [0, 0]).toArray 32) := ⟨_, rfl⟩
 have hbn : Below w1.heap.size w1 w2 := by rw [hwn]; exact (Below.refl _ _).alloc (Nat.le_refl _) _
 try rw [← hwn]
 clear hwn
 clear qhT0_0 qhT0_1 qhT0_2 qhT0_3 qhT1_0 qhT1_1 qhT1_2 qhT1_3
 have hS := hbn
 have hB2 := hB1.call hS rfl
 replace hT0 := blkb hT0 hS
 replace hT1 := blkb hT1 hS
 replace HL := HL.below hS
 clear hS hB1
 have qhT0_0 : w2.cell? ⟨w.heap.size, 0, none⟩ = some (.complex .f32 1065353216 0) := cell_at hT0 rfl
 have qhT0_1 : w2.cell? ⟨w.heap.size, 1, none⟩ = some (.complex .f32 1065353216 0) := cell_at hT0 rfl
 have qhT0_2 : w2.cell? ⟨w.heap.size, 2, none⟩ = some (.complex .f32 1065353216 0) := cell_at hT0 rfl
 have qhT0_3 : w2.cell? ⟨w.heap.size, 3, none⟩ = some (.complex .f32 1065353216 0) := cell_at hT0 rfl
 have qhT1_0 : w2.cell? ⟨w.heap.size + 1, 0, none⟩ = some (.complex .f32 0 0) := cell_at hT1 rfl
 have qhT1_1 : w2.cell? ⟨w.heap.size + 1, 1, none⟩ = some (.complex .f32 0 0) := cell_at hT1 rfl
 have qhT1_2 : w2.cell? ⟨w.heap.size + 1, 2, none⟩ = some (.complex .f32 0 0) := cell_at hT1 rfl
 have qhT1_3 : w2.cell? ⟨w.heap.size + 1, 3, none⟩ = some (.complex .f32 0 0) := cell_at hT1 rfl
 clear hbn
 have hf2 : Mo.first [0, 0] = 0 := rfl
 rw [hf2]
 clear hf2
 go_wp2_with fail
 go_wp2_with fail
 refine (c121 (some ⟨b, 0, none⟩) 2 2 [⟨2, 3⟩, ⟨1, 5⟩] Mo.lay _ (by omega) HL (fun W x _ _ => c122 x W)).mono ?_
 rintro e w3 ⟨A1, cap1, rfl, hr1, hb⟩
 clear qhT0_0 qhT0_1 qhT0_2 qhT0_3 qhT1_0 qhT1_1 qhT1_2 qhT1_3
 have hS := hb
 have hB3 := hB2.call hS rfl
 replace hT0 := blkb hT0 hS
 replace hT1 := blkb hT1 hS
 replace HL := HL.below hS
 clear hS hB2
 have qhT0_0 : w3.cell? ⟨w.heap.size, 0, none⟩ = some (.complex .f32 1065353216 0) := cell_at hT0 rfl
 have qhT0_1 : w3.cell? ⟨w.heap.size, 1, none⟩ = some (.complex .f32 1065353216 0) := cell_at hT0 rfl
 have qhT0_2 : w3.cell? ⟨w.heap.size, 2, none⟩ = some (.complex .f32 1065353216 0) := cell_at hT0 rfl
 have qhT0_3 : w3.cell? ⟨w.heap.size, 3, none⟩ = some (.complex .f32 1065353216 0) := cell_at hT0 rfl
 have qhT1_0 : w3.cell? ⟨w.heap.size + 1, 0, none⟩ = some (.complex .f32 0 0) := cell_at hT1 rfl
 have qhT1_1 : w3.cell? ⟨w.heap.size + 1, 1, none⟩ = some (.complex .f32 0 0) := cell_at hT1 rfl
 have qhT1_2 : w3.cell? ⟨w.heap.size + 1, 2, none⟩ = some (.complex .f32 0 0) := cell_at hT1 rfl
 have qhT1_3 : w3.cell? ⟨w.heap.size + 1, 3, none⟩ = some (.complex .f32 0 0) := cell_at hT1 rfl
 clear hb
 go_wp2_with fail
 refine (c89 A1 2 cap1 _ _ hr1.len (by omega) hr1).mono ?_
 rintro e w' ⟨rfl, rfl⟩
 have hf2 : Mo.first (List.map Mo.lay [⟨2, 3⟩, ⟨1, 5⟩]) = 0 := rfl
 rw [hf2]
 clear hf2 hr1
 go_wp2_with fail
 go_loopw [10, 34] (fun S i wr => ∃ (k : Nat) (z : Int), k ≤ 2 ∧ z = (k : Int) ∧ i = .int .i64 z ∧ S = .int .i64 (if k = 0 then 0 else if k = 1 then 6 else 11) ∧ Below w3.heap.size w3 wr) (fun _ i _ => 2 - (intOf i).toNat)
 case atStart => exact ⟨0, 0, Nat.zero_le _, rfl, rfl, rfl, Below.refl _ _⟩
 case round =>
  obtain ⟨k, z, hk, hz, rfl, rfl, hbr⟩ := hrel
  obtain ⟨w4, hww⟩ : ∃ W, W = wr := ⟨_, rfl⟩
  subst hww
  have hB4 := hB3.call hbr rfl
  replace hT0 := blkb hT0 hbr
  replace hT1 := blkb hT1 hbr
  replace HL := HL.below hbr
  clear hB3
  have qhT0_0 : w4.cell? ⟨w.heap.size, 0, none⟩ = some (.complex .f32 1065353216 0) := cell_at hT0 rfl
  have qhT0_1 : w4.cell? ⟨w.heap.size, 1, none⟩ = some (.complex .f32 1065353216 0) := cell_at hT0 rfl
  have qhT0_2 : w4.cell? ⟨w.heap.size, 2, none⟩ = some (.complex .f32 1065353216 0) := cell_at hT0 rfl
  have qhT0_3 : w4.cell? ⟨w.heap.size, 3, none⟩ = some (.complex .f32 1065353216 0) := cell_at hT0 rfl
  have qhT1_0 : w4.cell? ⟨w.heap.size + 1, 0, none⟩ = some (.complex .f32 0 0) := cell_at hT1 rfl
  have qhT1_1 : w4.cell? ⟨w.heap.size + 1, 1, none⟩ = some (.complex .f32 0 0) := cell_at hT1 rfl
  have qhT1_2 : w4.cell? ⟨w.heap.size + 1, 2, none⟩ = some (.complex .f32 0 0) := cell_at hT1 rfl
  have qhT1_3 : w4.cell? ⟨w.heap.size + 1, 3, none⟩ = some (.complex .f32 0 0) := cell_at hT1 rfl
  clear qhT0_0 qhT0_1 qhT0_2 qhT0_3 qhT1_0 qhT1_1 qhT1_2 qhT1_3
  have h0 := HL.2 (by omega)
  obtain ⟨b', off', he, hbl, hcl⟩ := h0
  cases he
  have c0 : w4.cell? ⟨b, 0, none⟩ = some (.int .i64 2) := hcl 0 (by decide)
  have c1 : w4.cell? ⟨b, 1, none⟩ = some (.int .i64 3) := hcl 1 (by decide)
  have c2 : w4.cell? ⟨b, 2, none⟩ = some (.int .i64 1) := hcl 2 (by decide)
  have c3 : w4.cell? ⟨b, 3, none⟩ = some (.int .i64 5) := hcl 3 (by decide)
  clear hcl HL
  have h5 : k = 0 ∨ k = 1 ∨ k = 2 := by omega
  rcases h5 with rfl | rfl | rfl
  ·obtain rfl : z = 0 := hz
   have HN : Hid (Below w3.heap.size w3 (w4.alloc (Obj.cells #[.int .i64 2, .int .i64 3] 80))) := Lib.hid (hbr.alloc hbr.size _)
   clear hbr
   go_wp2
   go_roundw
   case rel => exact ⟨1, 1, by omega, rfl, rfl, rfl, HN.out⟩
   case measure => simp [intOf]
  ·obtain rfl : z = 1 := hz
   have HN : Hid (Below w3.heap.size w3 (w4.alloc (Obj.cells #[.int .i64 1, .int .i64 5] 80))) := Lib.hid (hbr.alloc hbr.size _)
   clear hbr
   go_wp2
   go_roundw
   case rel => exact ⟨2, 2, by omega, rfl, rfl, rfl, HN.out⟩
   case measure => simp [intOf]
  obtain rfl : z = 2 := hz
  clear c0 c1 c2 c3
  have q0_0 : w4.cell? ⟨w.heap.size, 0, none⟩ = some (.complex .f32 1065353216 0) := cell_at hT0 rfl
  have q0_1 : w4.cell? ⟨w.heap.size, 1, none⟩ = some (.complex .f32 1065353216 0) := cell_at hT0 rfl
  have q0_2 : w4.cell? ⟨w.heap.size, 2, none⟩ = some (.complex .f32 1065353216 0) := cell_at hT0 rfl
  have q0_3 : w4.cell? ⟨w.heap.size, 3, none⟩ = some (.complex .f32 1065353216 0) := cell_at hT0 rfl
  go_wp2_with fail
  refine (c123_11 _).mono ?_
  rintro e w5 ⟨rfl, hb⟩
  have hS := hb
  have hB5 := hB4.call hS rfl
  replace hT0 := blkb hT0 hS
  replace hT1 := blkb hT1 hS
  replace hbr := hbr.call hS rfl
  clear hS hB4
  have qhT0_0 : w5.cell? ⟨w.heap.size, 0, none⟩ = some (.complex .f32 1065353216 0) := cell_at hT0 rfl
  have qhT0_1 : w5.cell? ⟨w.heap.size, 1, none⟩ = some (.complex .f32 1065353216 0) := cell_at hT0 rfl
  have qhT0_2 : w5.cell? ⟨w.heap.size, 2, none⟩ = some (.complex .f32 1065353216 0) := cell_at hT0 rfl
  have qhT0_3 : w5.cell? ⟨w.heap.size, 3, none⟩ = some (.complex .f32 1065353216 0) := cell_at hT0 rfl
  have qhT1_0 : w5.cell? ⟨w.heap.size + 1, 0, none⟩ = some (.complex .f32 0 0) := cell_at hT1 rfl
  have qhT1_1 : w5.cell? ⟨w.heap.size + 1, 1, none⟩ = some (.complex .f32 0 0) := cell_at hT1 rfl
  have qhT1_2 : w5.cell? ⟨w.heap.size + 1, 2, none⟩ = some (.complex .f32 0 0) := cell_at hT1 rfl
  have qhT1_3 : w5.cell? ⟨w.heap.size + 1, 3, none⟩ = some (.complex .f32 0 0) := cell_at hT1 rfl
  clear hb
  clear qhT0_0 qhT0_1 qhT0_2 qhT0_3 qhT1_0 qhT1_1 qhT1_2 qhT1_3
  have sc0 : w5.cell? ⟨w.heap.size + 1, 0, none⟩ = some (.complex .f32 0 0) := cell_at hT1 rfl
  have sf0 : w5.frozen? ⟨w.heap.size + 1, 0, none⟩ = false := free_at hT1
  have sc1 : w5.cell? ⟨w.heap.size + 1, 1, none⟩ = some (.complex .f32 0 0) := cell_at hT1 rfl
  have sf1 : w5.frozen? ⟨w.heap.size + 1, 1, none⟩ = false := free_at hT1
  have sc2 : w5.cell? ⟨w.heap.size + 1, 2, none⟩ = some (.complex .f32 0 0) := cell_at hT1 rfl
  have sf2 : w5.frozen? ⟨w.heap.size + 1, 2, none⟩ = false := free_at hT1
  have sc3 : w5.cell? ⟨w.heap.size + 1, 3, none⟩ = some (.complex .f32 0 0) := cell_at hT1 rfl
  have sf3 : w5.frozen? ⟨w.heap.size + 1, 3, none⟩ = false := free_at hT1
  have hTs := set_blk (i := 3) (set_blk (i := 2) (set_blk (i := 1) (set_blk (i := 0) hT1 (.complex .f32 1065353216 0)) (.complex .f32 2147483648 1065353216)) (.complex .f32 3212836864 2147483648)) (.complex .f32 0 3212836864)
  have hbs := ((((hB5.setCell (p := ⟨w.heap.size + 1, 0, none⟩) (by show _ ≤ w.heap.size + 1; omega) (.complex .f32 1065353216 0)).setCell (p := ⟨w.heap.size + 1, 1, none⟩) (by show _ ≤ w.heap.size + 1; omega) (.complex .f32 2147483648 1065353216)).setCell (p := ⟨w.heap.size + 1, 2, none⟩) (by show _ ≤ w.heap.size + 1; omega) (.complex .f32 3212836864 2147483648)).setCell (p := ⟨w.heap.size + 1, 3, none⟩) (by show _ ≤ w.heap.size + 1; omega) (.complex .f32 0 3212836864))
  have HTS := Lib.hid hTs
  have HBS := Lib.hid hbs
  clear hTs hbs
  go_wp2_with fail
  exact bodyPost_ret (results_blk_tmp rfl rfl HTS.out _ Tryz.underlying84 rfl (by kernel_rfl)) rfl ⟨rfl, HBS.out⟩
end Go.Proofs.YtdimmlljjmmdbaaGreatDoor
