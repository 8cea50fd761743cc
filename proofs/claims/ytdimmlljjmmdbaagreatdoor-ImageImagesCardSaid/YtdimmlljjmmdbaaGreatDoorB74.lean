/- A part of the proofs about chapter 7 (image): contracts of functions and plain laws (V74). -/
import Derived.Test.YtdimmlljjmmdbaaGreatDoorA12
import Derived.Test.YtdimmlljjmmdbaaGreatDoorA07
import Derived.Test.YtdimmlljjmmdbaaGreatDoorA10
set_option linter.all false
namespace Go.Proofs.YtdimmlljjmmdbaaGreatDoor
open Go.RowKit Go.Shelf
set_option maxHeartbeats 8000000
set_option maxRecDepth 100000
/-- the test of a straight neighbour whose number is too far off -/
def farT (c : Nat) (l ns : List Int) (most : Int) (i k : Nat) : Bool := decide (0 < Im.cost c l i k) && Im.straight c i k && decide (most < max (Im.at0 ns k - Im.at0 ns i) (Im.at0 ns i - Im.at0 ns k))
theorem far_all (c : Nat) (l ns : List Int) (most : Int) (i : Nat) : (List.range l.length).any (farT c l ns most i) = Im.alia c l ns most i := rfl
theorem far_succ (c : Nat) (l ns : List Int) (most : Int) (i k : Nat) : (List.range (k + 1)).any (farT c l ns most i) = ((List.range k).any (farT c l ns most i) || farT c l ns most i k) := by
 rw [List.range_succ, List.any_append]; simp
theorem tk_push {LL : List Int} {k : Nat} (h : k < LL.length) : LL.take k ++ [Im.at0 LL k] = LL.take (k + 1) := by
 rw [List.take_add_one, List.getElem?_eq_getElem h]
 simp [Im.at0, List.getD_eq_getElem?_getD, h]
theorem rd1y (w : World) (a : Int) : RdI (w.alloc (Obj.cells #[.int .i64 a] 3)) (some ⟨w.heap.size, 0, none⟩) 1 [a] := RdS.of_new (cs := encI [a]) rfl rfl

theorem c29o (c r : Nat) (A : Option Addr) (n cap : Nat) (l : List Int) (un len most : Int) (P : Option Addr) (np capp : Nat) (ps : List Pr) (j a b : Nat) (hole : Bool) (w : World) (g : Im.Gr c r l) (hc : c ≤ 16) (hr : r ≤ 16) (hu : 1 ≤ un ∧ un ≤ 1000) (hlen : 0 ≤ len) (hj : ps[j]? = some ⟨a, b, hole⟩) (hjn : j < np) (hnp : np ≤ 1000000) (ha : a < n) (hb0 : b < n) (H : RdI w A n l) (HP : RdP w P np ps) :
  Calls Tryz.prog 29 #[.agg #[.int .i64 c, .int .i64 r, .slice A n cap], .agg #[.int .i64 un, .int .i64 len, .int .i64 most, .slice P np capp], .int .i64 j] w fun en w' => ∃ gx gc, en = .returned (.slice (some ⟨gx, 0, none⟩) n gc) ∧ RowI w' w.heap.size gx gc n (dlL c l un len most a b hole) ∧ Below w.heap.size w w' := by
 have hln := H.len
 have HLN : Hid (l.length = n) := Lib.hid hln
 obtain ⟨i0, hiz, hz0, hz1, hz2⟩ := info_parts info3
 have HG := Lib.hid g
 have hn0 : 0 < n := by omega
 have hn256 : n ≤ 256 := by have := g.len; have : c * r ≤ 256 := Nat.mul_le_mul hc hr; omega
 have hl : n ≤ 1000000 := by omega
 have hc1 := g.c1
 have hd0 : ((c : Int) == 0) = false := by simp; omega
 have hdz : ¬ c = 0 := by omega
 have hu0 : ¬ un = 0 := by omega
 obtain ⟨pb, poff, p, rfl, hpx, hpb, hp0, hp1, hp2⟩ := HP.at hjn
 rw [hj] at hpx
 obtain rfl := (Option.some.inj hpx)
 dsimp only at hp0 hp1 hp2
 have hjn2 : (j : Int) < (np : Int) := by omega
 have hj0 : (0 : Int) ≤ (j : Int) := by omega
 clear hpx
 obtain ⟨w0, hW⟩ : ∃ W, W = (w.alloc (Obj.cells #[.int .i64 c, .int .i64 r, .slice A n cap] 24)).alloc (Obj.cells #[.int .i64 un, .int .i64 len, .int .i64 most, .slice (some ⟨pb, poff, none⟩) np capp] 27) := ⟨_, rfl⟩
 have hT0 : w0.heap[w.heap.size]? = some (.cells #[.int .i64 c, .int .i64 r, .slice A n cap] 24 (0, 0)) := by rw [hW]; exact heap_old (by simp <;> omega) (heap_new (by simp))
 have hT1 : w0.heap[w.heap.size + 1]? = some (.cells #[.int .i64 un, .int .i64 len, .int .i64 most, .slice (some ⟨pb, poff, none⟩) np capp] 27 (0, 0)) := by rw [hW]; exact heap_new (by simp)
 have hB0 : Below w.heap.size w w0 := by rw [hW]; exact (((Below.refl _ _).alloc (by first | omega | (simp <;> omega)) _).alloc (by first | omega | (simp <;> omega)) _)
 replace H := H.below hB0
 replace HP := HP.below hB0
 go_enter Tryz.func29, Tryz.ntmps29
 go_wp2_with fail
 rw [← hW]
 have hsz0 : w0.heap.size = w.heap.size + 1 + 1 := by rw [hW]; simp
 clear hW
 have qhT0_0 : w0.cell? ⟨w.heap.size, 0, none⟩ = some (.int .i64 c) := cell_at hT0 rfl
 have qhT0_1 : w0.cell? ⟨w.heap.size, 1, none⟩ = some (.int .i64 r) := cell_at hT0 rfl
 have qhT0_2 : w0.cell? ⟨w.heap.size, 2, none⟩ = some (.slice A n cap) := cell_at hT0 rfl
 have qhT1_0 : w0.cell? ⟨w.heap.size + 1, 0, none⟩ = some (.int .i64 un) := cell_at hT1 rfl
 have qhT1_1 : w0.cell? ⟨w.heap.size + 1, 1, none⟩ = some (.int .i64 len) := cell_at hT1 rfl
 have qhT1_2 : w0.cell? ⟨w.heap.size + 1, 2, none⟩ = some (.int .i64 most) := cell_at hT1 rfl
 have qhT1_3 : w0.cell? ⟨w.heap.size + 1, 3, none⟩ = some (.slice (some ⟨pb, poff, none⟩) np capp) := cell_at hT1 rfl
 obtain ⟨_, _, p', e9, hpx, _, hq0, hq1, hq2⟩ := HP.at hjn
 cases e9
 rw [hj] at hpx
 obtain rfl := (Option.some.inj hpx)
 dsimp only at hq0 hq1 hq2
 have zp0 := cell_lt qhT0_0
 have zp1 := cell_lt qhT1_0
 have zpb := cell_lt hq0
 clear hpx hp0 hp1 hp2 hpb
 go_wp2_with fail
 obtain ⟨w1, hwn⟩ : ∃ V, V = w0.alloc (Obj.cells #[.int .i64 a, .int .i64 b, .bool hole] 101) := ⟨_, rfl⟩
 obtain ⟨bp, hbp⟩ : ∃ b, b = w.heap.size + 1 + 1 := ⟨_, rfl⟩
 have hT2 : w1.heap[bp]? = some (.cells #[.int .i64 a, .int .i64 b, .bool hole] 101 (0, 0)) := by rw [hwn]; exact heap_new (by omega)
 have hbn : Below w0.heap.size w0 w1 := by rw [hwn]; exact (Below.refl _ _).alloc (Nat.le_refl _) _
 try rw [← hwn]
 clear hwn hq0 hq1 hq2 zp0 zp1 zpb
 rw [← hbp]
 clear hbp hsz0
 clear qhT0_0 qhT0_1 qhT0_2 qhT1_0 qhT1_1 qhT1_2 qhT1_3
 have hS := hbn
 have hB1 := hB0.call hS rfl
 replace hT0 := blkb hT0 hS
 replace hT1 := blkb hT1 hS
 replace H := H.below hS
 replace HP := HP.below hS
 clear hS hB0
 have qhT0_0 : w1.cell? ⟨w.heap.size, 0, none⟩ = some (.int .i64 c) := cell_at hT0 rfl
 have qhT0_1 : w1.cell? ⟨w.heap.size, 1, none⟩ = some (.int .i64 r) := cell_at hT0 rfl
 have qhT0_2 : w1.cell? ⟨w.heap.size, 2, none⟩ = some (.slice A n cap) := cell_at hT0 rfl
 have qhT1_0 : w1.cell? ⟨w.heap.size + 1, 0, none⟩ = some (.int .i64 un) := cell_at hT1 rfl
 have qhT1_1 : w1.cell? ⟨w.heap.size + 1, 1, none⟩ = some (.int .i64 len) := cell_at hT1 rfl
 have qhT1_2 : w1.cell? ⟨w.heap.size + 1, 2, none⟩ = some (.int .i64 most) := cell_at hT1 rfl
 have qhT1_3 : w1.cell? ⟨w.heap.size + 1, 3, none⟩ = some (.slice (some ⟨pb, poff, none⟩) np capp) := cell_at hT1 rfl
 clear hbn
 have qhT2_0 : w1.cell? ⟨bp, 0, none⟩ = some (.int .i64 a) := cell_at hT2 rfl
 have qhT2_1 : w1.cell? ⟨bp, 1, none⟩ = some (.int .i64 b) := cell_at hT2 rfl
 have qhT2_2 : w1.cell? ⟨bp, 2, none⟩ = some (.bool hole) := cell_at hT2 rfl
 go_wp2_with fail
 refine wp_region_plan [(0, true), (1, true), (2, true), (4, true), (5, true), (6, true), (3, false), (7, false), (8, true), (9, true)] w1.heap.size (by kernel_rfl) (by kernel_rfl) (Nat.le_refl _) (fun _ _ d _ _ h => by cases d <;> exact h) ?_
 have hC : Below w1.heap.size w1 w1 := Below.refl _ _
 have zhT0 : w.heap.size < w1.heap.size := (Array.getElem?_eq_some_iff.1 hT0).1
 have zhT1 : w.heap.size + 1 < w1.heap.size := (Array.getElem?_eq_some_iff.1 hT1).1
 have zhT2 : bp < w1.heap.size := (Array.getElem?_eq_some_iff.1 hT2).1
 repeat (first | (refine wpPlanA_skip _ rfl (by rfl) ?_; simp only [Act.put, List.setIfInBounds_toArray, List.set_cons_zero, List.set_cons_succ]) | (refine wpPlanA_soft _ ?_ rfl (by rfl) ?_ ?_; rotate_left; (intro wq hq hcq; go_simp; first | exact rfl | exact ⟨rfl, rfl⟩); simp only [Act.put, List.setIfInBounds_toArray, List.set_cons_zero, List.set_cons_succ]))
 refine wpPlanA_hard _ rfl (by rfl) (fun w2 hS K hK => ?_)
 have hB2 := hB1.call hS rfl
 replace hC := hC.call hS rfl
 replace hT0 := blkb hT0 hS
 replace hT1 := blkb hT1 hS
 replace H := H.below hS
 replace HP := HP.below hS
 replace hT2 := blkb hT2 hS
 clear hS hB1
 go_simp
 refine (c63 c r A n cap l a _ g hc hr ha H).mono ?_
 rintro e w3 ⟨o1, cp1, t1, rfl, hrow1, hIT1, hb⟩
 have hB3 := hB2.call hb rfl
 replace hC := hC.call hb rfl
 replace hT0 := blkb hT0 hb
 replace hT1 := blkb hT1 hb
 replace H := H.below hb
 replace HP := HP.below hb
 replace hT2 := blkb hT2 hb
 clear hb hB2
 refine hK _ _ hC ?_
 clear hK K
 try simp only [Act.put, List.setIfInBounds_toArray, List.set_cons_zero, List.set_cons_succ]
 repeat (first | (refine wpPlanA_skip _ rfl (by rfl) ?_; simp only [Act.put, List.setIfInBounds_toArray, List.set_cons_zero, List.set_cons_succ]) | (refine wpPlanA_soft _ ?_ rfl (by rfl) ?_ ?_; rotate_left; (intro wq hq hcq; go_simp; first | exact rfl | exact ⟨rfl, rfl⟩); simp only [Act.put, List.setIfInBounds_toArray, List.set_cons_zero, List.set_cons_succ]))
 refine wpPlanA_hard _ rfl (by rfl) (fun w4 hS K hK => ?_)
 have hB4 := hB3.call hS rfl
 replace hC := hC.call hS rfl
 replace hT0 := blkb hT0 hS
 replace hT1 := blkb hT1 hS
 replace H := H.below hS
 replace HP := HP.below hS
 replace hT2 := blkb hT2 hS
 replace hrow1 := hrow1.below hS
 clear hS hB3
 go_simp
 refine (c63 c r A n cap l b _ g hc hr hb0 H).mono ?_
 rintro e w5 ⟨o2, cp2, t2, rfl, hrow2, hIT2, hb⟩
 have hB5 := hB4.call hb rfl
 replace hC := hC.call hb rfl
 replace hT0 := blkb hT0 hb
 replace hT1 := blkb hT1 hb
 replace H := H.below hb
 replace HP := HP.below hb
 replace hT2 := blkb hT2 hb
 replace hrow1 := hrow1.below hb
 clear hb hB4
 refine hK _ _ hC ?_
 clear hK K
 try simp only [Act.put, List.setIfInBounds_toArray, List.set_cons_zero, List.set_cons_succ]
 repeat (first | (refine wpPlanA_skip _ rfl (by rfl) ?_; simp only [Act.put, List.setIfInBounds_toArray, List.set_cons_zero, List.set_cons_succ]) | (refine wpPlanA_soft _ ?_ rfl (by rfl) ?_ ?_; rotate_left; (intro wq hq hcq; go_simp; first | exact rfl | exact ⟨rfl, rfl⟩); simp only [Act.put, List.setIfInBounds_toArray, List.set_cons_zero, List.set_cons_succ]))
 clear qhT0_0 qhT0_1 qhT0_2 qhT1_0 qhT1_1 qhT1_2 qhT1_3 qhT2_0 qhT2_1 qhT2_2
 refine wpPlanA_nil (fun w6 hS => ?_)
 clear hC zhT0 zhT1 zhT2
 have hB6 := hB5.call hS rfl
 replace hT0 := blkb hT0 hS
 replace hT1 := blkb hT1 hS
 replace H := H.below hS
 replace HP := HP.below hS
 replace hT2 := blkb hT2 hS
 replace hrow1 := hrow1.below hS
 replace hrow2 := hrow2.below hS
 clear hS hB5
 have qhT0_0 : w6.cell? ⟨w.heap.size, 0, none⟩ = some (.int .i64 c) := cell_at hT0 rfl
 have qhT0_1 : w6.cell? ⟨w.heap.size, 1, none⟩ = some (.int .i64 r) := cell_at hT0 rfl
 have qhT0_2 : w6.cell? ⟨w.heap.size, 2, none⟩ = some (.slice A n cap) := cell_at hT0 rfl
 have qhT1_0 : w6.cell? ⟨w.heap.size + 1, 0, none⟩ = some (.int .i64 un) := cell_at hT1 rfl
 have qhT1_1 : w6.cell? ⟨w.heap.size + 1, 1, none⟩ = some (.int .i64 len) := cell_at hT1 rfl
 have qhT1_2 : w6.cell? ⟨w.heap.size + 1, 2, none⟩ = some (.int .i64 most) := cell_at hT1 rfl
 have qhT1_3 : w6.cell? ⟨w.heap.size + 1, 3, none⟩ = some (.slice (some ⟨pb, poff, none⟩) np capp) := cell_at hT1 rfl
 have qhT2_0 : w6.cell? ⟨bp, 0, none⟩ = some (.int .i64 a) := cell_at hT2 rfl
 have qhT2_1 : w6.cell? ⟨bp, 1, none⟩ = some (.int .i64 b) := cell_at hT2 rfl
 have qhT2_2 : w6.cell? ⟨bp, 2, none⟩ = some (.bool hole) := cell_at hT2 rfl
 have HNS : Hid (∀ k, k < n → nsK c l un a b k = (Im.at0 t1 k + Im.at0 t2 k) / un) := Lib.hid (fun k hk => by
  unfold nsK
  rw [Im.times_eq hIT1, Im.times_eq hIT2])
 have HT1 := Lib.hid (fun k (hk : k < n) => time_le g hc hr (by rw [hln]; exact ha) hIT1 (k := k) (by rw [hln]; exact hk))
 have HT2 := Lib.hid (fun k (hk : k < n) => time_le g hc hr (by rw [hln]; exact hb0) hIT2 (k := k) (by rw [hln]; exact hk))
 have HNB : Hid (∀ k, k < n → 0 ≤ Im.at0 (nsL c l un a b) k ∧ Im.at0 (nsL c l un a b) k ≤ 1000000) := Lib.hid (fun k hk => by
  have hk' : k < l.length := by omega
  rw [nsL_at hk']
  have := nsK_le g hc hr hu.1 (a := a) (b := b) (by omega) (by omega) (by rw [Im.times_eq hIT1]; exact hIT1) (by rw [Im.times_eq hIT2]; exact hIT2) hk'
  omega)
 have HNL : Hid ((nsL c l un a b).length = n) := Lib.hid (by rw [nsL_len]; exact hln)
 have HNA : Hid (∀ k, k < n → Im.at0 (nsL c l un a b) k = nsK c l un a b k) := Lib.hid (fun k hk => nsL_at (by omega))
 have HDL : Hid (dlL c l un len most a b hole = Im.delays c l (nsL c l un a b) len most hole) := Lib.hid rfl
 generalize nsL c l un a b = ns at HNB HNL HNA HDL
 have z1 : o1 < w6.heap.size := (hrow1.cell hn0).2.2
 have z2 : o2 < w6.heap.size := (hrow2.cell hn0).2.2
 have zu : w.heap.size + 1 < w6.heap.size := (Array.getElem?_eq_some_iff.1 hT1).1
 clear hIT1 hIT2
 go_wp2_with fail
 go_loopw [10, 12] (fun x i wr => ∃ k : Nat, k ≤ n ∧ i = .int .i64 k ∧ Hid (Own wr w6.heap.size x k (encI (ns.take k))) ∧ Below w6.heap.size w6 wr) (fun _ i _ => n - (intOf i).toNat)
 case atStart => exact ⟨0, Nat.zero_le _, rfl, Lib.hid (World.ownsRow_nil _ _ _ _), Below.refl _ _⟩
 case round =>
  obtain ⟨k, hk, rfl, HOW, hbr⟩ := hrel
  obtain ⟨w7, hww⟩ : ∃ W, W = wr := ⟨_, rfl⟩
  subst hww
  have hB7 := hB6.call hbr rfl
  replace hT0 := blkb hT0 hbr
  replace hT1 := blkb hT1 hbr
  replace H := H.below hbr
  replace HP := HP.below hbr
  replace hT2 := blkb hT2 hbr
  replace hrow1 := hrow1.below hbr
  replace hrow2 := hrow2.below hbr
  clear hB6
  have qhT0_0 : w7.cell? ⟨w.heap.size, 0, none⟩ = some (.int .i64 c) := cell_at hT0 rfl
  have qhT0_1 : w7.cell? ⟨w.heap.size, 1, none⟩ = some (.int .i64 r) := cell_at hT0 rfl
  have qhT0_2 : w7.cell? ⟨w.heap.size, 2, none⟩ = some (.slice A n cap) := cell_at hT0 rfl
  have qhT1_0 : w7.cell? ⟨w.heap.size + 1, 0, none⟩ = some (.int .i64 un) := cell_at hT1 rfl
  have qhT1_1 : w7.cell? ⟨w.heap.size + 1, 1, none⟩ = some (.int .i64 len) := cell_at hT1 rfl
  have qhT1_2 : w7.cell? ⟨w.heap.size + 1, 2, none⟩ = some (.int .i64 most) := cell_at hT1 rfl
  have qhT1_3 : w7.cell? ⟨w.heap.size + 1, 3, none⟩ = some (.slice (some ⟨pb, poff, none⟩) np capp) := cell_at hT1 rfl
  have qhT2_0 : w7.cell? ⟨bp, 0, none⟩ = some (.int .i64 a) := cell_at hT2 rfl
  have qhT2_1 : w7.cell? ⟨bp, 1, none⟩ = some (.int .i64 b) := cell_at hT2 rfl
  have qhT2_2 : w7.cell? ⟨bp, 2, none⟩ = some (.bool hole) := cell_at hT2 rfl
  have hwk : IntKind.i64.wrap ((k : Int) + 1) = ((k + 1 : Nat) : Int) := by rw [wrapI (by omega)]; simp
  by_cases hlt : k < n
  ·
    obtain ⟨VA, vc, rfl⟩ := own_slice HOW.out
    have hkn2 : (k : Int) < (n : Int) := by omega
    have hk02 : (0 : Int) ≤ (k : Int) := by omega
    have q1 := (hrow1.cell hlt).1
    have q2 := (hrow2.cell hlt).1
    have hb1 := HT1.out k hlt
    have hb2 := HT2.out k hlt
    have HV := Lib.hid ((HNA.out k hlt).trans (HNS.out k hlt))
    have HTK := Lib.hid (tk_push (LL := ns) (k := k) (by rw [HNL.out]; exact hlt))
    rw [HV.out] at HTK
    generalize Im.at0 t1 k = x1 at q1 hb1 HTK
    generalize Im.at0 t2 k = x2 at q2 hb2 HTK
    have hw1 : IntKind.i64.wrap (x1 + x2) = x1 + x2 := wrapI (by omega)
    have hd1 : (x1 + x2).tdiv un = (x1 + x2) / un := Int.tdiv_eq_ediv_of_nonneg (by omega)
    have hd2 : 0 ≤ (x1 + x2) / un := Int.ediv_nonneg (by omega) (by omega)
    have hd3 : (x1 + x2) / un ≤ x1 + x2 := Int.ediv_le_self _ (by omega)
    have hw2 : IntKind.i64.wrap ((x1 + x2) / un) = (x1 + x2) / un := wrapI (by omega)
    generalize hxy : (x1 + x2) / un = x3 at hd1 hw2 hd2 hd3 HTK
    clear hxy hb1 hb2 hd2 hd3 HV
    have hsz : w6.heap.size ≤ w7.heap.size := hbr.size
    have hown := HOW.out
    clear HOW
    go_wp2_with fail
    refine wp_region_plan [(0, true), (1, true), (2, true), (3, true), (4, true), (5, true), (6, true), (7, true), (8, true), (9, true), (10, true), (11, true), (12, true), (13, false), (14, false), (15, true)] w6.heap.size (by kernel_rfl) (by kernel_rfl) hsz (fun _ _ d _ _ h => by cases d <;> exact h) ?_
    have hC : Below w6.heap.size w7 w7 := Below.refl _ _
    repeat (first | (refine wpPlanA_skip _ rfl (by rfl) ?_; simp only [Act.put, List.setIfInBounds_toArray, List.set_cons_zero, List.set_cons_succ]) | (refine wpPlanA_soft _ ?_ rfl (by rfl) ?_ ?_; rotate_left; (intro wq hq hcq; have hz1 := (hcq _ _ z1).trans q1; have hz2 := (hcq _ _ z2).trans q2; go_simp; first | exact rfl | exact ⟨rfl, rfl⟩); simp only [Act.put, List.setIfInBounds_toArray, List.set_cons_zero, List.set_cons_succ]))
    refine wpPlanA_hard _ rfl (by rfl) (fun w13 hS K hK => ?_)
    go_simp
    have hC3 := hS.mono hsz
    have hz3 : w6.heap.size ≤ w13.heap.size := Nat.le_trans hsz hS.size
    refine hK _ _ (hC3.alloc hz3 _) ?_
    clear hK K
    have hrd := rd1y w13 x3
    have hC4 := hC3.alloc hz3 (Obj.cells #[.int .i64 x3] 3)
    have hD4 := hS.alloc hS.size (Obj.cells #[.int .i64 x3] 3)
    clear hS hC hC3
    generalize w13.alloc (Obj.cells #[.int .i64 x3] 3) = w14 at hrd hC4 hD4 ⊢
    clear hz3
    generalize w13.heap.size = g3 at hrd ⊢
    try simp only [Act.put, List.setIfInBounds_toArray, List.set_cons_zero, List.set_cons_succ]
    refine wpPlanA_hard _ rfl (by rfl) (fun w15 hS K hK => ?_)
    have hz4 : w6.heap.size ≤ w14.heap.size := Nat.le_trans hsz hD4.size
    replace hC4 := hC4.trans (hS.mono hz4)
    replace hrd := hrd.below hS
    replace hD4 := hD4.call hS rfl
    clear hS hz4
    have hz5 : w6.heap.size ≤ w15.heap.size := Nat.le_trans hsz hD4.size
    refine wp_app_ints _ _ rfl w6.heap.size (.slice VA k vc) k (ns.take k) [x3] rfl (Own.below hown hD4) (some ⟨g3, 0, none⟩) 1 1 rfl hrd (by omega) hz5 ?_
    intro v' w16 ho6 hb6
    refine hK _ _ (hC4.trans hb6) ?_
    clear hK K hown hrd hD4
    try simp only [Act.put, List.setIfInBounds_toArray, List.set_cons_zero, List.set_cons_succ]
    obtain ⟨VB, vb, rfl⟩ := own_slice ho6
    repeat (first | (refine wpPlanA_skip _ rfl (by rfl) ?_; simp only [Act.put, List.setIfInBounds_toArray, List.set_cons_zero, List.set_cons_succ]) | (refine wpPlanA_soft _ ?_ rfl (by rfl) ?_ ?_; rotate_left; (intro wq hq hcq; go_simp; first | exact rfl | exact ⟨rfl, rfl⟩); simp only [Act.put, List.setIfInBounds_toArray, List.set_cons_zero, List.set_cons_succ]))
    refine wpPlanA_nil (fun w17 hS => ?_)
    have HO : Hid (Own w17 w6.heap.size (.slice VB (k + 1) vb) (k + 1) (encI (ns.take (k + 1)))) := Lib.hid (by rw [← HTK.out]; exact ho6.below hS)
    have HBN := Lib.hid ((hbr.trans (hC4.trans hb6)).call hS rfl)
    clear hS hC4 hb6 ho6 q1 q2 hz5
    go_wp2
    go_roundw
    case rel => exact ⟨k + 1, by omega, by go_num, HO, HBN.out⟩
    case measure => simp [intOf]; omega
  obtain rfl : n = k := by omega
  obtain ⟨gs, gcap, rfl, hrn⟩ := RowI.of_own hn0 HOW.out
  rw [List.take_of_length_le (by rw [HNL.out]; exact Nat.le_refl _)] at hrn
  have HLE : Hid (w.heap.size ≤ w7.heap.size) := Lib.hid hB7.size
  clear HOW
  clear z1 z2 zu
  go_wp2_with fail
  go_loopw [11, 13] (fun x i wr => ∃ k : Nat, k ≤ n ∧ i = .int .i64 k ∧ Hid (Own wr w7.heap.size x k (encI ((Im.delays c l ns len most hole).take k))) ∧ Below w7.heap.size w7 wr) (fun _ i _ => n - (intOf i).toNat)
  case atStart => exact ⟨0, Nat.zero_le _, rfl, Lib.hid (World.ownsRow_nil _ _ _ _), Below.refl _ _⟩
  case round =>
   obtain ⟨i, hi, rfl, HOW, hbq⟩ := hrel
   obtain ⟨w8, hww⟩ : ∃ W, W = wr := ⟨_, rfl⟩
   subst hww
   have hB8 := hB7.call hbq rfl
   replace hT0 := blkb hT0 hbq
   replace hT1 := blkb hT1 hbq
   replace H := H.below hbq
   replace HP := HP.below hbq
   replace hT2 := blkb hT2 hbq
   replace hrow1 := hrow1.below hbq
   replace hrow2 := hrow2.below hbq
   replace hrn := hrn.below hbq
   clear hB7
   have qhT0_0 : w8.cell? ⟨w.heap.size, 0, none⟩ = some (.int .i64 c) := cell_at hT0 rfl
   have qhT0_1 : w8.cell? ⟨w.heap.size, 1, none⟩ = some (.int .i64 r) := cell_at hT0 rfl
   have qhT0_2 : w8.cell? ⟨w.heap.size, 2, none⟩ = some (.slice A n cap) := cell_at hT0 rfl
   have qhT1_0 : w8.cell? ⟨w.heap.size + 1, 0, none⟩ = some (.int .i64 un) := cell_at hT1 rfl
   have qhT1_1 : w8.cell? ⟨w.heap.size + 1, 1, none⟩ = some (.int .i64 len) := cell_at hT1 rfl
   have qhT1_2 : w8.cell? ⟨w.heap.size + 1, 2, none⟩ = some (.int .i64 most) := cell_at hT1 rfl
   have qhT1_3 : w8.cell? ⟨w.heap.size + 1, 3, none⟩ = some (.slice (some ⟨pb, poff, none⟩) np capp) := cell_at hT1 rfl
   have qhT2_0 : w8.cell? ⟨bp, 0, none⟩ = some (.int .i64 a) := cell_at hT2 rfl
   have qhT2_1 : w8.cell? ⟨bp, 1, none⟩ = some (.int .i64 b) := cell_at hT2 rfl
   have qhT2_2 : w8.cell? ⟨bp, 2, none⟩ = some (.bool hole) := cell_at hT2 rfl
   have hwi : IntKind.i64.wrap ((i : Int) + 1) = ((i + 1 : Nat) : Int) := by rw [wrapI (by omega)]; simp
   by_cases hlt : i < n
   rotate_left
   ·
     obtain rfl : n = i := by omega
     have HF : Hid (Own w8 w7.heap.size u11 n (encI (dlL c l un len most a b hole))) := Lib.hid (by
      have h := HOW.out
      rw [List.take_of_length_le (by rw [Im.delays_len, HLN.out]; exact Nat.le_refl _), ← HDL.out] at h
      exact h)
     obtain ⟨gx, gc, rfl, hrd⟩ := RowI.of_own hn0 HF.out
     have HRD : Hid (RowI w8 w.heap.size gx gc n (dlL c l un len most a b hole)) := Lib.hid (hrd.lower HLE.out)
     clear hrd HF HOW
     go_wp2
     go_ret
     exact ⟨gx, gc, rfl, HRD.out, hB8⟩
   have hi2 : (i : Int) < (n : Int) := by omega
   have hi0 : (0 : Int) ≤ (i : Int) := by omega
   have qi := (hrn.cell hlt).1
   have zi := (hrn.cell hlt).2.2
   have hxb := HNB.out i hlt
   have HMI : Hid ((i : Int).tmod (c : Int) = ((i % c : Nat) : Int) ∧ (i : Int).tdiv (c : Int) = ((i / c : Nat) : Int) ∧ i / c ≤ 256) := Lib.hid ⟨Int.ofNat_tmod _ _, Int.ofNat_tdiv _ _, Nat.le_trans (Nat.div_le_self i c) (by omega)⟩
   generalize hX : Im.at0 ns i = x at qi hxb
   have HX := Lib.hid hX
   clear hX
   have HO2 := HOW
   clear HOW
   go_wp2_with fail
   have hst0 : Hid (false = (List.range 0).any (farT c l ns most i)) := Lib.hid rfl
   go_loopw [14, 15] (fun v k wr => ∃ (k' : Nat) (al : Bool) (nv : Int), k' ≤ n ∧ k = .int .i64 k' ∧ v = .int .i64 nv ∧ Hid (nv = if al = true then -1 else x) ∧ Hid (al = (List.range k').any (farT c l ns most i)) ∧ Hid (Own wr w7.heap.size u11 i (encI ((Im.delays c l ns len most hole).take i))) ∧ Below w8.heap.size w8 wr) (fun _ k _ => n - (intOf k).toNat)
   case atStart => exact ⟨0, false, x, Nat.zero_le _, rfl, rfl, Lib.hid rfl, hst0, HO2, Below.refl _ _⟩
   case round =>
    clear hst0 HO2
    obtain ⟨k, al, nv, hk, rfl, rfl, HNV, HAL, HOW, hbz⟩ := hrel
    obtain ⟨w9, hww⟩ : ∃ W, W = wr := ⟨_, rfl⟩
    subst hww
    have hB9 := hB8.call hbz rfl
    replace hT0 := blkb hT0 hbz
    replace hT1 := blkb hT1 hbz
    replace H := H.below hbz
    replace HP := HP.below hbz
    replace hT2 := blkb hT2 hbz
    replace hrow1 := hrow1.below hbz
    replace hrow2 := hrow2.below hbz
    replace hrn := hrn.below hbz
    replace hbq := hbq.call hbz rfl
    clear hB8
    have qhT0_0 : w9.cell? ⟨w.heap.size, 0, none⟩ = some (.int .i64 c) := cell_at hT0 rfl
    have qhT0_1 : w9.cell? ⟨w.heap.size, 1, none⟩ = some (.int .i64 r) := cell_at hT0 rfl
    have qhT0_2 : w9.cell? ⟨w.heap.size, 2, none⟩ = some (.slice A n cap) := cell_at hT0 rfl
    have qhT1_0 : w9.cell? ⟨w.heap.size + 1, 0, none⟩ = some (.int .i64 un) := cell_at hT1 rfl
    have qhT1_1 : w9.cell? ⟨w.heap.size + 1, 1, none⟩ = some (.int .i64 len) := cell_at hT1 rfl
    have qhT1_2 : w9.cell? ⟨w.heap.size + 1, 2, none⟩ = some (.int .i64 most) := cell_at hT1 rfl
    have qhT1_3 : w9.cell? ⟨w.heap.size + 1, 3, none⟩ = some (.slice (some ⟨pb, poff, none⟩) np capp) := cell_at hT1 rfl
    have qhT2_0 : w9.cell? ⟨bp, 0, none⟩ = some (.int .i64 a) := cell_at hT2 rfl
    have qhT2_1 : w9.cell? ⟨bp, 1, none⟩ = some (.int .i64 b) := cell_at hT2 rfl
    have qhT2_2 : w9.cell? ⟨bp, 2, none⟩ = some (.bool hole) := cell_at hT2 rfl
    have hwk : IntKind.i64.wrap ((k : Int) + 1) = ((k + 1 : Nat) : Int) := by rw [wrapI (by omega)]; simp
    by_cases hlk : k < n
    have how := HOW.out
    clear HOW
    ·
      have hk2 : (k : Int) < (n : Int) := by omega
      have hk0 : (0 : Int) ≤ (k : Int) := by omega
      have HFS := Lib.hid (far_succ c l ns most i k)
      have HFV : Hid (farT c l ns most i k = (decide (0 < Im.cost c l i k) && Im.straight c i k && decide (most < max (Im.at0 ns k - x) (x - Im.at0 ns k)))) := Lib.hid (by unfold farT; rw [HX.out])
      have HSV : Hid (Im.straight c i k = decide (i % c = k % c ∨ i / c = k / c)) := Lib.hid rfl
      have hyb := HNB.out k hlk
      obtain ⟨hmi, hqi, hbi⟩ := HMI.out
      have hmk : (k : Int).tmod (c : Int) = ((k % c : Nat) : Int) := Int.ofNat_tmod _ _
      have hqk : (k : Int).tdiv (c : Int) = ((k / c : Nat) : Int) := Int.ofNat_tdiv _ _
      have hbk : k / c ≤ 256 := Nat.le_trans (Nat.div_le_self k c) (by omega)
      have K61 : Hid (∀ W, RdI W A n l → Calls Tryz.prog 61 #[.agg #[.int .i64 c, .int .i64 r, .slice A n cap], .int .i64 i, .int .i64 k] W fun en w' => en = .returned (.int .i64 (Im.cost c l i k)) ∧ Below W.heap.size W w') := Lib.hid (fun W h => c61 c r A n cap l i k W HG.out hl hc hlt hlk h)
      have HCN : Hid (0 ≤ Im.cost c l i k) := Lib.hid (Im.cost_nonneg HG.out (by rw [HLN.out]; exact hlt) (by rw [HLN.out]; exact hlk))
      generalize Im.cost c l i k = V at K61 HFV HCN
      generalize farT c l ns most i k = F at HFS HFV
      generalize Im.straight c i k = st at HFV HSV
      generalize i % c = mi at hmi HSV
      generalize k % c = mk at hmk HSV
      generalize i / c = di at hqi hbi HSV
      generalize k / c = dk at hqk hbk HSV
      have hwdi : IntKind.i64.wrap ((di : Nat) : Int) = (di : Int) := wrapI (by omega)
      have hwdk : IntKind.i64.wrap ((dk : Nat) : Int) = (dk : Int) := wrapI (by omega)
      clear hbi hbk
      by_cases hcol : mi = mk
      ·
        have hce : ((mi : Int) == (mk : Int)) = true := by simp; omega
        have HST : Hid (st = true) := Lib.hid (by rw [HSV.out]; simp [hcol])
        clear hcol
        have zg := cell_lt qhT0_0
        go_wp2_with fail
        refine wp_region_growG (by kernel_rfl) (by kernel_rfl) ?_
        repeat (go_big_quiet_step ((first | fail)))
        refine wpQuiet_nil (gw_out ?_)
        intro w10 hb21
        clear qhT0_0 qhT0_1 qhT0_2 qhT1_0 qhT1_1 qhT1_2 qhT1_3 qhT2_0 qhT2_1 qhT2_2
        have hS := hb21
        have hB10 := hB9.call hS rfl
        replace hT0 := blkb hT0 hS
        replace hT1 := blkb hT1 hS
        replace H := H.below hS
        replace HP := HP.below hS
        replace hT2 := blkb hT2 hS
        replace hrow1 := hrow1.below hS
        replace hrow2 := hrow2.below hS
        replace hrn := hrn.below hS
        replace hbq := hbq.call hS rfl
        replace hbz := hbz.call hS rfl
        replace how := how.below hS
        clear hS hB9
        have qhT0_0 : w10.cell? ⟨w.heap.size, 0, none⟩ = some (.int .i64 c) := cell_at hT0 rfl
        have qhT0_1 : w10.cell? ⟨w.heap.size, 1, none⟩ = some (.int .i64 r) := cell_at hT0 rfl
        have qhT0_2 : w10.cell? ⟨w.heap.size, 2, none⟩ = some (.slice A n cap) := cell_at hT0 rfl
        have qhT1_0 : w10.cell? ⟨w.heap.size + 1, 0, none⟩ = some (.int .i64 un) := cell_at hT1 rfl
        have qhT1_1 : w10.cell? ⟨w.heap.size + 1, 1, none⟩ = some (.int .i64 len) := cell_at hT1 rfl
        have qhT1_2 : w10.cell? ⟨w.heap.size + 1, 2, none⟩ = some (.int .i64 most) := cell_at hT1 rfl
        have qhT1_3 : w10.cell? ⟨w.heap.size + 1, 3, none⟩ = some (.slice (some ⟨pb, poff, none⟩) np capp) := cell_at hT1 rfl
        have qhT2_0 : w10.cell? ⟨bp, 0, none⟩ = some (.int .i64 a) := cell_at hT2 rfl
        have qhT2_1 : w10.cell? ⟨bp, 1, none⟩ = some (.int .i64 b) := cell_at hT2 rfl
        have qhT2_2 : w10.cell? ⟨bp, 2, none⟩ = some (.bool hole) := cell_at hT2 rfl
        clear zg hb21 hmi hqi hmk hqk hwdi hwdk
        by_cases hV : 0 < V
        rotate_left
        ·
          have HF : Hid (F = false) := Lib.hid (by rw [HFV.out]; simp [hV])
          have hdv : decide (0 < V) = false := by simpa using hV
          clear hV
          go_wp2_with fail
          refine wp_region_plan [(0, true), (1, true), (2, true), (3, false), (4, true), (5, true), (6, true), (7, true), (8, true), (9, true), (10, true), (11, true), (12, true), (13, true), (14, true), (15, true), (16, true), (18, true), (19, true), (17, false), (20, true), (21, true)] w10.heap.size (by kernel_rfl) (by kernel_rfl) (Nat.le_refl _) (fun _ _ d _ _ h => by cases d <;> exact h) ?_
          have hC : Below w10.heap.size w10 w10 := Below.refl _ _
          have zhT0 : w.heap.size < w10.heap.size := (Array.getElem?_eq_some_iff.1 hT0).1
          have zhT1 : w.heap.size + 1 < w10.heap.size := (Array.getElem?_eq_some_iff.1 hT1).1
          have zhT2 : bp < w10.heap.size := (Array.getElem?_eq_some_iff.1 hT2).1
          repeat (first | (refine wpPlanA_skip _ rfl (by rfl) ?_; simp only [Act.put, List.setIfInBounds_toArray, List.set_cons_zero, List.set_cons_succ]) | (refine wpPlanA_soft _ ?_ rfl (by rfl) ?_ ?_; rotate_left; (intro wq hq hcq; go_simp; first | exact rfl | exact ⟨rfl, rfl⟩); simp only [Act.put, List.setIfInBounds_toArray, List.set_cons_zero, List.set_cons_succ]))
          refine wpPlanA_hard _ rfl (by rfl) (fun w11 hS K hK => ?_)
          have hB11 := hB10.call hS rfl
          replace hC := hC.call hS rfl
          replace hT0 := blkb hT0 hS
          replace hT1 := blkb hT1 hS
          replace H := H.below hS
          replace HP := HP.below hS
          replace hT2 := blkb hT2 hS
          replace hrow1 := hrow1.below hS
          replace hrow2 := hrow2.below hS
          replace hrn := hrn.below hS
          replace hbq := hbq.call hS rfl
          replace hbz := hbz.call hS rfl
          replace how := how.below hS
          clear hS hB10
          go_simp
          refine (K61.out _ H).mono ?_
          rintro e w12 ⟨rfl, hb⟩
          have hB12 := hB11.call hb rfl
          replace hC := hC.call hb rfl
          replace hT0 := blkb hT0 hb
          replace hT1 := blkb hT1 hb
          replace H := H.below hb
          replace HP := HP.below hb
          replace hT2 := blkb hT2 hb
          replace hrow1 := hrow1.below hb
          replace hrow2 := hrow2.below hb
          replace hrn := hrn.below hb
          replace hbq := hbq.call hb rfl
          replace hbz := hbz.call hb rfl
          replace how := how.below hb
          clear hb hB11
          refine hK _ _ hC ?_
          clear hK K
          try simp only [Act.put, List.setIfInBounds_toArray, List.set_cons_zero, List.set_cons_succ]
          repeat (first | (refine wpPlanA_skip _ rfl (by rfl) ?_; simp only [Act.put, List.setIfInBounds_toArray, List.set_cons_zero, List.set_cons_succ]) | (refine wpPlanA_soft _ ?_ rfl (by rfl) ?_ ?_; rotate_left; (intro wq hq hcq; go_simp; first | exact rfl | exact ⟨rfl, rfl⟩); simp only [Act.put, List.setIfInBounds_toArray, List.set_cons_zero, List.set_cons_succ]))
          refine wpPlanA_hskip _ rfl (by rfl) ?_
          simp only [Act.put, List.setIfInBounds_toArray, List.set_cons_zero, List.set_cons_succ]
          repeat (first | (refine wpPlanA_skip _ rfl (by rfl) ?_; simp only [Act.put, List.setIfInBounds_toArray, List.set_cons_zero, List.set_cons_succ]) | (refine wpPlanA_soft _ ?_ rfl (by rfl) ?_ ?_; rotate_left; (intro wq hq hcq; go_simp; first | exact rfl | exact ⟨rfl, rfl⟩); simp only [Act.put, List.setIfInBounds_toArray, List.set_cons_zero, List.set_cons_succ]))
          clear qhT0_0 qhT0_1 qhT0_2 qhT1_0 qhT1_1 qhT1_2 qhT1_3 qhT2_0 qhT2_1 qhT2_2
          refine wpPlanA_nil (fun w13 hS => ?_)
          clear hC zhT0 zhT1 zhT2
          have hB13 := hB12.call hS rfl
          replace hT0 := blkb hT0 hS
          replace hT1 := blkb hT1 hS
          replace H := H.below hS
          replace HP := HP.below hS
          replace hT2 := blkb hT2 hS
          replace hrow1 := hrow1.below hS
          replace hrow2 := hrow2.below hS
          replace hrn := hrn.below hS
          replace hbq := hbq.call hS rfl
          replace hbz := hbz.call hS rfl
          replace how := how.below hS
          clear hS hB12
          have qhT0_0 : w13.cell? ⟨w.heap.size, 0, none⟩ = some (.int .i64 c) := cell_at hT0 rfl
          have qhT0_1 : w13.cell? ⟨w.heap.size, 1, none⟩ = some (.int .i64 r) := cell_at hT0 rfl
          have qhT0_2 : w13.cell? ⟨w.heap.size, 2, none⟩ = some (.slice A n cap) := cell_at hT0 rfl
          have qhT1_0 : w13.cell? ⟨w.heap.size + 1, 0, none⟩ = some (.int .i64 un) := cell_at hT1 rfl
          have qhT1_1 : w13.cell? ⟨w.heap.size + 1, 1, none⟩ = some (.int .i64 len) := cell_at hT1 rfl
          have qhT1_2 : w13.cell? ⟨w.heap.size + 1, 2, none⟩ = some (.int .i64 most) := cell_at hT1 rfl
          have qhT1_3 : w13.cell? ⟨w.heap.size + 1, 3, none⟩ = some (.slice (some ⟨pb, poff, none⟩) np capp) := cell_at hT1 rfl
          have qhT2_0 : w13.cell? ⟨bp, 0, none⟩ = some (.int .i64 a) := cell_at hT2 rfl
          have qhT2_1 : w13.cell? ⟨bp, 1, none⟩ = some (.int .i64 b) := cell_at hT2 rfl
          have qhT2_2 : w13.cell? ⟨bp, 2, none⟩ = some (.bool hole) := cell_at hT2 rfl
          have HOW := Lib.hid how
          have HBZ := Lib.hid hbz
          clear how hbz
          go_wp2
          go_roundw
          case rel => exact ⟨k + 1, al, _, by omega, by go_num, rfl, HNV, Lib.hid (by rw [HFS.out, HF.out, Bool.or_false]; exact HAL.out), HOW, HBZ.out⟩
          case measure => simp [intOf]; omega
        have hdv : decide (0 < V) = true := by simpa using hV
        have qi5 := (hrn.cell hlt).1
        rw [HX.out] at qi5
        have qk5 := (hrn.cell hlk).1
        have zi5 := (hrn.cell hlk).2.2
        have HMX : Hid (∀ y : Int, max (y - x) (x - y) = max (x - y) (y - x)) := Lib.hid (fun y => Int.max_comm _ _)
        have HFW : Hid (F = decide (most < max (x - Im.at0 ns k) (Im.at0 ns k - x))) := Lib.hid (by rw [HFV.out, HST.out, hdv, HMX.out]; simp)
        generalize Im.at0 ns k = y at qk5 hyb HFW
        generalize hM : max (x - y) (y - x) = M at HFW
        have HM := Lib.hid hM
        clear hM hV
        by_cases hfar : most < M
        ·
          have hdf : decide (most < M) = true := by simpa using hfar
          have HF : Hid (F = true) := Lib.hid (by rw [HFW.out, hdf])
          clear hfar
          go_wp2_with fail
          refine wp_region_plan [(0, true), (1, true), (2, true), (3, false), (4, true), (5, true), (6, true), (7, true), (8, true), (9, true), (10, true), (11, true), (12, true), (13, true), (14, true), (15, true), (16, true), (18, true), (19, true), (17, false), (20, true), (21, true)] w10.heap.size (by kernel_rfl) (by kernel_rfl) (Nat.le_refl _) (fun _ _ d _ _ h => by cases d <;> exact h) ?_
          have hC : Below w10.heap.size w10 w10 := Below.refl _ _
          have zhT0 : w.heap.size < w10.heap.size := (Array.getElem?_eq_some_iff.1 hT0).1
          have zhT1 : w.heap.size + 1 < w10.heap.size := (Array.getElem?_eq_some_iff.1 hT1).1
          have zhT2 : bp < w10.heap.size := (Array.getElem?_eq_some_iff.1 hT2).1
          repeat (first | (refine wpPlanA_skip _ rfl (by rfl) ?_; simp only [Act.put, List.setIfInBounds_toArray, List.set_cons_zero, List.set_cons_succ]) | (refine wpPlanA_soft _ ?_ rfl (by rfl) ?_ ?_; rotate_left; (intro wq hq hcq; go_simp; first | exact rfl | exact ⟨rfl, rfl⟩); simp only [Act.put, List.setIfInBounds_toArray, List.set_cons_zero, List.set_cons_succ]))
          refine wpPlanA_hard _ rfl (by rfl) (fun w11 hS K hK => ?_)
          have hB11 := hB10.call hS rfl
          replace hC := hC.call hS rfl
          replace hT0 := blkb hT0 hS
          replace hT1 := blkb hT1 hS
          replace H := H.below hS
          replace HP := HP.below hS
          replace hT2 := blkb hT2 hS
          replace hrow1 := hrow1.below hS
          replace hrow2 := hrow2.below hS
          replace hrn := hrn.below hS
          replace hbq := hbq.call hS rfl
          replace hbz := hbz.call hS rfl
          replace how := how.below hS
          clear hS hB10
          go_simp
          refine (K61.out _ H).mono ?_
          rintro e w12 ⟨rfl, hb⟩
          have hB12 := hB11.call hb rfl
          replace hC := hC.call hb rfl
          replace hT0 := blkb hT0 hb
          replace hT1 := blkb hT1 hb
          replace H := H.below hb
          replace HP := HP.below hb
          replace hT2 := blkb hT2 hb
          replace hrow1 := hrow1.below hb
          replace hrow2 := hrow2.below hb
          replace hrn := hrn.below hb
          replace hbq := hbq.call hb rfl
          replace hbz := hbz.call hb rfl
          replace how := how.below hb
          clear hb hB11
          refine hK _ _ hC ?_
          clear hK K
          try simp only [Act.put, List.setIfInBounds_toArray, List.set_cons_zero, List.set_cons_succ]
          repeat (first | (refine wpPlanA_skip _ rfl (by rfl) ?_; simp only [Act.put, List.setIfInBounds_toArray, List.set_cons_zero, List.set_cons_succ]) | (refine wpPlanA_soft _ ?_ rfl (by rfl) ?_ ?_; rotate_left; (intro wq hq hcq; go_simp; first | exact rfl | exact ⟨rfl, rfl⟩); simp only [Act.put, List.setIfInBounds_toArray, List.set_cons_zero, List.set_cons_succ]))
          clear qi5 qk5 zi5
          refine wpPlanA_hard _ rfl (by rfl) (fun w13 hS K hK => ?_)
          have hB13 := hB12.call hS rfl
          replace hC := hC.call hS rfl
          replace hT0 := blkb hT0 hS
          replace hT1 := blkb hT1 hS
          replace H := H.below hS
          replace HP := HP.below hS
          replace hT2 := blkb hT2 hS
          replace hrow1 := hrow1.below hS
          replace hrow2 := hrow2.below hS
          replace hrn := hrn.below hS
          replace hbq := hbq.call hS rfl
          replace hbz := hbz.call hS rfl
          replace how := how.below hS
          clear hS hB12
          go_simp
          refine (c100 x y _ (by omega) (by omega)).mono ?_
          rintro e w' ⟨rfl, rfl⟩
          refine hK _ _ hC ?_
          clear hK K
          try simp only [Act.put, List.setIfInBounds_toArray, List.set_cons_zero, List.set_cons_succ]
          rw [HM.out]
          repeat (first | (refine wpPlanA_skip _ rfl (by rfl) ?_; simp only [Act.put, List.setIfInBounds_toArray, List.set_cons_zero, List.set_cons_succ]) | (refine wpPlanA_soft _ ?_ rfl (by rfl) ?_ ?_; rotate_left; (intro wq hq hcq; go_simp; first | exact rfl | exact ⟨rfl, rfl⟩); simp only [Act.put, List.setIfInBounds_toArray, List.set_cons_zero, List.set_cons_succ]))
          clear qhT0_0 qhT0_1 qhT0_2 qhT1_0 qhT1_1 qhT1_2 qhT1_3 qhT2_0 qhT2_1 qhT2_2
          refine wpPlanA_nil (fun w14 hS => ?_)
          clear hC zhT0 zhT1 zhT2
          have hB14 := hB13.call hS rfl
          replace hT0 := blkb hT0 hS
          replace hT1 := blkb hT1 hS
          replace H := H.below hS
          replace HP := HP.below hS
          replace hT2 := blkb hT2 hS
          replace hrow1 := hrow1.below hS
          replace hrow2 := hrow2.below hS
          replace hrn := hrn.below hS
          replace hbq := hbq.call hS rfl
          replace hbz := hbz.call hS rfl
          replace how := how.below hS
          clear hS hB13
          have qhT0_0 : w14.cell? ⟨w.heap.size, 0, none⟩ = some (.int .i64 c) := cell_at hT0 rfl
          have qhT0_1 : w14.cell? ⟨w.heap.size, 1, none⟩ = some (.int .i64 r) := cell_at hT0 rfl
          have qhT0_2 : w14.cell? ⟨w.heap.size, 2, none⟩ = some (.slice A n cap) := cell_at hT0 rfl
          have qhT1_0 : w14.cell? ⟨w.heap.size + 1, 0, none⟩ = some (.int .i64 un) := cell_at hT1 rfl
          have qhT1_1 : w14.cell? ⟨w.heap.size + 1, 1, none⟩ = some (.int .i64 len) := cell_at hT1 rfl
          have qhT1_2 : w14.cell? ⟨w.heap.size + 1, 2, none⟩ = some (.int .i64 most) := cell_at hT1 rfl
          have qhT1_3 : w14.cell? ⟨w.heap.size + 1, 3, none⟩ = some (.slice (some ⟨pb, poff, none⟩) np capp) := cell_at hT1 rfl
          have qhT2_0 : w14.cell? ⟨bp, 0, none⟩ = some (.int .i64 a) := cell_at hT2 rfl
          have qhT2_1 : w14.cell? ⟨bp, 1, none⟩ = some (.int .i64 b) := cell_at hT2 rfl
          have qhT2_2 : w14.cell? ⟨bp, 2, none⟩ = some (.bool hole) := cell_at hT2 rfl
          have HOW := Lib.hid how
          have HBZ := Lib.hid hbz
          clear how hbz
          go_wp2
          go_roundw
          case rel => exact ⟨k + 1, true, _, by omega, by go_num, rfl, Lib.hid rfl, Lib.hid (by rw [HFS.out, HF.out, Bool.or_true]), HOW, HBZ.out⟩
          case measure => simp [intOf]; omega
        ·
          have hdf : decide (most < M) = false := by simpa using hfar
          have HF : Hid (F = false) := Lib.hid (by rw [HFW.out, hdf])
          clear hfar
          go_wp2_with fail
          refine wp_region_plan [(0, true), (1, true), (2, true), (3, false), (4, true), (5, true), (6, true), (7, true), (8, true), (9, true), (10, true), (11, true), (12, true), (13, true), (14, true), (15, true), (16, true), (18, true), (19, true), (17, false), (20, true), (21, true)] w10.heap.size (by kernel_rfl) (by kernel_rfl) (Nat.le_refl _) (fun _ _ d _ _ h => by cases d <;> exact h) ?_
          have hC : Below w10.heap.size w10 w10 := Below.refl _ _
          have zhT0 : w.heap.size < w10.heap.size := (Array.getElem?_eq_some_iff.1 hT0).1
          have zhT1 : w.heap.size + 1 < w10.heap.size := (Array.getElem?_eq_some_iff.1 hT1).1
          have zhT2 : bp < w10.heap.size := (Array.getElem?_eq_some_iff.1 hT2).1
          repeat (first | (refine wpPlanA_skip _ rfl (by rfl) ?_; simp only [Act.put, List.setIfInBounds_toArray, List.set_cons_zero, List.set_cons_succ]) | (refine wpPlanA_soft _ ?_ rfl (by rfl) ?_ ?_; rotate_left; (intro wq hq hcq; go_simp; first | exact rfl | exact ⟨rfl, rfl⟩); simp only [Act.put, List.setIfInBounds_toArray, List.set_cons_zero, List.set_cons_succ]))
          refine wpPlanA_hard _ rfl (by rfl) (fun w11 hS K hK => ?_)
          have hB11 := hB10.call hS rfl
          replace hC := hC.call hS rfl
          replace hT0 := blkb hT0 hS
          replace hT1 := blkb hT1 hS
          replace H := H.below hS
          replace HP := HP.below hS
          replace hT2 := blkb hT2 hS
          replace hrow1 := hrow1.below hS
          replace hrow2 := hrow2.below hS
          replace hrn := hrn.below hS
          replace hbq := hbq.call hS rfl
          replace hbz := hbz.call hS rfl
          replace how := how.below hS
          clear hS hB10
          go_simp
          refine (K61.out _ H).mono ?_
          rintro e w12 ⟨rfl, hb⟩
          have hB12 := hB11.call hb rfl
          replace hC := hC.call hb rfl
          replace hT0 := blkb hT0 hb
          replace hT1 := blkb hT1 hb
          replace H := H.below hb
          replace HP := HP.below hb
          replace hT2 := blkb hT2 hb
          replace hrow1 := hrow1.below hb
          replace hrow2 := hrow2.below hb
          replace hrn := hrn.below hb
          replace hbq := hbq.call hb rfl
          replace hbz := hbz.call hb rfl
          replace how := how.below hb
          clear hb hB11
          refine hK _ _ hC ?_
          clear hK K
          try simp only [Act.put, List.setIfInBounds_toArray, List.set_cons_zero, List.set_cons_succ]
          repeat (first | (refine wpPlanA_skip _ rfl (by rfl) ?_; simp only [Act.put, List.setIfInBounds_toArray, List.set_cons_zero, List.set_cons_succ]) | (refine wpPlanA_soft _ ?_ rfl (by rfl) ?_ ?_; rotate_left; (intro wq hq hcq; go_simp; first | exact rfl | exact ⟨rfl, rfl⟩); simp only [Act.put, List.setIfInBounds_toArray, List.set_cons_zero, List.set_cons_succ]))
          clear qi5 qk5 zi5
          refine wpPlanA_hard _ rfl (by rfl) (fun w13 hS K hK => ?_)
          have hB13 := hB12.call hS rfl
          replace hC := hC.call hS rfl
          replace hT0 := blkb hT0 hS
          replace hT1 := blkb hT1 hS
          replace H := H.below hS
          replace HP := HP.below hS
          replace hT2 := blkb hT2 hS
          replace hrow1 := hrow1.below hS
          replace hrow2 := hrow2.below hS
          replace hrn := hrn.below hS
          replace hbq := hbq.call hS rfl
          replace hbz := hbz.call hS rfl
          replace how := how.below hS
          clear hS hB12
          go_simp
          refine (c100 x y _ (by omega) (by omega)).mono ?_
          rintro e w' ⟨rfl, rfl⟩
          refine hK _ _ hC ?_
          clear hK K
          try simp only [Act.put, List.setIfInBounds_toArray, List.set_cons_zero, List.set_cons_succ]
          rw [HM.out]
          repeat (first | (refine wpPlanA_skip _ rfl (by rfl) ?_; simp only [Act.put, List.setIfInBounds_toArray, List.set_cons_zero, List.set_cons_succ]) | (refine wpPlanA_soft _ ?_ rfl (by rfl) ?_ ?_; rotate_left; (intro wq hq hcq; go_simp; first | exact rfl | exact ⟨rfl, rfl⟩); simp only [Act.put, List.setIfInBounds_toArray, List.set_cons_zero, List.set_cons_succ]))
          clear qhT0_0 qhT0_1 qhT0_2 qhT1_0 qhT1_1 qhT1_2 qhT1_3 qhT2_0 qhT2_1 qhT2_2
          refine wpPlanA_nil (fun w14 hS => ?_)
          clear hC zhT0 zhT1 zhT2
          have hB14 := hB13.call hS rfl
          replace hT0 := blkb hT0 hS
          replace hT1 := blkb hT1 hS
          replace H := H.below hS
          replace HP := HP.below hS
          replace hT2 := blkb hT2 hS
          replace hrow1 := hrow1.below hS
          replace hrow2 := hrow2.below hS
          replace hrn := hrn.below hS
          replace hbq := hbq.call hS rfl
          replace hbz := hbz.call hS rfl
          replace how := how.below hS
          clear hS hB13
          have qhT0_0 : w14.cell? ⟨w.heap.size, 0, none⟩ = some (.int .i64 c) := cell_at hT0 rfl
          have qhT0_1 : w14.cell? ⟨w.heap.size, 1, none⟩ = some (.int .i64 r) := cell_at hT0 rfl
          have qhT0_2 : w14.cell? ⟨w.heap.size, 2, none⟩ = some (.slice A n cap) := cell_at hT0 rfl
          have qhT1_0 : w14.cell? ⟨w.heap.size + 1, 0, none⟩ = some (.int .i64 un) := cell_at hT1 rfl
          have qhT1_1 : w14.cell? ⟨w.heap.size + 1, 1, none⟩ = some (.int .i64 len) := cell_at hT1 rfl
          have qhT1_2 : w14.cell? ⟨w.heap.size + 1, 2, none⟩ = some (.int .i64 most) := cell_at hT1 rfl
          have qhT1_3 : w14.cell? ⟨w.heap.size + 1, 3, none⟩ = some (.slice (some ⟨pb, poff, none⟩) np capp) := cell_at hT1 rfl
          have qhT2_0 : w14.cell? ⟨bp, 0, none⟩ = some (.int .i64 a) := cell_at hT2 rfl
          have qhT2_1 : w14.cell? ⟨bp, 1, none⟩ = some (.int .i64 b) := cell_at hT2 rfl
          have qhT2_2 : w14.cell? ⟨bp, 2, none⟩ = some (.bool hole) := cell_at hT2 rfl
          have HOW := Lib.hid how
          have HBZ := Lib.hid hbz
          clear how hbz
          go_wp2
          go_roundw
          case rel => exact ⟨k + 1, al, _, by omega, by go_num, rfl, HNV, Lib.hid (by rw [HFS.out, HF.out, Bool.or_false]; exact HAL.out), HOW, HBZ.out⟩
          case measure => simp [intOf]; omega
      ·
        have hce : ((mi : Int) == (mk : Int)) = false := by simp; omega
        by_cases hrw : di = dk
        ·
          have hre : ((di : Int) == (dk : Int)) = true := by simp; omega
          have HST : Hid (st = true) := Lib.hid (by rw [HSV.out]; simp [hrw])
          clear hcol hrw
          have zg := cell_lt qhT0_0
          go_wp2_with fail
          refine wp_region_growG (by kernel_rfl) (by kernel_rfl) ?_
          repeat (go_big_quiet_step ((first | fail)))
          refine wpQuiet_nil (gw_out ?_)
          intro w10 hb21
          clear qhT0_0 qhT0_1 qhT0_2 qhT1_0 qhT1_1 qhT1_2 qhT1_3 qhT2_0 qhT2_1 qhT2_2
          have hS := hb21
          have hB10 := hB9.call hS rfl
          replace hT0 := blkb hT0 hS
          replace hT1 := blkb hT1 hS
          replace H := H.below hS
          replace HP := HP.below hS
          replace hT2 := blkb hT2 hS
          replace hrow1 := hrow1.below hS
          replace hrow2 := hrow2.below hS
          replace hrn := hrn.below hS
          replace hbq := hbq.call hS rfl
          replace hbz := hbz.call hS rfl
          replace how := how.below hS
          clear hS hB9
          have qhT0_0 : w10.cell? ⟨w.heap.size, 0, none⟩ = some (.int .i64 c) := cell_at hT0 rfl
          have qhT0_1 : w10.cell? ⟨w.heap.size, 1, none⟩ = some (.int .i64 r) := cell_at hT0 rfl
          have qhT0_2 : w10.cell? ⟨w.heap.size, 2, none⟩ = some (.slice A n cap) := cell_at hT0 rfl
          have qhT1_0 : w10.cell? ⟨w.heap.size + 1, 0, none⟩ = some (.int .i64 un) := cell_at hT1 rfl
          have qhT1_1 : w10.cell? ⟨w.heap.size + 1, 1, none⟩ = some (.int .i64 len) := cell_at hT1 rfl
          have qhT1_2 : w10.cell? ⟨w.heap.size + 1, 2, none⟩ = some (.int .i64 most) := cell_at hT1 rfl
          have qhT1_3 : w10.cell? ⟨w.heap.size + 1, 3, none⟩ = some (.slice (some ⟨pb, poff, none⟩) np capp) := cell_at hT1 rfl
          have qhT2_0 : w10.cell? ⟨bp, 0, none⟩ = some (.int .i64 a) := cell_at hT2 rfl
          have qhT2_1 : w10.cell? ⟨bp, 1, none⟩ = some (.int .i64 b) := cell_at hT2 rfl
          have qhT2_2 : w10.cell? ⟨bp, 2, none⟩ = some (.bool hole) := cell_at hT2 rfl
          clear zg hb21 hmi hqi hmk hqk hwdi hwdk
          by_cases hV : 0 < V
          rotate_left
          ·
            have HF : Hid (F = false) := Lib.hid (by rw [HFV.out]; simp [hV])
            have hdv : decide (0 < V) = false := by simpa using hV
            clear hV
            go_wp2_with fail
            refine wp_region_plan [(0, true), (1, true), (2, true), (3, false), (4, true), (5, true), (6, true), (7, true), (8, true), (9, true), (10, true), (11, true), (12, true), (13, true), (14, true), (15, true), (16, true), (18, true), (19, true), (17, false), (20, true), (21, true)] w10.heap.size (by kernel_rfl) (by kernel_rfl) (Nat.le_refl _) (fun _ _ d _ _ h => by cases d <;> exact h) ?_
            have hC : Below w10.heap.size w10 w10 := Below.refl _ _
            have zhT0 : w.heap.size < w10.heap.size := (Array.getElem?_eq_some_iff.1 hT0).1
            have zhT1 : w.heap.size + 1 < w10.heap.size := (Array.getElem?_eq_some_iff.1 hT1).1
            have zhT2 : bp < w10.heap.size := (Array.getElem?_eq_some_iff.1 hT2).1
            repeat (first | (refine wpPlanA_skip _ rfl (by rfl) ?_; simp only [Act.put, List.setIfInBounds_toArray, List.set_cons_zero, List.set_cons_succ]) | (refine wpPlanA_soft _ ?_ rfl (by rfl) ?_ ?_; rotate_left; (intro wq hq hcq; go_simp; first | exact rfl | exact ⟨rfl, rfl⟩); simp only [Act.put, List.setIfInBounds_toArray, List.set_cons_zero, List.set_cons_succ]))
            refine wpPlanA_hard _ rfl (by rfl) (fun w11 hS K hK => ?_)
            have hB11 := hB10.call hS rfl
            replace hC := hC.call hS rfl
            replace hT0 := blkb hT0 hS
            replace hT1 := blkb hT1 hS
            replace H := H.below hS
            replace HP := HP.below hS
            replace hT2 := blkb hT2 hS
            replace hrow1 := hrow1.below hS
            replace hrow2 := hrow2.below hS
            replace hrn := hrn.below hS
            replace hbq := hbq.call hS rfl
            replace hbz := hbz.call hS rfl
            replace how := how.below hS
            clear hS hB10
            go_simp
            refine (K61.out _ H).mono ?_
            rintro e w12 ⟨rfl, hb⟩
            have hB12 := hB11.call hb rfl
            replace hC := hC.call hb rfl
            replace hT0 := blkb hT0 hb
            replace hT1 := blkb hT1 hb
            replace H := H.below hb
            replace HP := HP.below hb
            replace hT2 := blkb hT2 hb
            replace hrow1 := hrow1.below hb
            replace hrow2 := hrow2.below hb
            replace hrn := hrn.below hb
            replace hbq := hbq.call hb rfl
            replace hbz := hbz.call hb rfl
            replace how := how.below hb
            clear hb hB11
            refine hK _ _ hC ?_
            clear hK K
            try simp only [Act.put, List.setIfInBounds_toArray, List.set_cons_zero, List.set_cons_succ]
            repeat (first | (refine wpPlanA_skip _ rfl (by rfl) ?_; simp only [Act.put, List.setIfInBounds_toArray, List.set_cons_zero, List.set_cons_succ]) | (refine wpPlanA_soft _ ?_ rfl (by rfl) ?_ ?_; rotate_left; (intro wq hq hcq; go_simp; first | exact rfl | exact ⟨rfl, rfl⟩); simp only [Act.put, List.setIfInBounds_toArray, List.set_cons_zero, List.set_cons_succ]))
            refine wpPlanA_hskip _ rfl (by rfl) ?_
            simp only [Act.put, List.setIfInBounds_toArray, List.set_cons_zero, List.set_cons_succ]
            repeat (first | (refine wpPlanA_skip _ rfl (by rfl) ?_; simp only [Act.put, List.setIfInBounds_toArray, List.set_cons_zero, List.set_cons_succ]) | (refine wpPlanA_soft _ ?_ rfl (by rfl) ?_ ?_; rotate_left; (intro wq hq hcq; go_simp; first | exact rfl | exact ⟨rfl, rfl⟩); simp only [Act.put, List.setIfInBounds_toArray, List.set_cons_zero, List.set_cons_succ]))
            clear qhT0_0 qhT0_1 qhT0_2 qhT1_0 qhT1_1 qhT1_2 qhT1_3 qhT2_0 qhT2_1 qhT2_2
            refine wpPlanA_nil (fun w13 hS => ?_)
            clear hC zhT0 zhT1 zhT2
            have hB13 := hB12.call hS rfl
            replace hT0 := blkb hT0 hS
            replace hT1 := blkb hT1 hS
            replace H := H.below hS
            replace HP := HP.below hS
            replace hT2 := blkb hT2 hS
            replace hrow1 := hrow1.below hS
            replace hrow2 := hrow2.below hS
            replace hrn := hrn.below hS
            replace hbq := hbq.call hS rfl
            replace hbz := hbz.call hS rfl
            replace how := how.below hS
            clear hS hB12
            have qhT0_0 : w13.cell? ⟨w.heap.size, 0, none⟩ = some (.int .i64 c) := cell_at hT0 rfl
            have qhT0_1 : w13.cell? ⟨w.heap.size, 1, none⟩ = some (.int .i64 r) := cell_at hT0 rfl
            have qhT0_2 : w13.cell? ⟨w.heap.size, 2, none⟩ = some (.slice A n cap) := cell_at hT0 rfl
            have qhT1_0 : w13.cell? ⟨w.heap.size + 1, 0, none⟩ = some (.int .i64 un) := cell_at hT1 rfl
            have qhT1_1 : w13.cell? ⟨w.heap.size + 1, 1, none⟩ = some (.int .i64 len) := cell_at hT1 rfl
            have qhT1_2 : w13.cell? ⟨w.heap.size + 1, 2, none⟩ = some (.int .i64 most) := cell_at hT1 rfl
            have qhT1_3 : w13.cell? ⟨w.heap.size + 1, 3, none⟩ = some (.slice (some ⟨pb, poff, none⟩) np capp) := cell_at hT1 rfl
            have qhT2_0 : w13.cell? ⟨bp, 0, none⟩ = some (.int .i64 a) := cell_at hT2 rfl
            have qhT2_1 : w13.cell? ⟨bp, 1, none⟩ = some (.int .i64 b) := cell_at hT2 rfl
            have qhT2_2 : w13.cell? ⟨bp, 2, none⟩ = some (.bool hole) := cell_at hT2 rfl
            have HOW := Lib.hid how
            have HBZ := Lib.hid hbz
            clear how hbz
            go_wp2
            go_roundw
            case rel => exact ⟨k + 1, al, _, by omega, by go_num, rfl, HNV, Lib.hid (by rw [HFS.out, HF.out, Bool.or_false]; exact HAL.out), HOW, HBZ.out⟩
            case measure => simp [intOf]; omega
          have hdv : decide (0 < V) = true := by simpa using hV
          have qi5 := (hrn.cell hlt).1
          rw [HX.out] at qi5
          have qk5 := (hrn.cell hlk).1
          have zi5 := (hrn.cell hlk).2.2
          have HMX : Hid (∀ y : Int, max (y - x) (x - y) = max (x - y) (y - x)) := Lib.hid (fun y => Int.max_comm _ _)
          have HFW : Hid (F = decide (most < max (x - Im.at0 ns k) (Im.at0 ns k - x))) := Lib.hid (by rw [HFV.out, HST.out, hdv, HMX.out]; simp)
          generalize Im.at0 ns k = y at qk5 hyb HFW
          generalize hM : max (x - y) (y - x) = M at HFW
          have HM := Lib.hid hM
          clear hM hV
          by_cases hfar : most < M
          ·
            have hdf : decide (most < M) = true := by simpa using hfar
            have HF : Hid (F = true) := Lib.hid (by rw [HFW.out, hdf])
            clear hfar
            go_wp2_with fail
            refine wp_region_plan [(0, true), (1, true), (2, true), (3, false), (4, true), (5, true), (6, true), (7, true), (8, true), (9, true), (10, true), (11, true), (12, true), (13, true), (14, true), (15, true), (16, true), (18, true), (19, true), (17, false), (20, true), (21, true)] w10.heap.size (by kernel_rfl) (by kernel_rfl) (Nat.le_refl _) (fun _ _ d _ _ h => by cases d <;> exact h) ?_
            have hC : Below w10.heap.size w10 w10 := Below.refl _ _
            have zhT0 : w.heap.size < w10.heap.size := (Array.getElem?_eq_some_iff.1 hT0).1
            have zhT1 : w.heap.size + 1 < w10.heap.size := (Array.getElem?_eq_some_iff.1 hT1).1
            have zhT2 : bp < w10.heap.size := (Array.getElem?_eq_some_iff.1 hT2).1
            repeat (first | (refine wpPlanA_skip _ rfl (by rfl) ?_; simp only [Act.put, List.setIfInBounds_toArray, List.set_cons_zero, List.set_cons_succ]) | (refine wpPlanA_soft _ ?_ rfl (by rfl) ?_ ?_; rotate_left; (intro wq hq hcq; go_simp; first | exact rfl | exact ⟨rfl, rfl⟩); simp only [Act.put, List.setIfInBounds_toArray, List.set_cons_zero, List.set_cons_succ]))
            refine wpPlanA_hard _ rfl (by rfl) (fun w11 hS K hK => ?_)
            have hB11 := hB10.call hS rfl
            replace hC := hC.call hS rfl
            replace hT0 := blkb hT0 hS
            replace hT1 := blkb hT1 hS
            replace H := H.below hS
            replace HP := HP.below hS
            replace hT2 := blkb hT2 hS
            replace hrow1 := hrow1.below hS
            replace hrow2 := hrow2.below hS
            replace hrn := hrn.below hS
            replace hbq := hbq.call hS rfl
            replace hbz := hbz.call hS rfl
            replace how := how.below hS
            clear hS hB10
            go_simp
            refine (K61.out _ H).mono ?_
            rintro e w12 ⟨rfl, hb⟩
            have hB12 := hB11.call hb rfl
            replace hC := hC.call hb rfl
            replace hT0 := blkb hT0 hb
            replace hT1 := blkb hT1 hb
            replace H := H.below hb
            replace HP := HP.below hb
            replace hT2 := blkb hT2 hb
            replace hrow1 := hrow1.below hb
            replace hrow2 := hrow2.below hb
            replace hrn := hrn.below hb
            replace hbq := hbq.call hb rfl
            replace hbz := hbz.call hb rfl
            replace how := how.below hb
            clear hb hB11
            refine hK _ _ hC ?_
            clear hK K
            try simp only [Act.put, List.setIfInBounds_toArray, List.set_cons_zero, List.set_cons_succ]
            repeat (first | (refine wpPlanA_skip _ rfl (by rfl) ?_; simp only [Act.put, List.setIfInBounds_toArray, List.set_cons_zero, List.set_cons_succ]) | (refine wpPlanA_soft _ ?_ rfl (by rfl) ?_ ?_; rotate_left; (intro wq hq hcq; go_simp; first | exact rfl | exact ⟨rfl, rfl⟩); simp only [Act.put, List.setIfInBounds_toArray, List.set_cons_zero, List.set_cons_succ]))
            clear qi5 qk5 zi5
            refine wpPlanA_hard _ rfl (by rfl) (fun w13 hS K hK => ?_)
            have hB13 := hB12.call hS rfl
            replace hC := hC.call hS rfl
            replace hT0 := blkb hT0 hS
            replace hT1 := blkb hT1 hS
            replace H := H.below hS
            replace HP := HP.below hS
            replace hT2 := blkb hT2 hS
            replace hrow1 := hrow1.below hS
            replace hrow2 := hrow2.below hS
            replace hrn := hrn.below hS
            replace hbq := hbq.call hS rfl
            replace hbz := hbz.call hS rfl
            replace how := how.below hS
            clear hS hB12
            go_simp
            refine (c100 x y _ (by omega) (by omega)).mono ?_
            rintro e w' ⟨rfl, rfl⟩
            refine hK _ _ hC ?_
            clear hK K
            try simp only [Act.put, List.setIfInBounds_toArray, List.set_cons_zero, List.set_cons_succ]
            rw [HM.out]
            repeat (first | (refine wpPlanA_skip _ rfl (by rfl) ?_; simp only [Act.put, List.setIfInBounds_toArray, List.set_cons_zero, List.set_cons_succ]) | (refine wpPlanA_soft _ ?_ rfl (by rfl) ?_ ?_; rotate_left; (intro wq hq hcq; go_simp; first | exact rfl | exact ⟨rfl, rfl⟩); simp only [Act.put, List.setIfInBounds_toArray, List.set_cons_zero, List.set_cons_succ]))
            clear qhT0_0 qhT0_1 qhT0_2 qhT1_0 qhT1_1 qhT1_2 qhT1_3 qhT2_0 qhT2_1 qhT2_2
            refine wpPlanA_nil (fun w14 hS => ?_)
            clear hC zhT0 zhT1 zhT2
            have hB14 := hB13.call hS rfl
            replace hT0 := blkb hT0 hS
            replace hT1 := blkb hT1 hS
            replace H := H.below hS
            replace HP := HP.below hS
            replace hT2 := blkb hT2 hS
            replace hrow1 := hrow1.below hS
            replace hrow2 := hrow2.below hS
            replace hrn := hrn.below hS
            replace hbq := hbq.call hS rfl
            replace hbz := hbz.call hS rfl
            replace how := how.below hS
            clear hS hB13
            have qhT0_0 : w14.cell? ⟨w.heap.size, 0, none⟩ = some (.int .i64 c) := cell_at hT0 rfl
            have qhT0_1 : w14.cell? ⟨w.heap.size, 1, none⟩ = some (.int .i64 r) := cell_at hT0 rfl
            have qhT0_2 : w14.cell? ⟨w.heap.size, 2, none⟩ = some (.slice A n cap) := cell_at hT0 rfl
            have qhT1_0 : w14.cell? ⟨w.heap.size + 1, 0, none⟩ = some (.int .i64 un) := cell_at hT1 rfl
            have qhT1_1 : w14.cell? ⟨w.heap.size + 1, 1, none⟩ = some (.int .i64 len) := cell_at hT1 rfl
            have qhT1_2 : w14.cell? ⟨w.heap.size + 1, 2, none⟩ = some (.int .i64 most) := cell_at hT1 rfl
            have qhT1_3 : w14.cell? ⟨w.heap.size + 1, 3, none⟩ = some (.slice (some ⟨pb, poff, none⟩) np capp) := cell_at hT1 rfl
            have qhT2_0 : w14.cell? ⟨bp, 0, none⟩ = some (.int .i64 a) := cell_at hT2 rfl
            have qhT2_1 : w14.cell? ⟨bp, 1, none⟩ = some (.int .i64 b) := cell_at hT2 rfl
            have qhT2_2 : w14.cell? ⟨bp, 2, none⟩ = some (.bool hole) := cell_at hT2 rfl
            have HOW := Lib.hid how
            have HBZ := Lib.hid hbz
            clear how hbz
            go_wp2
            go_roundw
            case rel => exact ⟨k + 1, true, _, by omega, by go_num, rfl, Lib.hid rfl, Lib.hid (by rw [HFS.out, HF.out, Bool.or_true]), HOW, HBZ.out⟩
            case measure => simp [intOf]; omega
          ·
            have hdf : decide (most < M) = false := by simpa using hfar
            have HF : Hid (F = false) := Lib.hid (by rw [HFW.out, hdf])
            clear hfar
            go_wp2_with fail
            refine wp_region_plan [(0, true), (1, true), (2, true), (3, false), (4, true), (5, true), (6, true), (7, true), (8, true), (9, true), (10, true), (11, true), (12, true), (13, true), (14, true), (15, true), (16, true), (18, true), (19, true), (17, false), (20, true), (21, true)] w10.heap.size (by kernel_rfl) (by kernel_rfl) (Nat.le_refl _) (fun _ _ d _ _ h => by cases d <;> exact h) ?_
            have hC : Below w10.heap.size w10 w10 := Below.refl _ _
            have zhT0 : w.heap.size < w10.heap.size := (Array.getElem?_eq_some_iff.1 hT0).1
            have zhT1 : w.heap.size + 1 < w10.heap.size := (Array.getElem?_eq_some_iff.1 hT1).1
            have zhT2 : bp < w10.heap.size := (Array.getElem?_eq_some_iff.1 hT2).1
            repeat (first | (refine wpPlanA_skip _ rfl (by rfl) ?_; simp only [Act.put, List.setIfInBounds_toArray, List.set_cons_zero, List.set_cons_succ]) | (refine wpPlanA_soft _ ?_ rfl (by rfl) ?_ ?_; rotate_left; (intro wq hq hcq; go_simp; first | exact rfl | exact ⟨rfl, rfl⟩); simp only [Act.put, List.setIfInBounds_toArray, List.set_cons_zero, List.set_cons_succ]))
            refine wpPlanA_hard _ rfl (by rfl) (fun w11 hS K hK => ?_)
            have hB11 := hB10.call hS rfl
            replace hC := hC.call hS rfl
            replace hT0 := blkb hT0 hS
            replace hT1 := blkb hT1 hS
            replace H := H.below hS
            replace HP := HP.below hS
            replace hT2 := blkb hT2 hS
            replace hrow1 := hrow1.below hS
            replace hrow2 := hrow2.below hS
            replace hrn := hrn.below hS
            replace hbq := hbq.call hS rfl
            replace hbz := hbz.call hS rfl
            replace how := how.below hS
            clear hS hB10
            go_simp
            refine (K61.out _ H).mono ?_
            rintro e w12 ⟨rfl, hb⟩
            have hB12 := hB11.call hb rfl
            replace hC := hC.call hb rfl
            replace hT0 := blkb hT0 hb
            replace hT1 := blkb hT1 hb
            replace H := H.below hb
            replace HP := HP.below hb
            replace hT2 := blkb hT2 hb
            replace hrow1 := hrow1.below hb
            replace hrow2 := hrow2.below hb
            replace hrn := hrn.below hb
            replace hbq := hbq.call hb rfl
            replace hbz := hbz.call hb rfl
            replace how := how.below hb
            clear hb hB11
            refine hK _ _ hC ?_
            clear hK K
            try simp only [Act.put, List.setIfInBounds_toArray, List.set_cons_zero, List.set_cons_succ]
            repeat (first | (refine wpPlanA_skip _ rfl (by rfl) ?_; simp only [Act.put, List.setIfInBounds_toArray, List.set_cons_zero, List.set_cons_succ]) | (refine wpPlanA_soft _ ?_ rfl (by rfl) ?_ ?_; rotate_left; (intro wq hq hcq; go_simp; first | exact rfl | exact ⟨rfl, rfl⟩); simp only [Act.put, List.setIfInBounds_toArray, List.set_cons_zero, List.set_cons_succ]))
            clear qi5 qk5 zi5
            refine wpPlanA_hard _ rfl (by rfl) (fun w13 hS K hK => ?_)
            have hB13 := hB12.call hS rfl
            replace hC := hC.call hS rfl
            replace hT0 := blkb hT0 hS
            replace hT1 := blkb hT1 hS
            replace H := H.below hS
            replace HP := HP.below hS
            replace hT2 := blkb hT2 hS
            replace hrow1 := hrow1.below hS
            replace hrow2 := hrow2.below hS
            replace hrn := hrn.below hS
            replace hbq := hbq.call hS rfl
            replace hbz := hbz.call hS rfl
            replace how := how.below hS
            clear hS hB12
            go_simp
            refine (c100 x y _ (by omega) (by omega)).mono ?_
            rintro e w' ⟨rfl, rfl⟩
            refine hK _ _ hC ?_
            clear hK K
            try simp only [Act.put, List.setIfInBounds_toArray, List.set_cons_zero, List.set_cons_succ]
            rw [HM.out]
            repeat (first | (refine wpPlanA_skip _ rfl (by rfl) ?_; simp only [Act.put, List.setIfInBounds_toArray, List.set_cons_zero, List.set_cons_succ]) | (refine wpPlanA_soft _ ?_ rfl (by rfl) ?_ ?_; rotate_left; (intro wq hq hcq; go_simp; first | exact rfl | exact ⟨rfl, rfl⟩); simp only [Act.put, List.setIfInBounds_toArray, List.set_cons_zero, List.set_cons_succ]))
            clear qhT0_0 qhT0_1 qhT0_2 qhT1_0 qhT1_1 qhT1_2 qhT1_3 qhT2_0 qhT2_1 qhT2_2
            refine wpPlanA_nil (fun w14 hS => ?_)
            clear hC zhT0 zhT1 zhT2
            have hB14 := hB13.call hS rfl
            replace hT0 := blkb hT0 hS
            replace hT1 := blkb hT1 hS
            replace H := H.below hS
            replace HP := HP.below hS
            replace hT2 := blkb hT2 hS
            replace hrow1 := hrow1.below hS
            replace hrow2 := hrow2.below hS
            replace hrn := hrn.below hS
            replace hbq := hbq.call hS rfl
            replace hbz := hbz.call hS rfl
            replace how := how.below hS
            clear hS hB13
            have qhT0_0 : w14.cell? ⟨w.heap.size, 0, none⟩ = some (.int .i64 c) := cell_at hT0 rfl
            have qhT0_1 : w14.cell? ⟨w.heap.size, 1, none⟩ = some (.int .i64 r) := cell_at hT0 rfl
            have qhT0_2 : w14.cell? ⟨w.heap.size, 2, none⟩ = some (.slice A n cap) := cell_at hT0 rfl
            have qhT1_0 : w14.cell? ⟨w.heap.size + 1, 0, none⟩ = some (.int .i64 un) := cell_at hT1 rfl
            have qhT1_1 : w14.cell? ⟨w.heap.size + 1, 1, none⟩ = some (.int .i64 len) := cell_at hT1 rfl
            have qhT1_2 : w14.cell? ⟨w.heap.size + 1, 2, none⟩ = some (.int .i64 most) := cell_at hT1 rfl
            have qhT1_3 : w14.cell? ⟨w.heap.size + 1, 3, none⟩ = some (.slice (some ⟨pb, poff, none⟩) np capp) := cell_at hT1 rfl
            have qhT2_0 : w14.cell? ⟨bp, 0, none⟩ = some (.int .i64 a) := cell_at hT2 rfl
            have qhT2_1 : w14.cell? ⟨bp, 1, none⟩ = some (.int .i64 b) := cell_at hT2 rfl
            have qhT2_2 : w14.cell? ⟨bp, 2, none⟩ = some (.bool hole) := cell_at hT2 rfl
            have HOW := Lib.hid how
            have HBZ := Lib.hid hbz
            clear how hbz
            go_wp2
            go_roundw
            case rel => exact ⟨k + 1, al, _, by omega, by go_num, rfl, HNV, Lib.hid (by rw [HFS.out, HF.out, Bool.or_false]; exact HAL.out), HOW, HBZ.out⟩
            case measure => simp [intOf]; omega
        ·
          have hre : ((di : Int) == (dk : Int)) = false := by simp; omega
          have HST : Hid (st = false) := Lib.hid (by rw [HSV.out]; simp [hcol, hrw])
          clear hcol hrw
          have zg := cell_lt qhT0_0
          go_wp2_with fail
          refine wp_region_growG (by kernel_rfl) (by kernel_rfl) ?_
          repeat (go_big_quiet_step ((first | fail)))
          refine wpQuiet_nil (gw_out ?_)
          intro w10 hb21
          clear qhT0_0 qhT0_1 qhT0_2 qhT1_0 qhT1_1 qhT1_2 qhT1_3 qhT2_0 qhT2_1 qhT2_2
          have hS := hb21
          have hB10 := hB9.call hS rfl
          replace hT0 := blkb hT0 hS
          replace hT1 := blkb hT1 hS
          replace H := H.below hS
          replace HP := HP.below hS
          replace hT2 := blkb hT2 hS
          replace hrow1 := hrow1.below hS
          replace hrow2 := hrow2.below hS
          replace hrn := hrn.below hS
          replace hbq := hbq.call hS rfl
          replace hbz := hbz.call hS rfl
          replace how := how.below hS
          clear hS hB9
          have qhT0_0 : w10.cell? ⟨w.heap.size, 0, none⟩ = some (.int .i64 c) := cell_at hT0 rfl
          have qhT0_1 : w10.cell? ⟨w.heap.size, 1, none⟩ = some (.int .i64 r) := cell_at hT0 rfl
          have qhT0_2 : w10.cell? ⟨w.heap.size, 2, none⟩ = some (.slice A n cap) := cell_at hT0 rfl
          have qhT1_0 : w10.cell? ⟨w.heap.size + 1, 0, none⟩ = some (.int .i64 un) := cell_at hT1 rfl
          have qhT1_1 : w10.cell? ⟨w.heap.size + 1, 1, none⟩ = some (.int .i64 len) := cell_at hT1 rfl
          have qhT1_2 : w10.cell? ⟨w.heap.size + 1, 2, none⟩ = some (.int .i64 most) := cell_at hT1 rfl
          have qhT1_3 : w10.cell? ⟨w.heap.size + 1, 3, none⟩ = some (.slice (some ⟨pb, poff, none⟩) np capp) := cell_at hT1 rfl
          have qhT2_0 : w10.cell? ⟨bp, 0, none⟩ = some (.int .i64 a) := cell_at hT2 rfl
          have qhT2_1 : w10.cell? ⟨bp, 1, none⟩ = some (.int .i64 b) := cell_at hT2 rfl
          have qhT2_2 : w10.cell? ⟨bp, 2, none⟩ = some (.bool hole) := cell_at hT2 rfl
          clear zg hb21 hmi hqi hmk hqk hwdi hwdk
          have HF : Hid (F = false) := Lib.hid (by rw [HFV.out, HST.out]; simp)
          by_cases hV : 0 < V
          ·
            have hdv : decide (0 < V) = true := by simpa using hV
            clear hV
            go_wp2_with fail
            refine wp_region_plan [(0, true), (1, true), (2, true), (3, false), (4, true), (5, true), (6, true), (7, true), (8, true), (9, true), (10, true), (11, true), (12, true), (13, true), (14, true), (15, true), (16, true), (18, true), (19, true), (17, false), (20, true), (21, true)] w10.heap.size (by kernel_rfl) (by kernel_rfl) (Nat.le_refl _) (fun _ _ d _ _ h => by cases d <;> exact h) ?_
            have hC : Below w10.heap.size w10 w10 := Below.refl _ _
            have zhT0 : w.heap.size < w10.heap.size := (Array.getElem?_eq_some_iff.1 hT0).1
            have zhT1 : w.heap.size + 1 < w10.heap.size := (Array.getElem?_eq_some_iff.1 hT1).1
            have zhT2 : bp < w10.heap.size := (Array.getElem?_eq_some_iff.1 hT2).1
            repeat (first | (refine wpPlanA_skip _ rfl (by rfl) ?_; simp only [Act.put, List.setIfInBounds_toArray, List.set_cons_zero, List.set_cons_succ]) | (refine wpPlanA_soft _ ?_ rfl (by rfl) ?_ ?_; rotate_left; (intro wq hq hcq; go_simp; first | exact rfl | exact ⟨rfl, rfl⟩); simp only [Act.put, List.setIfInBounds_toArray, List.set_cons_zero, List.set_cons_succ]))
            refine wpPlanA_hard _ rfl (by rfl) (fun w11 hS K hK => ?_)
            have hB11 := hB10.call hS rfl
            replace hC := hC.call hS rfl
            replace hT0 := blkb hT0 hS
            replace hT1 := blkb hT1 hS
            replace H := H.below hS
            replace HP := HP.below hS
            replace hT2 := blkb hT2 hS
            replace hrow1 := hrow1.below hS
            replace hrow2 := hrow2.below hS
            replace hrn := hrn.below hS
            replace hbq := hbq.call hS rfl
            replace hbz := hbz.call hS rfl
            replace how := how.below hS
            clear hS hB10
            go_simp
            refine (K61.out _ H).mono ?_
            rintro e w12 ⟨rfl, hb⟩
            have hB12 := hB11.call hb rfl
            replace hC := hC.call hb rfl
            replace hT0 := blkb hT0 hb
            replace hT1 := blkb hT1 hb
            replace H := H.below hb
            replace HP := HP.below hb
            replace hT2 := blkb hT2 hb
            replace hrow1 := hrow1.below hb
            replace hrow2 := hrow2.below hb
            replace hrn := hrn.below hb
            replace hbq := hbq.call hb rfl
            replace hbz := hbz.call hb rfl
            replace how := how.below hb
            clear hb hB11
            refine hK _ _ hC ?_
            clear hK K
            try simp only [Act.put, List.setIfInBounds_toArray, List.set_cons_zero, List.set_cons_succ]
            repeat (first | (refine wpPlanA_skip _ rfl (by rfl) ?_; simp only [Act.put, List.setIfInBounds_toArray, List.set_cons_zero, List.set_cons_succ]) | (refine wpPlanA_soft _ ?_ rfl (by rfl) ?_ ?_; rotate_left; (intro wq hq hcq; go_simp; first | exact rfl | exact ⟨rfl, rfl⟩); simp only [Act.put, List.setIfInBounds_toArray, List.set_cons_zero, List.set_cons_succ]))
            refine wpPlanA_hskip _ rfl (by rfl) ?_
            simp only [Act.put, List.setIfInBounds_toArray, List.set_cons_zero, List.set_cons_succ]
            repeat (first | (refine wpPlanA_skip _ rfl (by rfl) ?_; simp only [Act.put, List.setIfInBounds_toArray, List.set_cons_zero, List.set_cons_succ]) | (refine wpPlanA_soft _ ?_ rfl (by rfl) ?_ ?_; rotate_left; (intro wq hq hcq; go_simp; first | exact rfl | exact ⟨rfl, rfl⟩); simp only [Act.put, List.setIfInBounds_toArray, List.set_cons_zero, List.set_cons_succ]))
            clear qhT0_0 qhT0_1 qhT0_2 qhT1_0 qhT1_1 qhT1_2 qhT1_3 qhT2_0 qhT2_1 qhT2_2
            refine wpPlanA_nil (fun w13 hS => ?_)
            clear hC zhT0 zhT1 zhT2
            have hB13 := hB12.call hS rfl
            replace hT0 := blkb hT0 hS
            replace hT1 := blkb hT1 hS
            replace H := H.below hS
            replace HP := HP.below hS
            replace hT2 := blkb hT2 hS
            replace hrow1 := hrow1.below hS
            replace hrow2 := hrow2.below hS
            replace hrn := hrn.below hS
            replace hbq := hbq.call hS rfl
            replace hbz := hbz.call hS rfl
            replace how := how.below hS
            clear hS hB12
            have qhT0_0 : w13.cell? ⟨w.heap.size, 0, none⟩ = some (.int .i64 c) := cell_at hT0 rfl
            have qhT0_1 : w13.cell? ⟨w.heap.size, 1, none⟩ = some (.int .i64 r) := cell_at hT0 rfl
            have qhT0_2 : w13.cell? ⟨w.heap.size, 2, none⟩ = some (.slice A n cap) := cell_at hT0 rfl
            have qhT1_0 : w13.cell? ⟨w.heap.size + 1, 0, none⟩ = some (.int .i64 un) := cell_at hT1 rfl
            have qhT1_1 : w13.cell? ⟨w.heap.size + 1, 1, none⟩ = some (.int .i64 len) := cell_at hT1 rfl
            have qhT1_2 : w13.cell? ⟨w.heap.size + 1, 2, none⟩ = some (.int .i64 most) := cell_at hT1 rfl
            have qhT1_3 : w13.cell? ⟨w.heap.size + 1, 3, none⟩ = some (.slice (some ⟨pb, poff, none⟩) np capp) := cell_at hT1 rfl
            have qhT2_0 : w13.cell? ⟨bp, 0, none⟩ = some (.int .i64 a) := cell_at hT2 rfl
            have qhT2_1 : w13.cell? ⟨bp, 1, none⟩ = some (.int .i64 b) := cell_at hT2 rfl
            have qhT2_2 : w13.cell? ⟨bp, 2, none⟩ = some (.bool hole) := cell_at hT2 rfl
            have HOW := Lib.hid how
            have HBZ := Lib.hid hbz
            clear how hbz
            go_wp2
            go_roundw
            case rel => exact ⟨k + 1, al, _, by omega, by go_num, rfl, HNV, Lib.hid (by rw [HFS.out, HF.out, Bool.or_false]; exact HAL.out), HOW, HBZ.out⟩
            case measure => simp [intOf]; omega
          ·
            have hdv : decide (0 < V) = false := by simpa using hV
            clear hV
            go_wp2_with fail
            refine wp_region_plan [(0, true), (1, true), (2, true), (3, false), (4, true), (5, true), (6, true), (7, true), (8, true), (9, true), (10, true), (11, true), (12, true), (13, true), (14, true), (15, true), (16, true), (18, true), (19, true), (17, false), (20, true), (21, true)] w10.heap.size (by kernel_rfl) (by kernel_rfl) (Nat.le_refl _) (fun _ _ d _ _ h => by cases d <;> exact h) ?_
            have hC : Below w10.heap.size w10 w10 := Below.refl _ _
            have zhT0 : w.heap.size < w10.heap.size := (Array.getElem?_eq_some_iff.1 hT0).1
            have zhT1 : w.heap.size + 1 < w10.heap.size := (Array.getElem?_eq_some_iff.1 hT1).1
            have zhT2 : bp < w10.heap.size := (Array.getElem?_eq_some_iff.1 hT2).1
            repeat (first | (refine wpPlanA_skip _ rfl (by rfl) ?_; simp only [Act.put, List.setIfInBounds_toArray, List.set_cons_zero, List.set_cons_succ]) | (refine wpPlanA_soft _ ?_ rfl (by rfl) ?_ ?_; rotate_left; (intro wq hq hcq; go_simp; first | exact rfl | exact ⟨rfl, rfl⟩); simp only [Act.put, List.setIfInBounds_toArray, List.set_cons_zero, List.set_cons_succ]))
            refine wpPlanA_hard _ rfl (by rfl) (fun w11 hS K hK => ?_)
            have hB11 := hB10.call hS rfl
            replace hC := hC.call hS rfl
            replace hT0 := blkb hT0 hS
            replace hT1 := blkb hT1 hS
            replace H := H.below hS
            replace HP := HP.below hS
            replace hT2 := blkb hT2 hS
            replace hrow1 := hrow1.below hS
            replace hrow2 := hrow2.below hS
            replace hrn := hrn.below hS
            replace hbq := hbq.call hS rfl
            replace hbz := hbz.call hS rfl
            replace how := how.below hS
            clear hS hB10
            go_simp
            refine (K61.out _ H).mono ?_
            rintro e w12 ⟨rfl, hb⟩
            have hB12 := hB11.call hb rfl
            replace hC := hC.call hb rfl
            replace hT0 := blkb hT0 hb
            replace hT1 := blkb hT1 hb
            replace H := H.below hb
            replace HP := HP.below hb
            replace hT2 := blkb hT2 hb
            replace hrow1 := hrow1.below hb
            replace hrow2 := hrow2.below hb
            replace hrn := hrn.below hb
            replace hbq := hbq.call hb rfl
            replace hbz := hbz.call hb rfl
            replace how := how.below hb
            clear hb hB11
            refine hK _ _ hC ?_
            clear hK K
            try simp only [Act.put, List.setIfInBounds_toArray, List.set_cons_zero, List.set_cons_succ]
            repeat (first | (refine wpPlanA_skip _ rfl (by rfl) ?_; simp only [Act.put, List.setIfInBounds_toArray, List.set_cons_zero, List.set_cons_succ]) | (refine wpPlanA_soft _ ?_ rfl (by rfl) ?_ ?_; rotate_left; (intro wq hq hcq; go_simp; first | exact rfl | exact ⟨rfl, rfl⟩); simp only [Act.put, List.setIfInBounds_toArray, List.set_cons_zero, List.set_cons_succ]))
            refine wpPlanA_hskip _ rfl (by rfl) ?_
            simp only [Act.put, List.setIfInBounds_toArray, List.set_cons_zero, List.set_cons_succ]
            repeat (first | (refine wpPlanA_skip _ rfl (by rfl) ?_; simp only [Act.put, List.setIfInBounds_toArray, List.set_cons_zero, List.set_cons_succ]) | (refine wpPlanA_soft _ ?_ rfl (by rfl) ?_ ?_; rotate_left; (intro wq hq hcq; go_simp; first | exact rfl | exact ⟨rfl, rfl⟩); simp only [Act.put, List.setIfInBounds_toArray, List.set_cons_zero, List.set_cons_succ]))
            clear qhT0_0 qhT0_1 qhT0_2 qhT1_0 qhT1_1 qhT1_2 qhT1_3 qhT2_0 qhT2_1 qhT2_2
            refine wpPlanA_nil (fun w13 hS => ?_)
            clear hC zhT0 zhT1 zhT2
            have hB13 := hB12.call hS rfl
            replace hT0 := blkb hT0 hS
            replace hT1 := blkb hT1 hS
            replace H := H.below hS
            replace HP := HP.below hS
            replace hT2 := blkb hT2 hS
            replace hrow1 := hrow1.below hS
            replace hrow2 := hrow2.below hS
            replace hrn := hrn.below hS
            replace hbq := hbq.call hS rfl
            replace hbz := hbz.call hS rfl
            replace how := how.below hS
            clear hS hB12
            have qhT0_0 : w13.cell? ⟨w.heap.size, 0, none⟩ = some (.int .i64 c) := cell_at hT0 rfl
            have qhT0_1 : w13.cell? ⟨w.heap.size, 1, none⟩ = some (.int .i64 r) := cell_at hT0 rfl
            have qhT0_2 : w13.cell? ⟨w.heap.size, 2, none⟩ = some (.slice A n cap) := cell_at hT0 rfl
            have qhT1_0 : w13.cell? ⟨w.heap.size + 1, 0, none⟩ = some (.int .i64 un) := cell_at hT1 rfl
            have qhT1_1 : w13.cell? ⟨w.heap.size + 1, 1, none⟩ = some (.int .i64 len) := cell_at hT1 rfl
            have qhT1_2 : w13.cell? ⟨w.heap.size + 1, 2, none⟩ = some (.int .i64 most) := cell_at hT1 rfl
            have qhT1_3 : w13.cell? ⟨w.heap.size + 1, 3, none⟩ = some (.slice (some ⟨pb, poff, none⟩) np capp) := cell_at hT1 rfl
            have qhT2_0 : w13.cell? ⟨bp, 0, none⟩ = some (.int .i64 a) := cell_at hT2 rfl
            have qhT2_1 : w13.cell? ⟨bp, 1, none⟩ = some (.int .i64 b) := cell_at hT2 rfl
            have qhT2_2 : w13.cell? ⟨bp, 2, none⟩ = some (.bool hole) := cell_at hT2 rfl
            have HOW := Lib.hid how
            have HBZ := Lib.hid hbz
            clear how hbz
            go_wp2
            go_roundw
            case rel => exact ⟨k + 1, al, _, by omega, by go_num, rfl, HNV, Lib.hid (by rw [HFS.out, HF.out, Bool.or_false]; exact HAL.out), HOW, HBZ.out⟩
            case measure => simp [intOf]; omega
    obtain rfl : n = k := by omega
    have how := HOW.out
    clear HOW
    have HALL : Hid (al = Im.alia c l ns most i) := Lib.hid (by rw [HAL.out, ← far_all, HLN.out])
    have HDV : Hid (Im.dly c l ns len most hole i = if hole || decide (len ≤ x) || al then -1 else x) := Lib.hid (by unfold Im.dly; rw [HX.out, HALL.out])
    have HNV' := HNV
    have HTK := Lib.hid (tk_push (LL := Im.delays c l ns len most hole) (k := i) (by rw [Im.delays_len, HLN.out]; exact hlt))
    rw [Im.delays_at (by rw [HLN.out]; exact hlt)] at HTK
    have hsz3 : w7.heap.size ≤ w9.heap.size := hbq.size
    cases hole
    ·
      cases al
      ·
        obtain rfl : nv = x := HNV.out
        by_cases hlx : len ≤ nv
        ·
          have hd9 : decide (len ≤ nv) = true := by simpa using hlx
          have HDY : Hid (Im.dly c l ns len most false i = -1) := Lib.hid (by rw [HDV.out, hd9]; rfl)
          clear hlx
          rw [HDY.out] at HTK
          have qT2 : w9.cell? ⟨bp, 2, none⟩ = some (.bool false) := cell_at hT2 rfl
          go_wp2_with (at_builtin; refine wpList_append_own _ rfl _ _ 22 rfl w7.heap.size 3 i0 (.int .i64 0) 1 8 Tryz.underlying22 hiz hz0 hz1 hz2 rfl (by decide) _ _ _ rfl (World.ownsRow.alloc how _) ⟨w9.heap.size, 0, none⟩ 1 1 [Value.int .i64 (-1)] rfl rfl (news_one _ _ rfl) (fun x hx => by rw [List.mem_singleton.1 hx]; rfl) (by unfold maxLen; omega) (by omega) (by simp; omega) ?_)
          intro x' w40 hown4 hg4 _
          have HB4 : Hid (Below w7.heap.size w7 w40) := Lib.hid ((hbq.alloc hsz3 _).grown hg4 (by simp; omega) (fun g hg => (World.ownsRow.lt how g hg).1))
          have HO : Hid (Own w40 w7.heap.size x' (i + 1) (encI ((Im.delays c l ns len most false).take (i + 1)))) := Lib.hid (by
           rw [← HTK.out]
           have e : encI ((Im.delays c l ns len most false).take i ++ [(-1)]) = encI ((Im.delays c l ns len most false).take i) ++ [Value.int .i64 (-1)] := by simp [encI]
           rw [e]
           exact hown4)
          clear hown4 hg4 how
          go_wp2
          go_roundw
          case rel => exact ⟨i + 1, by omega, by go_num, HO, HB4.out⟩
          case measure => simp [intOf]; omega
        ·
          have hd9 : decide (len ≤ nv) = false := by simpa using hlx
          have HDY : Hid (Im.dly c l ns len most false i = nv) := Lib.hid (by rw [HDV.out, hd9]; rfl)
          clear hlx
          rw [HDY.out] at HTK
          have qT2 : w9.cell? ⟨bp, 2, none⟩ = some (.bool false) := cell_at hT2 rfl
          go_wp2_with (at_builtin; refine wpList_append_own _ rfl _ _ 22 rfl w7.heap.size 3 i0 (.int .i64 0) 1 8 Tryz.underlying22 hiz hz0 hz1 hz2 rfl (by decide) _ _ _ rfl (World.ownsRow.alloc how _) ⟨w9.heap.size, 0, none⟩ 1 1 [Value.int .i64 nv] rfl rfl (news_one _ _ rfl) (fun x hx => by rw [List.mem_singleton.1 hx]; rfl) (by unfold maxLen; omega) (by omega) (by simp; omega) ?_)
          intro x' w40 hown4 hg4 _
          have HB4 : Hid (Below w7.heap.size w7 w40) := Lib.hid ((hbq.alloc hsz3 _).grown hg4 (by simp; omega) (fun g hg => (World.ownsRow.lt how g hg).1))
          have HO : Hid (Own w40 w7.heap.size x' (i + 1) (encI ((Im.delays c l ns len most false).take (i + 1)))) := Lib.hid (by
           rw [← HTK.out]
           have e : encI ((Im.delays c l ns len most false).take i ++ [nv]) = encI ((Im.delays c l ns len most false).take i) ++ [Value.int .i64 nv] := by simp [encI]
           rw [e]
           exact hown4)
          clear hown4 hg4 how
          go_wp2
          go_roundw
          case rel => exact ⟨i + 1, by omega, by go_num, HO, HB4.out⟩
          case measure => simp [intOf]; omega
      ·
        obtain rfl : nv = -1 := HNV.out
        have hd9 : decide (len ≤ -1) = false := by simp; omega
        have HDY : Hid (Im.dly c l ns len most false i = -1) := Lib.hid (by rw [HDV.out]; simp)
        rw [HDY.out] at HTK
        have qT2 : w9.cell? ⟨bp, 2, none⟩ = some (.bool false) := cell_at hT2 rfl
        go_wp2_with (at_builtin; refine wpList_append_own _ rfl _ _ 22 rfl w7.heap.size 3 i0 (.int .i64 0) 1 8 Tryz.underlying22 hiz hz0 hz1 hz2 rfl (by decide) _ _ _ rfl (World.ownsRow.alloc how _) ⟨w9.heap.size, 0, none⟩ 1 1 [Value.int .i64 (-1)] rfl rfl (news_one _ _ rfl) (fun x hx => by rw [List.mem_singleton.1 hx]; rfl) (by unfold maxLen; omega) (by omega) (by simp; omega) ?_)
        intro x' w40 hown4 hg4 _
        have HB4 : Hid (Below w7.heap.size w7 w40) := Lib.hid ((hbq.alloc hsz3 _).grown hg4 (by simp; omega) (fun g hg => (World.ownsRow.lt how g hg).1))
        have HO : Hid (Own w40 w7.heap.size x' (i + 1) (encI ((Im.delays c l ns len most false).take (i + 1)))) := Lib.hid (by
         rw [← HTK.out]
         have e : encI ((Im.delays c l ns len most false).take i ++ [(-1)]) = encI ((Im.delays c l ns len most false).take i) ++ [Value.int .i64 (-1)] := by simp [encI]
         rw [e]
         exact hown4)
        clear hown4 hg4 how
        go_wp2
        go_roundw
        case rel => exact ⟨i + 1, by omega, by go_num, HO, HB4.out⟩
        case measure => simp [intOf]; omega
    ·
      have HDY : Hid (Im.dly c l ns len most true i = -1) := Lib.hid (by rw [HDV.out]; rfl)
      rw [HDY.out] at HTK
      have qT2 : w9.cell? ⟨bp, 2, none⟩ = some (.bool true) := cell_at hT2 rfl
      go_wp2_with (at_builtin; refine wpList_append_own _ rfl _ _ 22 rfl w7.heap.size 3 i0 (.int .i64 0) 1 8 Tryz.underlying22 hiz hz0 hz1 hz2 rfl (by decide) _ _ _ rfl (World.ownsRow.alloc how _) ⟨w9.heap.size, 0, none⟩ 1 1 [Value.int .i64 (-1)] rfl rfl (news_one _ _ rfl) (fun x hx => by rw [List.mem_singleton.1 hx]; rfl) (by unfold maxLen; omega) (by omega) (by simp; omega) ?_)
      intro x' w40 hown4 hg4 _
      have HB4 : Hid (Below w7.heap.size w7 w40) := Lib.hid ((hbq.alloc hsz3 _).grown hg4 (by simp; omega) (fun g hg => (World.ownsRow.lt how g hg).1))
      have HO : Hid (Own w40 w7.heap.size x' (i + 1) (encI ((Im.delays c l ns len most true).take (i + 1)))) := Lib.hid (by
       rw [← HTK.out]
       have e : encI ((Im.delays c l ns len most true).take i ++ [(-1)]) = encI ((Im.delays c l ns len most true).take i) ++ [Value.int .i64 (-1)] := by simp [encI]
       rw [e]
       exact hown4)
      clear hown4 hg4 how
      go_wp2
      go_roundw
      case rel => exact ⟨i + 1, by omega, by go_num, HO, HB4.out⟩
      case measure => simp [intOf]; omega

theorem c29 (c r : Nat) (A : Option Addr) (n cap : Nat) (l : List Int) (un len most : Int) (P : Option Addr) (np capp : Nat) (ps : List Pr) (j a b : Nat) (hole : Bool) (w : World) (g : Im.Gr c r l) (hc : c ≤ 16) (hr : r ≤ 16) (hu : 1 ≤ un ∧ un ≤ 1000) (hlen : 0 ≤ len) (hj : ps[j]? = some ⟨a, b, hole⟩) (hjn : j < np) (hnp : np ≤ 1000000) (ha : a < n) (hb0 : b < n) (H : RdI w A n l) (HP : RdP w P np ps) :
  Calls Tryz.prog 29 #[.agg #[.int .i64 c, .int .i64 r, .slice A n cap], .agg #[.int .i64 un, .int .i64 len, .int .i64 most, .slice P np capp], .int .i64 j] w fun en w' => ∃ B cb, en = .returned (.slice B n cb) ∧ RdI w' B n (dlL c l un len most a b hole) ∧ Below w.heap.size w w' := by
 refine (c29o c r A n cap l un len most P np capp ps j a b hole w g hc hr hu hlen hj hjn hnp ha hb0 H HP).mono ?_
 rintro e w' ⟨gx, gc, h1, h2, h3⟩
 exact ⟨_, gc, h1, h2.rd, h3⟩

end Go.Proofs.YtdimmlljjmmdbaaGreatDoor
