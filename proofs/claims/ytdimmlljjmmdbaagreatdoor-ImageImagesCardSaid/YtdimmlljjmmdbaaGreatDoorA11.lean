/- A part of the proofs about chapter 7 (image): contracts of functions and plain laws (V54, V55, V56). -/
import Derived.Test.YtdimmlljjmmdbaaGreatDoorA10
set_option linter.all false
namespace Go.Proofs.YtdimmlljjmmdbaaGreatDoor
open Go.RowKit Go.Shelf
set_option maxHeartbeats 8000000
set_option maxRecDepth 100000
theorem c20 (c r : Int) (A : Option Addr) (n cap : Nat) (l : List Int) (w : World) (hl : n ≤ 1000000) (H : RdI w A n l) :
  Calls Tryz.prog 20 #[.agg #[.int .i64 c, .int .i64 r, .slice A n cap]] w fun en w' => ∃ B cb, en = .returned (.agg #[.int .i64 c, .int .i64 r, .slice B n cb]) ∧ RdI w' B n l ∧ n ≤ cb ∧ cb ≤ 9223372036854775807 ∧ Below w.heap.size w w' := by
 obtain ⟨w0, hW⟩ : ∃ W, W = (w.alloc (Obj.cells #[.int .i64 c, .int .i64 r, .slice A n cap] 24)).alloc (Obj.cells #[.int .i64 0, .int .i64 0, .slice none 0 0] 35) := ⟨_, rfl⟩
 have hT0 : w0.heap[w.heap.size]? = some (.cells #[.int .i64 c, .int .i64 r, .slice A n cap] 24 (0, 0)) := by rw [hW]; exact heap_old (by simp) (heap_new rfl)
 have hT1 : w0.heap[w.heap.size + 1]? = some (.cells #[.int .i64 0, .int .i64 0, .slice none 0 0] 35 (0, 0)) := by rw [hW]; exact heap_new (by simp)
 have hB0 : Below w.heap.size w w0 := by rw [hW]; exact below2 _ _ _
 have H0 := H.below hB0
 have hsz := hB0.size
 clear H
 go_enter Tryz.func20, Tryz.ntmps20
 go_wp2_with fail
 rw [← hW]
 clear hW
 have q0 : w0.cell? ⟨w.heap.size, 0, none⟩ = some (.int .i64 c) := cell_at hT0 rfl
 have q1 : w0.cell? ⟨w.heap.size, 1, none⟩ = some (.int .i64 r) := cell_at hT0 rfl
 have q2 : w0.cell? ⟨w.heap.size, 2, none⟩ = some (.slice A n cap) := cell_at hT0 rfl
 have z0 := cell_lt q0
 refine wp_region_planL [(0, true), (1, true), (2, true), (3, true), (4, true), (5, true), (6, false), (7, true)] w0.heap.size 8 (by kernel_rfl) (by kernel_rfl) (Nat.le_refl _) (fun _ _ d _ _ h => by cases d <;> exact h) ?_
 have hC : Below w0.heap.size w0 w0 := Below.refl _ _
 repeat (first | (refine wpPlanLA_skip _ rfl (by rfl) ?_; simp only [Act.put, List.setIfInBounds_toArray, List.set_cons_zero, List.set_cons_succ]) | (refine wpPlanLA_soft _ ?_ rfl (by rfl) ?_ ?_; rotate_left; (intro wq hq hcq; go_simp; first | exact rfl | exact ⟨rfl, rfl⟩); simp only [Act.put, List.setIfInBounds_toArray, List.set_cons_zero, List.set_cons_succ]))
 refine wpPlanLA_hard _ rfl (by rfl) (fun w1 hS K hK => ?_)
 replace hC := hC.call hS rfl
 clear hS
 go_simp
 refine (c22 A n cap l _ hl (H0.below hC)).mono ?_
 rintro e w2 ⟨v2, rfl, ho, hb⟩
 have hLO : w.heap.size + 1 < w1.heap.size := Nat.lt_of_lt_of_le (Array.getElem?_eq_some_iff.1 hT1).1 hC.size
 obtain ⟨B, cb, rfl⟩ := own_slice ho
 replace hC := hC.call hb rfl
 clear hb
 refine hK _ _ hC ?_
 clear hK K
 try simp only [Act.put, List.setIfInBounds_toArray, List.set_cons_zero, List.set_cons_succ]
 repeat (first | (refine wpPlanLA_skip _ rfl (by rfl) ?_; simp only [Act.put, List.setIfInBounds_toArray, List.set_cons_zero, List.set_cons_succ]) | (refine wpPlanLA_soft _ ?_ rfl (by rfl) ?_ ?_; rotate_left; (intro wq hq hcq; go_simp; first | exact rfl | exact ⟨rfl, rfl⟩); simp only [Act.put, List.setIfInBounds_toArray, List.set_cons_zero, List.set_cons_succ]))
 refine wpPlanLA_last _ rfl (by rfl) (fun w3 hS K hK => ?_)
 replace hC := hC.call hS rfl
 replace ho := own_below ho hS
 clear hS
 have hT3 := blkb hT1 hC
 refine wp_store_blk 35 _ _ rfl (w.heap.size + 1) _ rfl rfl hT3 ?s1 ?s2 ?s3 ?_
 case s1 => rfl
 case s2 => kernel_rfl
 case s3 => simp [Value.oneCell']
 intro w4 hT4 hg4 hs4
 have o4 := Own.kept ho hg4 hLO
 have hB4 := (hB0.call hC rfl).grown hg4 (hB0.call hC rfl).size (fun j hj => by cases hj; omega)
 refine hK _ _ (fun w5 hS => ?_)
 clear hK K
 replace hT4 := blkb hT4 hS
 have hB5 := hB4.call hS rfl
 obtain ⟨B', cb', e, hr, hcb, hcm, _⟩ := own_form (own_below o4 hS)
 cases e
 have HO : Hid (RdI w5 B n l ∧ n ≤ cb ∧ cb ≤ 9223372036854775807 ∧ Below w.heap.size w w5) := Lib.hid ⟨hr, hcb, hcm, hB5⟩
 clear hS hr hcb hcm hB5 hB4 hs4 o4 hg4 hT3 hC ho
 have c0 := cell_at (i := 0) hT4 rfl
 have c1 := cell_at (i := 1) hT4 rfl
 have c2 := cell_at (i := 2) hT4 rfl
 go_wp2
 obtain ⟨h1, h2, h3, h4⟩ := HO.out
 exact bodyPost_ret (results_blk rfl rfl hT4 _ Tryz.underlying35 rfl (by kernel_rfl)) rfl ⟨B, cb, rfl, h1, h2, h3, h4⟩
theorem c71 (c r : Int) (A : Option Addr) (n cap : Nat) (l : List Int) (w : World) (hl : n ≤ 1000000) (H : RdI w A n l) :
  Calls Tryz.prog 71 #[.agg #[.int .i64 c, .int .i64 r, .slice A n cap]] w fun en w' => ∃ B cb, en = .returned (.agg #[.int .i64 c, .int .i64 r, .slice B n cb]) ∧ RdI w' B n l ∧ n ≤ cb ∧ cb ≤ 9223372036854775807 ∧ Below w.heap.size w w' := by
 obtain ⟨w0, hW⟩ : ∃ W, W = (w.alloc (Obj.cells #[.int .i64 c, .int .i64 r, .slice A n cap] 35)).alloc (Obj.cells #[.int .i64 0, .int .i64 0, .slice none 0 0] 24) := ⟨_, rfl⟩
 have hT0 : w0.heap[w.heap.size]? = some (.cells #[.int .i64 c, .int .i64 r, .slice A n cap] 35 (0, 0)) := by rw [hW]; exact heap_old (by simp) (heap_new rfl)
 have hT1 : w0.heap[w.heap.size + 1]? = some (.cells #[.int .i64 0, .int .i64 0, .slice none 0 0] 24 (0, 0)) := by rw [hW]; exact heap_new (by simp)
 have hB0 : Below w.heap.size w w0 := by rw [hW]; exact below2 _ _ _
 have H0 := H.below hB0
 have hsz := hB0.size
 clear H
 go_enter Tryz.func71, Tryz.ntmps71
 go_wp2_with fail
 rw [← hW]
 clear hW
 have q0 : w0.cell? ⟨w.heap.size, 0, none⟩ = some (.int .i64 c) := cell_at hT0 rfl
 have q1 : w0.cell? ⟨w.heap.size, 1, none⟩ = some (.int .i64 r) := cell_at hT0 rfl
 have q2 : w0.cell? ⟨w.heap.size, 2, none⟩ = some (.slice A n cap) := cell_at hT0 rfl
 have z0 := cell_lt q0
 refine wp_region_planL [(0, true), (1, true), (2, true), (3, true), (4, true), (5, true), (6, false), (7, true)] w0.heap.size 8 (by kernel_rfl) (by kernel_rfl) (Nat.le_refl _) (fun _ _ d _ _ h => by cases d <;> exact h) ?_
 have hC : Below w0.heap.size w0 w0 := Below.refl _ _
 repeat (first | (refine wpPlanLA_skip _ rfl (by rfl) ?_; simp only [Act.put, List.setIfInBounds_toArray, List.set_cons_zero, List.set_cons_succ]) | (refine wpPlanLA_soft _ ?_ rfl (by rfl) ?_ ?_; rotate_left; (intro wq hq hcq; go_simp; first | exact rfl | exact ⟨rfl, rfl⟩); simp only [Act.put, List.setIfInBounds_toArray, List.set_cons_zero, List.set_cons_succ]))
 refine wpPlanLA_hard _ rfl (by rfl) (fun w1 hS K hK => ?_)
 replace hC := hC.call hS rfl
 clear hS
 go_simp
 refine (c22 A n cap l _ hl (H0.below hC)).mono ?_
 rintro e w2 ⟨v2, rfl, ho, hb⟩
 have hLO : w.heap.size + 1 < w1.heap.size := Nat.lt_of_lt_of_le (Array.getElem?_eq_some_iff.1 hT1).1 hC.size
 obtain ⟨B, cb, rfl⟩ := own_slice ho
 replace hC := hC.call hb rfl
 clear hb
 refine hK _ _ hC ?_
 clear hK K
 try simp only [Act.put, List.setIfInBounds_toArray, List.set_cons_zero, List.set_cons_succ]
 repeat (first | (refine wpPlanLA_skip _ rfl (by rfl) ?_; simp only [Act.put, List.setIfInBounds_toArray, List.set_cons_zero, List.set_cons_succ]) | (refine wpPlanLA_soft _ ?_ rfl (by rfl) ?_ ?_; rotate_left; (intro wq hq hcq; go_simp; first | exact rfl | exact ⟨rfl, rfl⟩); simp only [Act.put, List.setIfInBounds_toArray, List.set_cons_zero, List.set_cons_succ]))
 refine wpPlanLA_last _ rfl (by rfl) (fun w3 hS K hK => ?_)
 replace hC := hC.call hS rfl
 replace ho := own_below ho hS
 clear hS
 have hT3 := blkb hT1 hC
 refine wp_store_blk 24 _ _ rfl (w.heap.size + 1) _ rfl rfl hT3 ?s1 ?s2 ?s3 ?_
 case s1 => rfl
 case s2 => kernel_rfl
 case s3 => simp [Value.oneCell']
 intro w4 hT4 hg4 hs4
 have o4 := Own.kept ho hg4 hLO
 have hB4 := (hB0.call hC rfl).grown hg4 (hB0.call hC rfl).size (fun j hj => by cases hj; omega)
 refine hK _ _ (fun w5 hS => ?_)
 clear hK K
 replace hT4 := blkb hT4 hS
 have hB5 := hB4.call hS rfl
 obtain ⟨B', cb', e, hr, hcb, hcm, _⟩ := own_form (own_below o4 hS)
 cases e
 have HO : Hid (RdI w5 B n l ∧ n ≤ cb ∧ cb ≤ 9223372036854775807 ∧ Below w.heap.size w w5) := Lib.hid ⟨hr, hcb, hcm, hB5⟩
 clear hS hr hcb hcm hB5 hB4 hs4 o4 hg4 hT3 hC ho
 have c0 := cell_at (i := 0) hT4 rfl
 have c1 := cell_at (i := 1) hT4 rfl
 have c2 := cell_at (i := 2) hT4 rfl
 go_wp2
 obtain ⟨h1, h2, h3, h4⟩ := HO.out
 exact bodyPost_ret (results_blk rfl rfl hT4 _ Tryz.underlying24 rfl (by kernel_rfl)) rfl ⟨B, cb, rfl, h1, h2, h3, h4⟩

end Go.Proofs.YtdimmlljjmmdbaaGreatDoor
namespace Go.Proofs.YtdimmlljjmmdbaaGreatDoor
open Go.RowKit Go.Shelf
set_option maxHeartbeats 8000000
set_option maxRecDepth 100000
theorem c33 (D : Option Addr) (m capd : Nat) (d : List (List Int)) (w : World) (hm : m ≤ 1000000) (hsh : ∀ x, x ∈ d → x.length ≤ 1000000) (HD : RdD w D m d) :
  Calls Tryz.prog 33 #[.slice D m capd] w fun en w' => ∃ B cb, en = .returned (.slice B m cb) ∧ RdD w' B m d ∧ Below w.heap.size w w' := by
 have HDN := Lib.hid HD.len
 have HSH := Lib.hid hsh
 have hst0 : Hid (VR w w.heap.size d [] 0) := Lib.hid ⟨rfl, fun j _ h => absurd h (Nat.not_lt_zero j)⟩
 clear hsh
 go_enter Tryz.func33, Tryz.ntmps33
 go_wp2_with fail
 go_loopw [3, 8] (fun x i wr => ∃ (k : Nat) (us : List Value), k ≤ m ∧ i = .int .i64 k ∧ OwnD wr w.heap.size x k us ∧ Hid (VR wr w.heap.size d us k) ∧ Below w.heap.size w wr) (fun _ i _ => m - (intOf i).toNat)
 case atStart => exact ⟨0, [], Nat.zero_le _, rfl, World.ownsRow_nil _ _ _ _, hst0, Below.refl _ _⟩
 case round =>
  clear hst0
  obtain ⟨k, us, hk, rfl, hown, HVR, hbr3⟩ := hrel
  have HD1 := HD.below hbr3
  by_cases hlt : k < m
  rotate_left
  ·obtain rfl : m = k := by omega
   obtain ⟨AO, capO, rfl, hrdO⟩ := Sl.of_own hown
   have hdO : RdD wr AO m d := by
    have e := HDN.out
    subst e
    exact HVR.out.rd hrdO
   clear hown HVR hrdO hlt hk HD HD1
   go_wp2
   go_ret
   exact ⟨AO, capO, rfl, hdO, hbr3⟩
  ·have hwk : IntKind.i64.wrap ((k : Int) + 1) = ((k + 1 : Nat) : Int) := by rw [wrapI (by omega)]; simp
   obtain ⟨db, doff, y, ya, yc, rfl, hy, hdb, hdc, hry⟩ := HD1.at hlt
   have HYX := Lib.hid hy
   have hyl := HSH.out y (List.mem_of_getElem? hy)
   clear hy HD1
   go_wp2_with fail
   refine (c22 ya y.length yc y _ hyl hry).mono ?_
   rintro e w2 ⟨v2, rfl, ho, hb⟩
   have hszq := hbr3.size
   obtain ⟨B2, cb2, rfl⟩ := own_slice ho
   have hrw : RwM w2 w.heap.size (.slice B2 y.length cb2) y := RwM.lower (RwM.of_own ho) hszq
   have hown' : w2.ownsRow w.heap.size 22 1 _ k us := own_below hown hb
   have HVR2 := Lib.hid (HVR.out.below hb)
   have HBR := Lib.hid (hbr3.call hb rfl)
   have hszn : w.heap.size ≤ w2.heap.size := HBR.out.size
   have HRW := Lib.hid hrw
   obtain ⟨i1, hi, hz0, hz1, hz2⟩ := info_parts infoSl
   clear hrw hb ho hown HVR hbr3 hry
   go_wp2_with (at_builtin; refine wpList_append_own _ rfl _ _ 31 rfl w.heap.size 22 i1 (.slice none 0 0) 1 24 Tryz.underlying31 hi hz0 hz1 hz2 rfl (by decide) _ _ _ rfl (hown'.alloc _) ⟨w2.heap.size, 0, none⟩ 1 1 [.slice B2 y.length cb2] rfl rfl (news_one _ _ (by simp)) (fun x hx => by rw [List.mem_singleton.1 hx]; rfl) (by unfold maxLen; omega) (by omega) (by simp; omega) ?_)
   intro x' wz hown3 hg3 _
   have hal : Below w2.heap.size w2 (w2.alloc (Obj.cells #[.slice B2 y.length cb2] 22)) := (Below.refl _ _).alloc (Nat.le_refl _) _
   have HB3 : Hid (Below w.heap.size w wz) := Lib.hid ((HBR.out.alloc hszn _).grown hg3 (by simp; omega) (fun g hg => (hown'.lt g hg).1))
   have HVR3 : Hid (VR wz w.heap.size d (us ++ [.slice B2 y.length cb2]) (k + 1)) := Lib.hid ((HVR2.out.below hal).push (hown'.alloc _) hg3 HYX.out (HRW.out.below hal))
   have HO : Hid (OwnD wz w.heap.size x' (k + 1) (us ++ [.slice B2 y.length cb2])) := Lib.hid hown3
   clear hown3 hg3 hal hown' hszn hi hz0 hz1 hz2 HD
   go_wp2
   go_roundw
   case rel => exact ⟨k + 1, us ++ [.slice B2 y.length cb2], by omega, by go_num, HO.out, HVR3, HB3.out⟩
   case measure => simp [intOf]; omega
end Go.Proofs.YtdimmlljjmmdbaaGreatDoor
namespace Go.Proofs.YtdimmlljjmmdbaaGreatDoor
open Go.RowKit Go.Shelf
set_option maxHeartbeats 8000000
set_option maxRecDepth 100000
theorem c72 (s t : Int) (A B C : Option Addr) (n m k ca cb cc : Nat) (w : World) :
  Calls Tryz.prog 72 #[.agg #[.int .i64 s, .int .i64 t, .slice A n ca, .slice B m cb, .slice C k cc]] w fun en w' => ShP ((n ≤ 30 ∨ n = 257) ∧ m ≤ 30 ∧ k ≤ 30) en ∧ Below w.heap.size w w' := by
 have hB : Below w.heap.size w (w.alloc (Obj.cells #[.int .i64 s, .int .i64 t, .slice A n ca, .slice B m cb, .slice C k cc] 123)) := (Below.refl _ _).alloc (Nat.le_refl _) _
 go_enter Tryz.func72, Tryz.ntmps72
 by_cases h1 : n ≤ 30
 ·have d1 : decide ((n : Int) ≤ 30) = true := by simp; omega
  by_cases h2 : m ≤ 30
  ·have d2 : decide ((m : Int) ≤ 30) = true := by simp; omega
   by_cases h3 : k ≤ 30
   ·have d3 : decide ((k : Int) ≤ 30) = true := by simp; omega
    go_wp2
    all_goals go_ret
    all_goals exact ⟨⟨_, rfl, fun _ => ⟨.inl h1, h2, h3⟩⟩, hB⟩
   ·have d3 : decide ((k : Int) ≤ 30) = false := by simp; omega
    go_wp2
    all_goals go_ret
    all_goals exact ⟨⟨_, rfl, fun h => by simp at h <;> omega⟩, hB⟩
  ·have d2 : decide ((m : Int) ≤ 30) = false := by simp; omega
   go_wp2
   all_goals go_ret
   all_goals exact ⟨⟨_, rfl, fun h => by simp at h <;> omega⟩, hB⟩
 ·have d1 : decide ((n : Int) ≤ 30) = false := by simp; omega
  by_cases h4 : n = 257
  ·have d4 : ((n : Int) == 257) = true := by simp; omega
   by_cases h2 : m ≤ 30
   ·have d2 : decide ((m : Int) ≤ 30) = true := by simp; omega
    by_cases h3 : k ≤ 30
    ·have d3 : decide ((k : Int) ≤ 30) = true := by simp; omega
     have h5 := Lib.hid h4
     clear h4
     go_wp2
     all_goals go_ret
     all_goals exact ⟨⟨_, rfl, fun _ => ⟨.inr h5.out, h2, h3⟩⟩, hB⟩
    ·have d3 : decide ((k : Int) ≤ 30) = false := by simp; omega
     clear h4
     go_wp2
     all_goals go_ret
     all_goals exact ⟨⟨_, rfl, fun h => by simp at h <;> omega⟩, hB⟩
   ·have d2 : decide ((m : Int) ≤ 30) = false := by simp; omega
    clear h4
    go_wp2
    all_goals go_ret
    all_goals exact ⟨⟨_, rfl, fun h => by simp at h <;> omega⟩, hB⟩
  ·have d4 : ((n : Int) == 257) = false := by simp; omega
   go_wp2
   all_goals go_ret
   all_goals exact ⟨⟨_, rfl, fun h => by simp at h <;> omega⟩, hB⟩
theorem c31 (D E M : Option Addr) (n m k cd ce cm : Nat) (dl el : List (List Int)) (s f x : Int) (w : World) (hn : n ≤ 9223372036854775807) (hm : m ≤ 9223372036854775807) (HD : RdD w D n dl) (HE : RdD w E m el) :
  Calls Tryz.prog 31 #[.agg #[.slice D n cd, .slice E m ce, .slice M k cm, .int .i64 s, .int .i64 f, .int .i64 x]] w fun en w' => ShP ((n ≤ 17 ∧ ∀ x, x ∈ dl → x.length ≤ 45) ∧ (m ≤ 17 ∧ ∀ x, x ∈ el → x.length ≤ 45) ∧ k ≤ 30) en ∧ Below w.heap.size w w' := by
 obtain ⟨w0, hW⟩ : ∃ W, W = w.alloc (Obj.cells #[.slice D n cd, .slice E m ce, .slice M k cm, .int .i64 s, .int .i64 f, .int .i64 x] 55) := ⟨_, rfl⟩
 have hT0 : w0.heap[w.heap.size]? = some (.cells #[.slice D n cd, .slice E m ce, .slice M k cm, .int .i64 s, .int .i64 f, .int .i64 x] 55 (0, 0)) := by rw [hW]; exact heap_new (by simp)
 have hB0 : Below w.heap.size w w0 := by rw [hW]; exact (Below.refl _ _).alloc (Nat.le_refl _) _
 have H1 := HD.below hB0
 have H2 := HE.below hB0
 clear HD HE
 go_enter Tryz.func31, Tryz.ntmps31
 go_wp2_with fail
 rw [← hW]
 clear hW
 have q0 : w0.cell? ⟨w.heap.size, 0, none⟩ = some (.slice D n cd) := cell_at hT0 rfl
 have q1 : w0.cell? ⟨w.heap.size, 1, none⟩ = some (.slice E m ce) := cell_at hT0 rfl
 have q2 : w0.cell? ⟨w.heap.size, 2, none⟩ = some (.slice M k cm) := cell_at hT0 rfl
 have z2 := cell_lt q2
 go_wp2_with fail
 refine (c48 D n cd dl _ hn H1).mono ?_
 rintro e w1 ⟨⟨b1, rfl, hP1⟩, hb⟩
 have hB1 := hB0.call hb rfl
 replace hT0 := blkb hT0 hb
 replace H2 := H2.below hb
 clear hb q0 q1 q2 z2 hB0
 have q1 : w1.cell? ⟨w.heap.size, 1, none⟩ = some (.slice E m ce) := cell_at hT0 rfl
 have q2 : w1.cell? ⟨w.heap.size, 2, none⟩ = some (.slice M k cm) := cell_at hT0 rfl
 have z2 := cell_lt q2
 have HP1 := Lib.hid hP1
 clear hP1
 cases b1
 ·go_wp2
  go_ret
  exact ⟨⟨_, rfl, fun h => by simp at h⟩, hB1⟩
 go_wp2_with fail
 refine (c48 E m ce el _ hm H2).mono ?_
 rintro e w2 ⟨⟨b2, rfl, hP2⟩, hb⟩
 have hB2 := hB1.call hb rfl
 replace hT0 := blkb hT0 hb
 clear hb q1 q2 z2 hB1
 have q2 : w2.cell? ⟨w.heap.size, 2, none⟩ = some (.slice M k cm) := cell_at hT0 rfl
 have z2 := cell_lt q2
 have HP2 := Lib.hid hP2
 clear hP2
 cases b2
 ·go_wp2
  go_ret
  exact ⟨⟨_, rfl, fun h => by simp at h⟩, hB2⟩
 go_wp2
 all_goals go_ret
 all_goals exact ⟨⟨_, rfl, fun h => ⟨HP1.out trivial, HP2.out trivial, by simp at h <;> omega⟩⟩, hB2⟩
end Go.Proofs.YtdimmlljjmmdbaaGreatDoor
