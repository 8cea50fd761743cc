/- A part of the proofs about chapter 7 (image): contracts of functions and plain laws (V37, V38, V39, V40, V41, V42, V43). -/
import Derived.Lib.AppendZeros
import Derived.Test.YtdimmlljjmmdbaaGreatDoorZ09g
set_option linter.all false
namespace Go.Proofs.YtdimmlljjmmdbaaGreatDoor
open Go.RowKit
set_option maxHeartbeats 4000000
set_option maxRecDepth 20000
namespace Mo
/-- what is wrong with a model and traces -/
noncomputable def fit (c r : Int) (l : List Int) (un len most : Int) (ps : List Pr) (ms : List Int) (d : List (List Int)) : Int := first [surv c r l un len most ps, first [when ((ms.length : Int) != (l.length : Int)) 2, allw ms (-1000) 1000], dat len ps d]
theorem fit_zero {c r : Int} {l : List Int} {un len most : Int} {ps : List Pr} {ms : List Int} {d : List (List Int)} (h : fit c r l un len most ps ms d = 0) : mdl c r l un len most ps ms = 0 ∧ dta c r l un len most ps d = 0 := by
 have h1 := first_zero h
 have e1 := h1 _ List.mem_cons_self
 have e2 := h1 (first [when ((ms.length : Int) != (l.length : Int)) 2, allw ms (-1000) 1000]) (by simp)
 have e3 := h1 (dat len ps d) (by simp)
 unfold mdl dta
 rw [e1, e2, e3]
 exact ⟨rfl, rfl⟩
end Mo
theorem c32_ok (c r : Nat) (A : Option Addr) (n cap : Nat) (l : List Int) (un : Int) (ln : Nat) (most : Int) (P : Option Addr) (np capp : Nat) (ps : List Pr) (M : Option Addr) (capm : Nat) (ms : List Int) (D : Option Addr) (capd : Nat) (d : List (List Int)) (w : World) (g : Im.Gr c r l) (hc : c ≤ 16) (hr : r ≤ 16) (hcp : np ≤ capp) (H : RdI w A n l) (HP : RdP w P np ps) (HM : RdI w M n ms) (HD : RdD w D np d) (hst : Steps w) (hE : Mo.fit c r l un ln most ps ms d = 0) :
  Calls Tryz.prog 32 #[.agg #[.int .i64 c, .int .i64 r, .slice A n cap], .agg #[.int .i64 un, .int .i64 (ln : Nat), .int .i64 most, .slice P np capp], .slice M n capm, .slice D np capd] w fun en w' => en = .returned (.tuple #[.int .i64 (Im.misfit (trcs c l un ln most ms ps).flatten d.flatten), .int .i64 0]) ∧ Below w.heap.size w w' := by
 obtain ⟨hE1, hE2⟩ := Mo.fit_zero hE
 obtain ⟨hS, hml, hmb⟩ := Mo.mdl_zero hE1
 obtain ⟨hS2, hdlen, hsh, hdv⟩ := Mo.dta_zero hE2
 obtain ⟨hG, hu, hln1, hmo, hnp, hcl⟩ := surv_ok hS
 have hl : n ≤ 1000000 := by have h1 := H.len; have := g.len; have : c * r ≤ 16 * 16 := Nat.mul_le_mul hc hr; omega
 have hn256 : n ≤ 256 := by have h1 := H.len; have := g.len; have : c * r ≤ 16 * 16 := Nat.mul_le_mul hc hr; omega
 have hpl := HP.len
 have hp : np ≤ 1000000 := by omega
 have hd := hp
 have hm := hl
 have hdl : ∀ x, x ∈ d → x.length ≤ 1000000 := fun x hx => by
  obtain ⟨j, hj, hxj⟩ := List.getElem_of_mem hx
  have hjp : j < ps.length := by omega
  have h := hsh j ps[j] x (List.getElem?_eq_getElem hjp) (by rw [← hxj]; exact List.getElem?_eq_getElem hj)
  unfold Mo.okT at h
  split at h <;> omega
 have HLN := Lib.hid H.len
 have HPL := Lib.hid HP.len
 have HML := Lib.hid HM.len
 have HDN := Lib.hid HD.len
 have HCL : Hid (∀ p, p ∈ ps → (0 ≤ p.s ∧ p.s < (n : Int)) ∧ (0 ≤ p.r ∧ p.r < (n : Int))) := Lib.hid (fun p hp => by have := hcl p hp; rw [H.len] at this; exact this)
 have HMB : Hid (∀ k, k < n → -1000 ≤ Im.at0 ms k ∧ Im.at0 ms k ≤ 1000) := Lib.hid (fun k hk => hmb k (by rw [HM.len]; exact hk))
 have hn16 : np ≤ 16 := by omega
 have hl256 : 1 ≤ ln ∧ ln ≤ 256 := by omega
 have HE : Hid (Mo.first [Mo.surv c r l un ln most ps, Mo.first [Mo.when false 2, Mo.allw ms (-1000) 1000], Mo.dat ln ps d] = 0) := Lib.hid (by have h := hE; unfold Mo.fit at h; rw [H.len, HM.len] at h; simpa using h)
 obtain ⟨T, hT⟩ : ∃ T, T = trcs c l un ln most ms ps := ⟨_, rfl⟩
 have HT := Lib.hid hT
 have HTL : Hid (T.length = np) := Lib.hid (by rw [hT]; simp [trcs, HPL.out])
 have HROW : Hid (∀ i, i < np → ∃ q : Nat, q ≤ 256 ∧ (T.getD i []).length = q ∧ (d.getD i []).length = q ∧ ∀ k, -1310720 ≤ Im.at0 (T.getD i []) k - Im.at0 (d.getD i []) k ∧ Im.at0 (T.getD i []) k - Im.at0 (d.getD i []) k ≤ 1310720) := Lib.hid (fun i hi => by
  have hip : i < ps.length := by rw [HPL.out]; exact hi
  have hid : i < d.length := by rw [HDN.out]; exact hi
  have h := hsh i ps[i] d[i] (List.getElem?_eq_getElem hip) (List.getElem?_eq_getElem hid)
  have e1 : T.getD i [] = trc c l un ln most ms ps[i] := by rw [hT, List.getD_eq_getElem?_getD]; unfold trcs; rw [List.getElem?_map, List.getElem?_eq_getElem hip]; rfl
  have e2 : d.getD i [] = d[i] := by rw [List.getD_eq_getElem?_getD, List.getElem?_eq_getElem hid]; rfl
  rw [e1, e2]
  have hdk := Im.at0_le (C := 1048576) (by omega) (hdv d[i] (List.getElem_mem hid))
  unfold Mo.okT at h
  by_cases hh : ps[i].h = true
  ·rw [if_pos hh] at h
   refine ⟨0, by omega, by unfold trc; rw [if_pos hh]; rfl, h, fun k => ?_⟩
   have hk := hdk k
   have : Im.at0 (trc c l un ln most ms ps[i]) k = 0 := by unfold trc; rw [if_pos hh]; simp [Im.at0]
   rw [this]; omega
  ·rw [if_neg hh] at h
   refine ⟨ln, hl256.2, by unfold trc; rw [if_neg hh]; exact Im.trace_len _ _ _, by omega, fun k => ?_⟩
   have hk := hdk k
   have ht : -256000 ≤ Im.at0 (trc c l un ln most ms ps[i]) k ∧ Im.at0 (trc c l un ln most ms ps[i]) k ≤ 256000 := by
    unfold trc
    rw [if_neg hh]
    exact Im.trace_le (by rw [dlp_len, HLN.out]) HML.out hn256 HMB.out k
   omega)
 have HMF : Hid (Im.misD T d np = Im.misfit (trcs c l un ln most ms ps).flatten d.flatten) := Lib.hid (by
  rw [← hT]
  exact Im.misD_full HTL.out HDN.out (fun i hi => by obtain ⟨q, _, h1, h2, _⟩ := HROW.out i hi; rw [h1, h2]))
 rw [← HMF.out]
 have HMD := Lib.hid (Im.misD_le (T := T) (d := d) (C := 256 * (1310720 * 1310720)) (n := np) (fun i hi => by
  obtain ⟨q, hq, h1, h2, h3⟩ := HROW.out i hi
  rw [← Im.misK_full h1 h2]
  have h := Im.misK_le (by omega) h3 q
  have : (q : Int) * (1310720 * 1310720) ≤ 256 * (1310720 * 1310720) := Int.mul_le_mul_of_nonneg_right (by omega) (by decide)
  omega))
 clear hE hS hS2 hG hmo hml hmb hcl hpl hnp hE1 hE2 hdlen hsh hdv hT
 obtain ⟨w0, hW⟩ : ∃ W, W = (w.alloc (Obj.cells #[.int .i64 c, .int .i64 r, .slice A n cap] 35)).alloc (Obj.cells #[.int .i64 un, .int .i64 (ln : Nat), .int .i64 most, .slice P np capp] 39) := ⟨_, rfl⟩
 have hT0 : w0.heap[w.heap.size]? = some (.cells #[.int .i64 c, .int .i64 r, .slice A n cap] 35 (0, 0)) := by rw [hW]; exact heap_old (by simp <;> omega) (heap_new (by simp))
 have hT1 : w0.heap[w.heap.size + 1]? = some (.cells #[.int .i64 un, .int .i64 (ln : Nat), .int .i64 most, .slice P np capp] 39 (0, 0)) := by rw [hW]; exact heap_new (by simp)
 have hB0 : Below w.heap.size w w0 := by rw [hW]; exact (((Below.refl _ _).alloc (by first | omega | (simp <;> omega)) _).alloc (by first | omega | (simp <;> omega)) _)
 replace H := H.below hB0
 replace HP := HP.below hB0
 replace HM := HM.below hB0
 replace HD := HD.below hB0
 replace hst := hst.below hB0
 go_enter Tryz.func32, Tryz.ntmps32
 go_wp2_with fail
 rw [← hW]
 clear hW
 have qhT0_0 : w0.cell? ⟨w.heap.size, 0, none⟩ = some (.int .i64 c) := cell_at hT0 rfl
 have qhT0_1 : w0.cell? ⟨w.heap.size, 1, none⟩ = some (.int .i64 r) := cell_at hT0 rfl
 have qhT0_2 : w0.cell? ⟨w.heap.size, 2, none⟩ = some (.slice A n cap) := cell_at hT0 rfl
 have qhT1_0 : w0.cell? ⟨w.heap.size + 1, 0, none⟩ = some (.int .i64 un) := cell_at hT1 rfl
 have qhT1_1 : w0.cell? ⟨w.heap.size + 1, 1, none⟩ = some (.int .i64 (ln : Nat)) := cell_at hT1 rfl
 have qhT1_2 : w0.cell? ⟨w.heap.size + 1, 2, none⟩ = some (.int .i64 most) := cell_at hT1 rfl
 have qhT1_3 : w0.cell? ⟨w.heap.size + 1, 3, none⟩ = some (.slice P np capp) := cell_at hT1 rfl
 refine wp_region_plan [(0, true), (1, true), (3, true), (4, true), (6, true), (7, true), (2, false), (5, false), (8, false), (9, false), (10, false), (11, true)] w0.heap.size (by kernel_rfl) (by kernel_rfl) (Nat.le_refl _) (fun _ _ d _ _ h => by cases d <;> exact h) ?_
 have hC : Below w0.heap.size w0 w0 := Below.refl _ _
 have zhT0 : w.heap.size < w0.heap.size := (Array.getElem?_eq_some_iff.1 hT0).1
 have zhT1 : w.heap.size + 1 < w0.heap.size := (Array.getElem?_eq_some_iff.1 hT1).1
 repeat (first | (refine wpPlanA_skip _ rfl (by rfl) ?_; simp only [Act.put, List.setIfInBounds_toArray, List.set_cons_zero, List.set_cons_succ]) | (refine wpPlanA_soft _ ?_ rfl (by rfl) ?_ ?_; rotate_left; (intro wq hq hcq; go_simp; first | exact rfl | exact ⟨rfl, rfl⟩); simp only [Act.put, List.setIfInBounds_toArray, List.set_cons_zero, List.set_cons_succ]))
 refine wpPlanA_hard _ rfl (by rfl) (fun w1 hS K hK => ?_)
 have hB1 := hB0.call hS rfl
 replace hC := hC.call hS rfl
 replace hT0 := blkb hT0 hS
 replace hT1 := blkb hT1 hS
 replace H := H.below hS
 replace HP := HP.below hS
 replace HM := HM.below hS
 replace HD := HD.below hS
 replace hst := hst.below hS
 clear hS hB0
 go_simp
 refine (c25 c r A n cap l un ln most P np capp ps _ hl hp H HP).mono ?_
 rintro e w2 ⟨rfl, hb⟩
 have hB2 := hB1.call hb rfl
 replace hC := hC.call hb rfl
 replace hT0 := blkb hT0 hb
 replace hT1 := blkb hT1 hb
 replace H := H.below hb
 replace HP := HP.below hb
 replace HM := HM.below hb
 replace HD := HD.below hb
 replace hst := hst.below hb
 clear hb hB1
 refine hK _ _ hC ?_
 clear hK K
 try simp only [Act.put, List.setIfInBounds_toArray, List.set_cons_zero, List.set_cons_succ]
 refine wpPlanA_hard _ rfl (by rfl) (fun w3 hS K hK => ?_)
 have hB3 := hB2.call hS rfl
 replace hC := hC.call hS rfl
 replace hT0 := blkb hT0 hS
 replace hT1 := blkb hT1 hS
 replace H := H.below hS
 replace HP := HP.below hS
 replace HM := HM.below hS
 replace HD := HD.below hS
 replace hst := hst.below hS
 clear hS hB2
 go_simp
 refine (c90 c r A n cap M n capm ms _ hm HM).mono ?_
 rintro e w4 ⟨rfl, hb⟩
 have hB4 := hB3.call hb rfl
 replace hC := hC.call hb rfl
 replace hT0 := blkb hT0 hb
 replace hT1 := blkb hT1 hb
 replace H := H.below hb
 replace HP := HP.below hb
 replace HM := HM.below hb
 replace HD := HD.below hb
 replace hst := hst.below hb
 clear hb hB3
 refine hK _ _ hC ?_
 clear hK K
 try simp only [Act.put, List.setIfInBounds_toArray, List.set_cons_zero, List.set_cons_succ]
 refine wpPlanA_hard _ rfl (by rfl) (fun w5 hS K hK => ?_)
 have hB5 := hB4.call hS rfl
 replace hC := hC.call hS rfl
 replace hT0 := blkb hT0 hS
 replace hT1 := blkb hT1 hS
 replace H := H.below hS
 replace HP := HP.below hS
 replace HM := HM.below hS
 replace HD := HD.below hS
 replace hst := hst.below hS
 clear hS hB4
 go_simp
 refine (c101 un ln most P np capp ps D np capd d _ hp hd hdl HP HD).mono ?_
 rintro e w6 ⟨rfl, hb⟩
 have hB6 := hB5.call hb rfl
 replace hC := hC.call hb rfl
 replace hT0 := blkb hT0 hb
 replace hT1 := blkb hT1 hb
 replace H := H.below hb
 replace HP := HP.below hb
 replace HM := HM.below hb
 replace HD := HD.below hb
 replace hst := hst.below hb
 clear hb hB5
 refine hK _ _ hC ?_
 clear hK K
 try simp only [Act.put, List.setIfInBounds_toArray, List.set_cons_zero, List.set_cons_succ]
 refine wpPlanA_hard _ rfl (by rfl) (fun w7 hS K hK => ?_)
 have hB7 := hB6.call hS rfl
 replace hC := hC.call hS rfl
 replace hT0 := blkb hT0 hS
 replace hT1 := blkb hT1 hS
 replace H := H.below hS
 replace HP := HP.below hS
 replace HM := HM.below hS
 replace HD := HD.below hS
 replace hst := hst.below hS
 clear hS hB6
 go_simp
 have hb : Below w7.heap.size w7 (w7.alloc (Obj.cells #[.int .i64 (Mo.surv c r l un ln most ps), .int .i64 (Mo.first [Mo.when false 2, Mo.allw ms (-1000) 1000]), .int .i64 (Mo.dat ln ps d)] 32)) := (Below.refl _ _).alloc (Nat.le_refl _) _
 have k1 : (w7.alloc (Obj.cells #[.int .i64 (Mo.surv c r l un ln most ps), .int .i64 (Mo.first [Mo.when false 2, Mo.allw ms (-1000) 1000]), .int .i64 (Mo.dat ln ps d)] 32)).heap[w7.heap.size]? = some (Obj.cells #[.int .i64 (Mo.surv c r l un ln most ps), .int .i64 (Mo.first [Mo.when false 2, Mo.allw ms (-1000) 1000]), .int .i64 (Mo.dat ln ps d)] 32) := heap_new rfl
 refine hK _ _ (hC.alloc hC.size _) ?_
 clear hK K
 replace hC := hC.call hb rfl
 have hB8 := hB7.call hb rfl
 replace hT0 := blkb hT0 hb
 replace hT1 := blkb hT1 hb
 replace H := H.below hb
 replace HP := HP.below hb
 replace HM := HM.below hb
 replace HD := HD.below hb
 replace hst := hst.below hb
 clear hb hB7
 generalize hWn : w7.alloc (Obj.cells #[.int .i64 (Mo.surv c r l un ln most ps), .int .i64 (Mo.first [Mo.when false 2, Mo.allw ms (-1000) 1000]), .int .i64 (Mo.dat ln ps d)] 32) = w8 at k1 hC hB8 hT0 hT1 H HP HM HD hst ⊢
 clear hWn
 generalize hWn : w7.heap.size = bk1 at k1 ⊢
 clear hWn
 try simp only [Act.put, List.setIfInBounds_toArray, List.set_cons_zero, List.set_cons_succ]
 refine wpPlanA_hard _ rfl (by rfl) (fun w9 hS K hK => ?_)
 have hB9 := hB8.call hS rfl
 replace hC := hC.call hS rfl
 replace hT0 := blkb hT0 hS
 replace hT1 := blkb hT1 hS
 replace H := H.below hS
 replace HP := HP.below hS
 replace HM := HM.below hS
 replace HD := HD.below hS
 replace hst := hst.below hS
 replace k1 := blkb k1 hS
 clear hS hB8
 go_simp
 refine (c89 _ 3 3 [Mo.surv c r l un ln most ps, Mo.first [Mo.when false 2, Mo.allw ms (-1000) 1000], Mo.dat ln ps d] _ rfl (by omega) (RdS.of_block (cs := encI [Mo.surv c r l un ln most ps, Mo.first [Mo.when false 2, Mo.allw ms (-1000) 1000], Mo.dat ln ps d]) k1 rfl)).mono ?_
 rintro e w' ⟨rfl, rfl⟩
 refine hK _ _ hC ?_
 clear hK K
 try simp only [Act.put, List.setIfInBounds_toArray, List.set_cons_zero, List.set_cons_succ]
 repeat (first | (refine wpPlanA_skip _ rfl (by rfl) ?_; simp only [Act.put, List.setIfInBounds_toArray, List.set_cons_zero, List.set_cons_succ]) | (refine wpPlanA_soft _ ?_ rfl (by rfl) ?_ ?_; rotate_left; (intro wq hq hcq; go_simp; first | exact rfl | exact ⟨rfl, rfl⟩); simp only [Act.put, List.setIfInBounds_toArray, List.set_cons_zero, List.set_cons_succ]))
 clear k1
 clear qhT0_0 qhT0_1 qhT0_2 qhT1_0 qhT1_1 qhT1_2 qhT1_3
 refine wpPlanA_nil (fun w10 hS => ?_)
 clear hC zhT0 zhT1
 have hB10 := hB9.call hS rfl
 replace hT0 := blkb hT0 hS
 replace hT1 := blkb hT1 hS
 replace H := H.below hS
 replace HP := HP.below hS
 replace HM := HM.below hS
 replace HD := HD.below hS
 replace hst := hst.below hS
 clear hS hB9
 have qhT0_0 : w10.cell? ⟨w.heap.size, 0, none⟩ = some (.int .i64 c) := cell_at hT0 rfl
 have qhT0_1 : w10.cell? ⟨w.heap.size, 1, none⟩ = some (.int .i64 r) := cell_at hT0 rfl
 have qhT0_2 : w10.cell? ⟨w.heap.size, 2, none⟩ = some (.slice A n cap) := cell_at hT0 rfl
 have qhT1_0 : w10.cell? ⟨w.heap.size + 1, 0, none⟩ = some (.int .i64 un) := cell_at hT1 rfl
 have qhT1_1 : w10.cell? ⟨w.heap.size + 1, 1, none⟩ = some (.int .i64 (ln : Nat)) := cell_at hT1 rfl
 have qhT1_2 : w10.cell? ⟨w.heap.size + 1, 2, none⟩ = some (.int .i64 most) := cell_at hT1 rfl
 have qhT1_3 : w10.cell? ⟨w.heap.size + 1, 3, none⟩ = some (.slice P np capp) := cell_at hT1 rfl
 rw [HE.out]
 go_wp2_with fail
 go_wp2_with fail
 refine (c91 c r A n cap l un ln most P np capp ps M capm ms _ g hc hr hu hl256 hn16 hcp HCL.out HMB.out H HP HM hst).mono ?_
 rintro e w11 ⟨go, rfl, hgo, hro, hb⟩
 clear qhT0_0 qhT0_1 qhT0_2 qhT1_0 qhT1_1 qhT1_2 qhT1_3
 have hS := hb
 have hB11 := hB10.call hS rfl
 replace hT0 := blkb hT0 hS
 replace hT1 := blkb hT1 hS
 replace H := H.below hS
 replace HP := HP.below hS
 replace HM := HM.below hS
 replace HD := HD.below hS
 replace hst := hst.below hS
 clear hS hB10
 have qhT0_0 : w11.cell? ⟨w.heap.size, 0, none⟩ = some (.int .i64 c) := cell_at hT0 rfl
 have qhT0_1 : w11.cell? ⟨w.heap.size, 1, none⟩ = some (.int .i64 r) := cell_at hT0 rfl
 have qhT0_2 : w11.cell? ⟨w.heap.size, 2, none⟩ = some (.slice A n cap) := cell_at hT0 rfl
 have qhT1_0 : w11.cell? ⟨w.heap.size + 1, 0, none⟩ = some (.int .i64 un) := cell_at hT1 rfl
 have qhT1_1 : w11.cell? ⟨w.heap.size + 1, 1, none⟩ = some (.int .i64 (ln : Nat)) := cell_at hT1 rfl
 have qhT1_2 : w11.cell? ⟨w.heap.size + 1, 2, none⟩ = some (.int .i64 most) := cell_at hT1 rfl
 have qhT1_3 : w11.cell? ⟨w.heap.size + 1, 3, none⟩ = some (.slice P np capp) := cell_at hT1 rfl
 clear hb
 clear qhT0_0 qhT0_1 qhT0_2 qhT1_0 qhT1_1 qhT1_2 qhT1_3
 clear hgo
 have HRT : Hid (RdD w11 (some ⟨go, 0, none⟩) np T) := Lib.hid (by rw [HT.out]; exact hro.rd (by simp [trcs, HPL.out]))
 have HDD := Lib.hid HD
 have HBF := Lib.hid hB11
 clear hro HD H HP HM hst hT0 hT1 hB11
 go_wp2_with fail
 go_loop [11, 36] (fun S i => ∃ k : Nat, k ≤ np ∧ i = .int .i64 k ∧ S = .int .i64 (Im.misD T d k)) (fun _ i => np - (intOf i).toNat)
 case atStart => exact ⟨0, Nat.zero_le _, rfl, rfl⟩
 case round =>
  obtain ⟨k, hk, rfl, rfl⟩ := hrel
  have hwk : IntKind.i64.wrap ((k : Int) + 1) = ((k + 1 : Nat) : Int) := by rw [wrapI (by omega)]; simp
  by_cases hlt : k < np
  rotate_left
  ·obtain rfl : np = k := by omega
   go_wp2
   go_ret2
   exact ⟨rfl, HBF.out⟩
  have hkm2 : (k : Int) < (np : Int) := by omega
  have hk02 : (0 : Int) ≤ (k : Int) := by omega
  obtain ⟨q, hq, hxl, hyl, hbd⟩ := HROW.out k hlt
  obtain ⟨tb, toff, x, xa, xc, he, hx, htb, htc, hrx⟩ := HRT.out.at hlt
  cases he
  obtain ⟨db, doff, y, ya, yc, rfl, hy, hdb, hdc, hry⟩ := HDD.out.at hlt
  have hxg : T.getD k [] = x := by rw [List.getD_eq_getElem?_getD, hx]; rfl
  have hyg : d.getD k [] = y := by rw [List.getD_eq_getElem?_getD, hy]; rfl
  rw [hxg] at hxl hbd
  rw [hyg] at hyl hbd
  rw [Nat.zero_add, hxl] at htc
  rw [hxl] at hrx
  rw [hyl] at hdc hry
  have HMK := Lib.hid (Im.misK_le (by omega) hbd)
  have HDF := Lib.hid hbd
  have hMD := HMD.out k hk
  have HMN : Hid (Im.misD T d (k + 1) = Im.misD T d k + Im.misK x y q) := Lib.hid (by
   show Im.misD T d k + Im.misfit (T.getD k []) (d.getD k []) = _
   rw [hxg, hyg, Im.misK_full hxl hyl])
  have HRX := Lib.hid hrx
  have HRY := Lib.hid hry
  have h16 : (k : Int) * (256 * (1310720 * 1310720)) ≤ 16 * (256 * (1310720 * 1310720)) := Int.mul_le_mul_of_nonneg_right (by omega) (by decide)
  clear hx hy hxl hyl hbd hrx hry hxg hyg
  generalize Im.misD T d k = S0 at hMD HMN ⊢
  have HS0 : Hid (0 ≤ S0 ∧ S0 ≤ 16 * (256 * (1310720 * 1310720))) := Lib.hid (by omega)
  clear hMD h16
  go_wp2_with fail
  go_loop [11, 43] (fun S j => ∃ j' : Nat, j' ≤ q ∧ j = .int .i64 j' ∧ S = .int .i64 (S0 + Im.misK x y j')) (fun _ j => q - (intOf j).toNat)
  case atStart => exact ⟨0, Nat.zero_le _, rfl, by simp [Im.misK]⟩
  case round =>
   obtain ⟨j, hj, rfl, rfl⟩ := hrel
   have hwj : IntKind.i64.wrap ((j : Int) + 1) = ((j + 1 : Nat) : Int) := by rw [wrapI (by omega)]; simp
   by_cases hltj : j < q
   rotate_left
   ·obtain rfl : q = j := by omega
    go_wp2
    go_round
    case rel => exact ⟨k + 1, by omega, rfl, by rw [HMN.out]⟩
    case measure => simp [intOf]; omega
   have hjm2 : (j : Int) < (q : Int) := by omega
   have hj02 : (0 : Int) ≤ (j : Int) := by omega
   obtain ⟨xb, xoff, rfl, hxb, _⟩ := HRX.out.2 (by omega)
   obtain ⟨yb, yoff, rfl, hyb, _⟩ := HRY.out.2 (by omega)
   have c1 := HRX.out.get hltj
   have c2 := HRY.out.get hltj
   have hdf := HDF.out j
   have hmk := HMK.out j
   have hs0 := HS0.out
   have hsq := Im.sq_le (C := 1310720) (by omega) hdf
   have HN : Hid (S0 + Im.misK x y (j + 1) = S0 + Im.misK x y j + Im.sq (Im.at0 x j - Im.at0 y j)) := Lib.hid (by rw [Int.add_assoc]; rfl)
   have h256 : (j : Int) * (1310720 * 1310720) ≤ 256 * (1310720 * 1310720) := Int.mul_le_mul_of_nonneg_right (by omega) (by decide)
   have hw1 : IntKind.i64.wrap (Im.at0 x j - Im.at0 y j) = Im.at0 x j - Im.at0 y j := wrapI (by omega)
   have hw2 : IntKind.i64.wrap ((Im.at0 x j - Im.at0 y j) * (Im.at0 x j - Im.at0 y j)) = Im.sq (Im.at0 x j - Im.at0 y j) := by unfold Im.sq at hsq ⊢; exact wrapI (by omega)
   have hw3 : IntKind.i64.wrap (S0 + Im.misK x y j + Im.sq (Im.at0 x j - Im.at0 y j)) = S0 + Im.misK x y j + Im.sq (Im.at0 x j - Im.at0 y j) := wrapI (by omega)
   clear hdf hmk hs0 hsq h256
   go_wp2
   go_round
   case rel => exact ⟨j + 1, by omega, rfl, by rw [HN.out]⟩
   case measure => simp [intOf]; omega
end Go.Proofs.YtdimmlljjmmdbaaGreatDoor
namespace Go.Proofs.YtdimmlljjmmdbaaGreatDoor
open Go.RowKit
set_option maxHeartbeats 4000000
set_option maxRecDepth 20000
theorem run_app_none {w : World} (t ty e : TypeId) (i : TypeInfo) (ht : Tryz.prog.underlying t = some (.slice e)) (hi : Tryz.prog.info? e = some i) {base : Nat} (v : Value) (n : Nat) (xs : List Value) (hown : w.ownsRow base e 1 v n xs) (c : Nat) :
  (Builtin.append_ #[t, t] ty #[v, .slice none 0 c]).run Tryz.prog w = .ok v w := by
 rcases hown.2 with ⟨rfl, rfl⟩ | ⟨g, cap, cur, rfl, _, _, hnc, _⟩
 ·simp [Builtin.append_, run_underlying ht, sizeOf, typeInfo, hi, Builtin.lenOf, Builtin.firstCells]
 ·simp [Builtin.append_, run_underlying ht, sizeOf, typeInfo, hi, Builtin.lenOf, Builtin.firstCells, hnc, storeCells]
theorem own_base {w : World} {base e size : Nat} {v : Value} {n : Nat} {xs : List Value} (h : w.ownsRow base e size v n xs) : ∀ g, v.ownBlock = some g → base ≤ g := by
 intro g hg
 rcases h.2 with ⟨rfl, _⟩ | ⟨g', cap, cur, rfl, hb, _⟩
 ·cases hg
 ·cases hg; exact hb
theorem own_slice {w : World} {base e size : Nat} {v : Value} {n : Nat} {xs : List Value} (h : w.ownsRow base e size v n xs) : ∃ A cap, v = .slice A n cap := by
 obtain ⟨h1, ⟨rfl, h0⟩ | ⟨g, cap, cur, rfl, _⟩⟩ := h
 ·subst h0; exact ⟨none, 0, rfl⟩
 ·exact ⟨_, cap, rfl⟩
/-- an owned row, a store into an older block later -/
theorem Own.kept {w w' : World} {B k : Nat} {v : Value} {n : Nat} {l : List Value} (h : Own w B v n l) (hg : w.grownBy w' (some k)) (hk : k < B) : Own w' B v n l := by
 obtain ⟨h1, h2 | ⟨g, cap, cs, rfl, h3, h4, h5⟩⟩ := h
 ·exact ⟨h1, .inl h2⟩
 ·exact ⟨h1, .inr ⟨g, cap, cs, rfl, h3, (hg.block g (Array.getElem?_eq_some_iff.1 h4).1 (by simp; omega)).trans h4, h5⟩⟩
/-- an append to a row of the call's own, cells of one place each -/
theorem wp_app1 {o : Oper} {a : Act} {w : World} {K : Act → World → Prop} {Q : Exit → Act → World → Prop} (s x : Operand) (t : TypeId)
  (ho : o.op = .call { callee := .builtin .append, args := #[s, x], argTypes := #[t, t] })
  (base : Nat) (e : TypeId) (z : Value) (bytes : Nat) (ht : Tryz.prog.underlying t = some (.slice e)) (hinf : (Tryz.prog.info? e).map (fun i => (i.zero, i.size, i.bytes)) = some (some z, 1, bytes)) (hzs : z.cells.size = 1) (hby : bytes ≤ 24)
  (v : Value) (n : Nat) (xs ys : List Value) (hs : a.eval s = v) (hown : w.ownsRow base e 1 v n xs)
  (A : Option Addr) (m c : Nat) (hx : a.eval x = .slice A m c) (H : RdS w 1 A m ys) (h1 : ∀ u ∈ ys, u.oneCell' = true) (hnm : n + m ≤ 1000000000) (hbase : base ≤ w.heap.size)
  (h : ∀ v' w', w'.ownsRow base e 1 v' (n + m) (xs ++ ys) → w.grownBy w' v.ownBlock → K (a.put o.dst v') w') : o.wp Tryz.prog a w K Q := by
 obtain ⟨i0, hi, hz0, hz1, hz2⟩ := info_parts hinf
 cases A with
 | none =>
  obtain rfl : m = 0 := RdS.none0 H
  obtain rfl : ys = [] := List.eq_nil_of_length_eq_zero (by simpa using H.1)
  have hr := run_app_none t o.type e i0 ht hi v n xs hown c
  have := h v w (by rw [Nat.add_zero, List.append_nil]; exact hown) (grownBy_of_below (Below.refl _ _) _)
  unfold Oper.wp
  simp only [execOp, ho, resolve, invoke, builtin, Sem.run_bind, Sem.run_pure, Result.andThen_ok, List.map_toArray, List.map_cons, List.map_nil, hs, hx, hr]
  exact this
 | some ad =>
  refine wp_append_own w s x t ho base e i0 z 1 bytes ht hi hz0 hz1 hz2 hzs (by decide) v n xs hs hown ad m c ys hx (by rw [H.1]) (RdS.news H (by omega)) h1 (by unfold maxLen; omega) ?_ hbase (fun v' w' h2 h3 _ => h v' w' h2 h3)
  have : (n + m) * bytes ≤ 1000000000 * 24 := Nat.mul_le_mul hnm hby
  omega
/-- an append of integers -/
theorem wp_app_ints {o : Oper} {a : Act} {w : World} {K : Act → World → Prop} {Q : Exit → Act → World → Prop} (s x : Operand)
  (ho : o.op = .call { callee := .builtin .append, args := #[s, x], argTypes := #[22, 22] })
  (base : Nat) (v : Value) (n : Nat) (xs ys : List Int) (hs : a.eval s = v) (hown : Own w base v n (encI xs))
  (A : Option Addr) (m c : Nat) (hx : a.eval x = .slice A m c) (H : RdI w A m ys) (hnm : n + m ≤ 1000000) (hbase : base ≤ w.heap.size)
  (h : ∀ v' w', Own w' base v' (n + m) (encI (xs ++ ys)) → Below base w w' → K (a.put o.dst v') w') : o.wp Tryz.prog a w K Q := by
 refine wp_app1 s x 22 ho base 3 (.int .i64 0) 8 Tryz.underlying22 info3 rfl (by decide) v n (encI xs) (encI ys) hs hown A m c hx H ?_ (Nat.le_trans hnm (by decide)) hbase (fun v' w' h2 h3 => h v' w' ?_ ((Below.refl _ _).grown h3 hbase (own_base hown)))
 ·intro u hu; simp [encI] at hu; obtain ⟨y, _, rfl⟩ := hu; rfl
 ·have e : encI (xs ++ ys) = encI xs ++ encI ys := by simp [encI]
  rw [e]; exact h2
theorem c145 (n : Nat) (w : World) (hn : n ≤ 1000000) : Calls Tryz.prog 145 #[.slice none 0 0, .int .i64 (n : Int)] w fun en w' => ∃ v, en = .returned v ∧ Own w' w.heap.size v 0 [] ∧ Below w.heap.size w w' := by
 by_cases h0 : n = 0
 ·subst h0
  go_enter Tryz.func145, Tryz.ntmps145
  go_wp2
  go_ret
  exact ⟨_, rfl, World.ownsRow_nil _ _ _ _, Below.refl _ _⟩
 obtain ⟨i0, hi, hz0, hz1, hz2⟩ := info_parts info3
 have hr := Lib.run_append_nil_zeros (P := Tryz.prog) w 22 3 22 3 i0 (.int .i64 0) .i64 .i64 Tryz.underlying22 Tryz.underlying3 hi hz0 n (by omega) (by omega) (by omega) (by rw [hz2]; omega)
 obtain ⟨W, hW⟩ : ∃ W, W = w.drew.alloc (.cells (Builtin.zeroCells (Value.int .i64 0).cells n ++ Builtin.zeroCells (Value.int .i64 0).cells (grownCap w n 0 3 - n)) 3) := ⟨_, rfl⟩
 have hge := grownCap_ge w n 0 3
 have hle := grownCap_le_maxLen w n 0 3 (by unfold maxLen; omega)
 rw [← hW] at hr
 have hB : Below w.heap.size w W := by rw [hW]; exact ((Below.refl w.heap.size w).drew).alloc (Nat.le_refl _) _
 have HO : Hid (Own W w.heap.size (.slice (some ⟨w.heap.size, 0, none⟩) 0 (grownCap w n 0 3)) 0 []) := Lib.hid ⟨rfl, .inr ⟨_, _, _, rfl, Nat.le_refl _, by rw [hW]; exact heap_new rfl, Nat.zero_le _, hle, by
  have e1 : (Value.int .i64 0).cells.size = 1 := rfl
  rw [Array.size_append, size_zeroCells, size_zeroCells, e1]; omega, by simp⟩⟩
 generalize grownCap w n 0 3 = gc at *
 have hgc : (n : Int) ≤ (gc : Int) := by omega
 have hn1 : 0 < n := by omega
 have hwn : IntKind.i64.wrap (n : Int) = (n : Int) := wrapI (by omega)
 have hd1 : decide (0 < n) = true := by simp; omega
 have hlt0 : ¬ ((n : Int) < 0) := by omega
 clear hW
 go_enter Tryz.func145, Tryz.ntmps145
 go_wp2_with (at_builtin; refine Lib.wpList_append_run _ rfl _ _ _ _ rfl _ _ rfl rfl _ _ hr ?_)
 go_ret
 exact ⟨_, rfl, HO.out, hB⟩
theorem flat_len_le : ∀ (d : List (List Int)), (∀ x, x ∈ d → x.length ≤ 1000) → d.flatten.length ≤ d.length * 1000
 | [], _ => by simp
 | x :: d, h => by
  have ih := flat_len_le d (fun y hy => h y (List.mem_cons_of_mem _ hy))
  have hx := h x List.mem_cons_self
  simp only [List.flatten_cons, List.length_append, List.length_cons]
  omega
theorem flat_take {d : List (List Int)} {k : Nat} {x : List Int} (h : d[k]? = some x) : (d.take (k + 1)).flatten = (d.take k).flatten ++ x := by
 rw [List.take_add_one, h]
 simp
theorem c106 (D : Option Addr) (m capd : Nat) (d : List (List Int)) (w : World) (hm : m ≤ 100) (hdl : ∀ x, x ∈ d → x.length ≤ 1000) (HD : RdD w D m d) :
  Calls Tryz.prog 106 #[.slice D m capd] w fun en w' => ∃ v, en = .returned v ∧ Own w' w.heap.size v d.flatten.length (encI d.flatten) ∧ Below w.heap.size w w' := by
 have HKD := Lib.hid HD
 have hfle : ∀ k, (d.take k).flatten.length ≤ 100000 := fun k => by
  have h := flat_len_le (d.take k) (fun x hx => hdl x (List.mem_of_mem_take hx))
  have h2 : (d.take k).length ≤ 100 := by rw [List.length_take]; have := HD.len; omega
  have : (d.take k).length * 1000 ≤ 100 * 1000 := Nat.mul_le_mul_right _ h2
  omega
 have hfm : (d.take m).flatten = d.flatten := by rw [List.take_of_length_le (by rw [HD.len]; exact Nat.le_refl _)]
 obtain ⟨pr, hpr⟩ : ∃ f : Nat → List Int, f = fun k => (d.take k).flatten := ⟨_, rfl⟩
 have HF0 : Hid (pr 0 = []) := Lib.hid (by rw [hpr]; rfl)
 have HFS : Hid (∀ k y, d[k]? = some y → pr (k + 1) = pr k ++ y) := Lib.hid (fun k y hy => by rw [hpr]; exact flat_take hy)
 have HFM : Hid (d.flatten = pr m) := Lib.hid (by rw [hpr]; exact hfm.symm)
 have HLE : Hid (∀ k, (pr k).length ≤ 100000) := Lib.hid (fun k => by rw [hpr]; exact hfle k)
 rw [HFM.out]
 clear HD hdl hfle hfm hpr
 go_enter Tryz.func106, Tryz.ntmps106
 go_wp2_with fail
 go_loop [3, 11] (fun S i => ∃ k : Nat, k ≤ m ∧ i = .int .i64 k ∧ S = .int .i64 ((pr k).length : Nat)) (fun _ i => m - (intOf i).toNat)
 case atStart => exact ⟨0, Nat.zero_le _, rfl, by rw [HF0.out]; rfl⟩
 case round =>
  obtain ⟨k, hk, rfl, rfl⟩ := hrel
  have hwk : IntKind.i64.wrap ((k : Int) + 1) = ((k + 1 : Nat) : Int) := by rw [wrapI (by omega)]; simp
  by_cases hlt : k < m
  ·have hkm2 : (k : Int) < (m : Int) := by omega
   have hk02 : (0 : Int) ≤ (k : Int) := by omega
   obtain ⟨db, doff, y, ya, yc, rfl, hy, hdb, hdc, hry⟩ := HKD.out.at hlt
   have HN : Hid ((pr (k + 1)).length = (pr k).length + y.length) := Lib.hid (by rw [HFS.out k y hy, List.length_append])
   have h1 := HLE.out (k + 1)
   rw [HN.out] at h1
   clear hy hry
   generalize (pr k).length = S at *
   have hws : IntKind.i64.wrap ((S : Int) + (y.length : Int)) = (S : Int) + (y.length : Int) := wrapI (by omega)
   have hneg : ¬ ((S : Int) + (y.length : Int) < 0) := by omega
   have hneg2 : decide ((S : Int) + (y.length : Int) < 0) = false := by simp; omega
   clear h1
   go_wp2
   go_round
   case rel => exact ⟨k + 1, by omega, rfl, by rw [HN.out, Int.natCast_add]⟩
   case measure => simp [intOf]; omega
  ·obtain rfl : m = k := by omega
   have hfl := HLE.out m
   go_wp2_with fail
   refine (c145 (pr m).length _ (by omega)).mono ?_
   rintro e w1 ⟨v1, rfl, hown1, hb1⟩
   have HO1 : Hid (Own w1 w.heap.size v1 (pr 0).length (encI (pr 0))) := Lib.hid (by rw [HF0.out]; exact hown1)
   have HB1 := Lib.hid hb1
   clear hown1 hb1 hwk hlt hk hfl
   go_wp2_with fail
   go_loopw [6, 27] (fun x i wr => ∃ k : Nat, k ≤ m ∧ i = .int .i64 k ∧ Hid (Own wr w.heap.size x (pr k).length (encI (pr k))) ∧ Hid (Below w.heap.size w wr)) (fun _ i _ => m - (intOf i).toNat)
   case atStart => exact ⟨0, Nat.zero_le _, rfl, HO1, HB1⟩
   case round =>
    clear HO1 HB1
    obtain ⟨k, hk, rfl, HO, HB⟩ := hrel
    have hwk : IntKind.i64.wrap ((k : Int) + 1) = ((k + 1 : Nat) : Int) := by rw [wrapI (by omega)]; simp
    by_cases hlt : k < m
    ·have hkm2 : (k : Int) < (m : Int) := by omega
     have hk02 : (0 : Int) ≤ (k : Int) := by omega
     have HD := HKD.out.below HB.out
     obtain ⟨db, doff, y, ya, yc, rfl, hy, hdb, hdc, hry⟩ := HD.at hlt
     have HN := Lib.hid (HFS.out k y hy)
     have h1 := HLE.out (k + 1)
     rw [HN.out, List.length_append] at h1
     have hsz := HB.out.size
     have hown := HO.out
     clear hy HD
     go_wp2_with (at_builtin; refine wpList_plain rfl fun K hK => wp_app_ints _ _ rfl w.heap.size _ _ _ y rfl hown ya y.length yc rfl hry (by omega) hsz (fun vA w2 h3 h4 => hK _ _ (stopq ?_)))
     unfold StopQ
     have HO2 : Hid (Own w2 w.heap.size vA (pr (k + 1)).length (encI (pr (k + 1)))) := Lib.hid (by rw [HN.out, List.length_append]; exact h3)
     have HB2 : Hid (Below w.heap.size w w2) := Lib.hid (HB.out.trans h4)
     clear h3 h4 hown hry hdc hsz
     go_wp2
     go_roundw
     case rel => exact ⟨k + 1, by omega, by go_num, HO2, HB2⟩
     case measure => simp [intOf]; omega
    ·obtain rfl : m = k := by omega
     go_wp2
     go_ret
     exact ⟨_, rfl, HO.out, HB.out⟩
theorem c105 (x : Int) (w : World) : Calls Tryz.prog 105 #[.int .i64 x] w fun en w' => en = .returned (.bool (x != 0)) ∧ w = w' := by
 go_enter Tryz.func105, Tryz.ntmps105
 go_wp2
 go_ret
 exact ⟨rfl, rfl⟩
theorem c144 (A : Option Addr) (n cap : Nat) (l : List Int) (w : World) (hl : n ≤ 1000000) (H : RdI w A n l) :
  Calls Tryz.prog 144 #[.slice A n cap, .func (.func 105) #[] #[]] w fun en w' => ∃ r : Int, en = .returned (.int .i64 r) ∧ ((r = -1 ∧ ∀ x, x ∈ l → x = 0) ∨ (0 ≤ r ∧ ∃ x, x ∈ l ∧ x ≠ 0)) ∧ w = w' := by
 have HN := Lib.hid H.len
 have HH := Lib.hid H
 clear H
 go_enter Tryz.func144, Tryz.ntmps144
 go_wp2
 go_loop [8] (fun i => ∃ k : Nat, k ≤ n ∧ i = .int .i64 k ∧ Hid (∀ j, j < k → Im.at0 l j = 0)) (fun i => n - (intOf i).toNat)
 case atStart => exact ⟨0, Nat.zero_le _, rfl, Lib.hid (fun j hj => by omega)⟩
 case round =>
  obtain ⟨k, hk, rfl, HK⟩ := hrel
  have hwk : IntKind.i64.wrap ((k : Int) + 1) = ((k + 1 : Nat) : Int) := by rw [wrapI (by omega)]; simp
  by_cases hlt : k < n
  ·have hkm2 : (k : Int) < (n : Int) := by omega
   have hk02 : (0 : Int) ≤ (k : Int) := by omega
   obtain ⟨b, off, x, rfl, hx, hb, hc⟩ := HH.out.at hlt
   have hxe : Im.at0 l k = x := by simp [Im.at0, List.getD_eq_getElem?_getD, hx]
   have HX := Lib.hid hx
   clear hx
   by_cases h0 : x = 0
   ·subst h0
    have HK2 : Hid (∀ j, j < k + 1 → Im.at0 l j = 0) := Lib.hid (fun j hj => by
     by_cases h : j = k
     ·subst h; exact hxe
     ·exact HK.out j (by omega))
    go_wp2_with (go_at_call 105; refine (c105 _ _).mono ?_; rintro e w' ⟨rfl, rfl⟩)
    go_round
    case rel => exact ⟨k + 1, by omega, rfl, HK2⟩
    case measure => simp [intOf]; omega
   ·have hxf : (x != 0) = true := by simpa using h0
    have HX0 := Lib.hid h0
    go_wp2_with (go_at_call 105; refine (c105 _ _).mono ?_; rintro e w' ⟨rfl, rfl⟩)
    go_ret
    exact ⟨k, rfl, .inr ⟨by omega, x, List.mem_of_getElem? HX.out, HX0.out⟩, rfl⟩
  ·obtain rfl : n = k := by omega
   go_wp2
   go_ret
   exact ⟨-1, rfl, .inl ⟨rfl, fun x hx => by
    obtain ⟨j, hj, rfl⟩ := List.getElem_of_mem hx
    have := HK.out j (by rw [← HN.out]; exact hj)
    simpa [Im.at0, List.getD_eq_getElem?_getD, hj] using this⟩, rfl⟩
def BoP (Q : Prop) (e : Ending) : Prop := ∃ b : Bool, e = .returned (.bool b) ∧ (b = true ↔ Q)
theorem c103 (A : Option Addr) (n cap : Nat) (l : List Int) (w : World) (hl : n ≤ 1000000) (H : RdI w A n l) :
  Calls Tryz.prog 103 #[.slice A n cap, .func (.func 105) #[] #[]] w fun en w' => BoP (∃ x, x ∈ l ∧ x ≠ 0) en ∧ w = w' := by
 go_enter Tryz.func103, Tryz.ntmps103
 go_wp2_with fail
 refine (c144 A n cap l _ hl H).mono ?_
 rintro e w' ⟨r, rfl, hr, rfl⟩
 rcases hr with ⟨rfl, h⟩ | ⟨h0, h⟩
 ·have HH := Lib.hid h
  go_wp2
  go_ret
  exact ⟨⟨false, rfl, Iff.intro (fun h => by cases h) (fun h => by obtain ⟨x, hx, hne⟩ := h; exact absurd (HH.out x hx) hne)⟩, rfl⟩
 ·have HH := Lib.hid h
  have hd : decide ((0 : Int) ≤ r) = true := by simp [h0]
  go_wp2
  go_ret
  exact ⟨⟨true, rfl, Iff.intro (fun _ => HH.out) (fun _ => rfl)⟩, rfl⟩
end Go.Proofs.YtdimmlljjmmdbaaGreatDoor
namespace Go.Proofs.YtdimmlljjmmdbaaGreatDoor
open Go.RowKit
set_option maxHeartbeats 4000000
set_option maxRecDepth 20000
theorem c106n (D : Option Addr) (m capd : Nat) (d : List (List Int)) (N : Nat) (w : World) (hm : m ≤ 100) (hdl : ∀ x, x ∈ d → x.length ≤ 1000) (HD : RdD w D m d) (hN : d.flatten.length = N) :
  Calls Tryz.prog 106 #[.slice D m capd] w fun en w' => ∃ A cap, en = .returned (.slice A N cap) ∧ RdI w' A N d.flatten ∧ Below w.heap.size w w' := by
 subst hN
 refine (c106 D m capd d w hm hdl HD).mono ?_
 rintro e w' ⟨v, rfl, ho, hb⟩
 obtain ⟨A, cap, rfl, hr⟩ := Sl.of_own ho
 exact ⟨A, cap, rfl, hr, hb⟩
theorem flat_len_leC (C : Nat) : ∀ (d : List (List Int)), (∀ x, x ∈ d → x.length ≤ C) → d.flatten.length ≤ d.length * C
 | [], _ => by simp
 | x :: d, h => by
  have ih := flat_len_leC C d (fun y hy => h y (List.mem_cons_of_mem _ hy))
  have hx := h x List.mem_cons_self
  simp only [List.flatten_cons, List.length_append, List.length_cons]
  rw [Nat.add_mul]; omega
namespace Mo
/-- what is wrong with traces and dual traces, and what these prove -/
noncomputable def bth (c r : Int) (l : List Int) (un len most : Int) (ps : List Pr) (d e : List (List Int)) : Int := first [dta c r l un len most ps d, dat len ps e]
def bndR (img x y : List Int) : Int × Int := if ∀ z ∈ img, z = 0 then (2 * Im.inner y x - Im.inner y y, 0) else (0, 19)
theorem shp_len {ln : Nat} {ps : List Pr} {d : List (List Int)} (hl : d.length = ps.length) (h : Shp (ln : Int) ps d) : ∀ x, x ∈ d → x.length ≤ ln := fun x hx => by
 obtain ⟨j, hj, hxj⟩ := List.getElem_of_mem hx
 have hjp : j < ps.length := by omega
 have h := h j ps[j] x (List.getElem?_eq_getElem hjp) (by rw [← hxj]; exact List.getElem?_eq_getElem hj)
 unfold okT at h
 split at h <;> omega
end Mo
theorem flat_facts {ln : Nat} {ps : List Pr} {d : List (List Int)} (hln : ln ≤ 256) (hp : ps.length ≤ 16) (hl : d.length = ps.length) (hs : Mo.Shp (ln : Int) ps d) (hv : ∀ x, x ∈ d → ∀ y, y ∈ x → -1048576 ≤ y ∧ y ≤ 1048576) :
  d.flatten.length ≤ 4096 ∧ (∀ x, x ∈ d → x.length ≤ 1000) ∧ (∀ y, y ∈ d.flatten → -1048576 ≤ y ∧ y ≤ 1048576) := by
 have h1 := Mo.shp_len hl hs
 refine ⟨?_, fun x hx => by have := h1 x hx; omega, fun y hy => ?_⟩
 ·have h2 := flat_len_leC 256 d (fun x hx => by have := h1 x hx; omega)
  have : d.length * 256 ≤ 16 * 256 := Nat.mul_le_mul_right _ (by omega)
  omega
 ·obtain ⟨x, hx, hyx⟩ := List.mem_flatten.1 hy
  exact hv x hx y hyx
theorem c34_ok (c r : Nat) (A : Option Addr) (n cap : Nat) (l : List Int) (un : Int) (ln : Nat) (most : Int) (P : Option Addr) (np capp : Nat) (ps : List Pr) (D : Option Addr) (capd : Nat) (d : List (List Int)) (F : Option Addr) (cape : Nat) (e : List (List Int)) (w : World) (g : Im.Gr c r l) (hc : c ≤ 16) (hr : r ≤ 16) (hcp : np ≤ capp) (H : RdI w A n l) (HP : RdP w P np ps) (HD : RdD w D np d) (HF : RdD w F np e) (hst : Steps w) (hE : Mo.bth c r l un ln most ps d e = 0) :
  Calls Tryz.prog 34 #[.agg #[.int .i64 c, .int .i64 r, .slice A n cap], .agg #[.int .i64 un, .int .i64 (ln : Nat), .int .i64 most, .slice P np capp], .slice D np capd, .slice F np cape] w fun en w' => en = .returned (.tuple #[.int .i64 (Mo.bndR (Im.image n (ps.map (dlp c l un ln most)) e) d.flatten e.flatten).1, .int .i64 (Mo.bndR (Im.image n (ps.map (dlp c l un ln most)) e) d.flatten e.flatten).2]) ∧ Below w.heap.size w w' := by
 have hz := Mo.first_zero hE
 obtain ⟨hS, hdn, hsd, hvd⟩ := Mo.dta_zero (hz _ List.mem_cons_self)
 obtain ⟨hen, hse, hve⟩ := Mo.dat_zero (hz (Mo.dat ln ps e) (by simp))
 obtain ⟨hG, hu, hln1, hmo, hnp, hcl⟩ := surv_ok hS
 obtain ⟨hfd, hd1, hfv⟩ := flat_facts (ln := ln) (by omega) hnp hdn hsd hvd
 obtain ⟨hfe, he1, hev⟩ := flat_facts (ln := ln) (by omega) hnp hen hse hve
 have hl : n ≤ 1000000 := by have h1 := H.len; have := g.len; have : c * r ≤ 16 * 16 := Nat.mul_le_mul hc hr; omega
 have HLN := Lib.hid H.len
 have hn0 : 0 < n := by
  have h1 := g.c1; have h2 := g.r1; have h3 := g.len
  have : 1 * 1 ≤ c * r := Nat.mul_le_mul h1 h2
  rw [← HLN.out]; omega
 have hpl := HP.len
 have hp : np ≤ 1000000 := by omega
 have hd := hp
 have he := hp
 have hdl : ∀ x, x ∈ d → x.length ≤ 1000000 := fun x hx => by have := hd1 x hx; omega
 have hel : ∀ x, x ∈ e → x.length ≤ 1000000 := fun x hx => by have := he1 x hx; omega
 have HCL : Hid (∀ p, p ∈ ps → (0 ≤ p.s ∧ p.s < (n : Int)) ∧ (0 ≤ p.r ∧ p.r < (n : Int))) := Lib.hid (fun p hp => by have := hcl p hp; rw [H.len] at this; exact this)
 have hn16 : np ≤ 16 := by omega
 have hl256 : 1 ≤ ln ∧ ln ≤ 256 := by omega
 have HSE := Lib.hid hse
 have HVE := Lib.hid hve
 have HD1 := Lib.hid hd1
 have HE1 := Lib.hid he1
 have HFV := Lib.hid hfv
 have HEV := Lib.hid hev
 have HE : Hid (Mo.first [Mo.first [Mo.surv c r l un ln most ps, Mo.dat ln ps d], Mo.dat ln ps e] = 0) := Lib.hid hE
 have HIN : Hid (∀ x y : List Int, y.length = e.flatten.length → x.length = y.length → (∀ z, z ∈ x → -1048576 ≤ z ∧ z ≤ 1048576) → (∀ z, z ∈ y → -1048576 ≤ z ∧ z ≤ 1048576) → -4503599627370496 ≤ Im.inner y x ∧ Im.inner y x ≤ 4503599627370496) := Lib.hid (fun x y h1 h2 hx hy => by
  rw [← Im.innK_full (n := e.flatten.length) h1 (by rw [h2, h1])]
  have h := Im.innK_le (by omega) (Im.at0_le (C := 1048576) (by omega) hy) (Im.at0_le (by omega) hx) e.flatten.length
  have : (e.flatten.length : Int) * (1048576 * 1048576) ≤ 4096 * (1048576 * 1048576) := Int.mul_le_mul_of_nonneg_right (by omega) (by decide)
  omega)
 have HFL : Hid (d.flatten.length = e.flatten.length) := Lib.hid (by
  have h : ∀ i, i < ps.length → (d.getD i []).length = (e.getD i []).length := fun i hi => by
   have h1 := hsd i ps[i] d[i] (List.getElem?_eq_getElem hi) (List.getElem?_eq_getElem (by omega))
   have h2 := hse i ps[i] e[i] (List.getElem?_eq_getElem hi) (List.getElem?_eq_getElem (by omega))
   rw [List.getD_eq_getElem?_getD, List.getElem?_eq_getElem (by omega), List.getD_eq_getElem?_getD, List.getElem?_eq_getElem (by omega)]
   unfold Mo.okT at h1 h2
   simp only [Option.getD_some]
   split at h1
   ·rename_i hh; rw [if_pos hh] at h2; omega
   ·rename_i hh; rw [if_neg hh] at h2; omega
  rw [List.length_flatten, List.length_flatten]
  congr 1
  apply List.ext_getElem (by simp; omega)
  intro i h1 h2
  have hi : i < ps.length := by simp at h1; omega
  have := h i hi
  rw [List.getD_eq_getElem?_getD, List.getElem?_eq_getElem (by omega), List.getD_eq_getElem?_getD, List.getElem?_eq_getElem (by omega)] at this
  simpa using this)
 obtain ⟨R, hR⟩ : ∃ R, R = Mo.bndR (Im.image n (ps.map (dlp c l un ln most)) e) d.flatten e.flatten := ⟨_, rfl⟩
 rw [← hR]
 have HRD := Lib.hid hR
 clear hR
 clear hE hS hG hmo hcl hpl hnp hz hdn hsd hvd hen hse hve hd1 he1 hfv hev
 obtain ⟨w0, hW⟩ : ∃ W, W = (w.alloc (Obj.cells #[.int .i64 c, .int .i64 r, .slice A n cap] 35)).alloc (Obj.cells #[.int .i64 un, .int .i64 (ln : Nat), .int .i64 most, .slice P np capp] 39) := ⟨_, rfl⟩
 have hT0 : w0.heap[w.heap.size]? = some (.cells #[.int .i64 c, .int .i64 r, .slice A n cap] 35 (0, 0)) := by rw [hW]; exact heap_old (by simp <;> omega) (heap_new (by simp))
 have hT1 : w0.heap[w.heap.size + 1]? = some (.cells #[.int .i64 un, .int .i64 (ln : Nat), .int .i64 most, .slice P np capp] 39 (0, 0)) := by rw [hW]; exact heap_new (by simp)
 have hB0 : Below w.heap.size w w0 := by rw [hW]; exact (((Below.refl _ _).alloc (by first | omega | (simp <;> omega)) _).alloc (by first | omega | (simp <;> omega)) _)
 replace H := H.below hB0
 replace HP := HP.below hB0
 replace HD := HD.below hB0
 replace HF := HF.below hB0
 replace hst := hst.below hB0
 go_enter Tryz.func34, Tryz.ntmps34
 go_wp2_with fail
 rw [← hW]
 clear hW
 have qhT0_0 : w0.cell? ⟨w.heap.size, 0, none⟩ = some (.int .i64 c) := cell_at hT0 rfl
 have qhT0_1 : w0.cell? ⟨w.heap.size, 1, none⟩ = some (.int .i64 r) := cell_at hT0 rfl
 have qhT0_2 : w0.cell? ⟨w.heap.size, 2, none⟩ = some (.slice A n cap) := cell_at hT0 rfl
 have qhT1_0 : w0.cell? ⟨w.heap.size + 1, 0, none⟩ = some (.int .i64 un) := cell_at hT1 rfl
 have qhT1_1 : w0.cell? ⟨w.heap.size + 1, 1, none⟩ = some (.int .i64 (ln : Nat)) := cell_at hT1 rfl
 have qhT1_2 : w0.cell? ⟨w.heap.size + 1, 2, none⟩ = some (.int .i64 most) := cell_at hT1 rfl
 have qhT1_3 : w0.cell? ⟨w.heap.size + 1, 3, none⟩ = some (.slice P np capp) := cell_at hT1 rfl
 refine wp_region_plan [(0, true), (1, true), (2, true), (4, true), (5, true), (3, false), (6, false), (7, false), (8, false), (9, true)] w0.heap.size (by kernel_rfl) (by kernel_rfl) (Nat.le_refl _) (fun _ _ d _ _ h => by cases d <;> exact h) ?_
 have hC : Below w0.heap.size w0 w0 := Below.refl _ _
 have zhT0 : w.heap.size < w0.heap.size := (Array.getElem?_eq_some_iff.1 hT0).1
 have zhT1 : w.heap.size + 1 < w0.heap.size := (Array.getElem?_eq_some_iff.1 hT1).1
 repeat (first | (refine wpPlanA_skip _ rfl (by rfl) ?_; simp only [Act.put, List.setIfInBounds_toArray, List.set_cons_zero, List.set_cons_succ]) | (refine wpPlanA_soft _ ?_ rfl (by rfl) ?_ ?_; rotate_left; (intro wq hq hcq; go_simp; first | exact rfl | exact ⟨rfl, rfl⟩); simp only [Act.put, List.setIfInBounds_toArray, List.set_cons_zero, List.set_cons_succ]))
 refine wpPlanA_hard _ rfl (by rfl) (fun w1 hS K hK => ?_)
 have hB1 := hB0.call hS rfl
 replace hC := hC.call hS rfl
 replace hT0 := blkb hT0 hS
 replace hT1 := blkb hT1 hS
 replace H := H.below hS
 replace HP := HP.below hS
 replace HD := HD.below hS
 replace HF := HF.below hS
 replace hst := hst.below hS
 clear hS hB0
 go_simp
 refine (c102 c r A n cap l un ln most P np capp ps D np capd d _ hl hp hd hdl HP HD H).mono ?_
 rintro e w2 ⟨rfl, hb⟩
 have hB2 := hB1.call hb rfl
 replace hC := hC.call hb rfl
 replace hT0 := blkb hT0 hb
 replace hT1 := blkb hT1 hb
 replace H := H.below hb
 replace HP := HP.below hb
 replace HD := HD.below hb
 replace HF := HF.below hb
 replace hst := hst.below hb
 clear hb hB1
 refine hK _ _ hC ?_
 clear hK K
 try simp only [Act.put, List.setIfInBounds_toArray, List.set_cons_zero, List.set_cons_succ]
 refine wpPlanA_hard _ rfl (by rfl) (fun w3 hS K hK => ?_)
 have hB3 := hB2.call hS rfl
 replace hC := hC.call hS rfl
 replace hT0 := blkb hT0 hS
 replace hT1 := blkb hT1 hS
 replace H := H.below hS
 replace HP := HP.below hS
 replace HD := HD.below hS
 replace HF := HF.below hS
 replace hst := hst.below hS
 clear hS hB2
 go_simp
 refine (c101 un ln most P np capp ps F np cape e _ hp he hel HP HF).mono ?_
 rintro e w4 ⟨rfl, hb⟩
 have hB4 := hB3.call hb rfl
 replace hC := hC.call hb rfl
 replace hT0 := blkb hT0 hb
 replace hT1 := blkb hT1 hb
 replace H := H.below hb
 replace HP := HP.below hb
 replace HD := HD.below hb
 replace HF := HF.below hb
 replace hst := hst.below hb
 clear hb hB3
 refine hK _ _ hC ?_
 clear hK K
 try simp only [Act.put, List.setIfInBounds_toArray, List.set_cons_zero, List.set_cons_succ]
 refine wpPlanA_hard _ rfl (by rfl) (fun w5 hS K hK => ?_)
 have hB5 := hB4.call hS rfl
 replace hC := hC.call hS rfl
 replace hT0 := blkb hT0 hS
 replace hT1 := blkb hT1 hS
 replace H := H.below hS
 replace HP := HP.below hS
 replace HD := HD.below hS
 replace HF := HF.below hS
 replace hst := hst.below hS
 clear hS hB4
 go_simp
 have hb : Below w5.heap.size w5 (w5.alloc (Obj.cells #[.int .i64 (Mo.first [Mo.surv c r l un ln most ps, Mo.dat ln ps d]), .int .i64 (Mo.dat ln ps e)] 32)) := (Below.refl _ _).alloc (Nat.le_refl _) _
 have k1 : (w5.alloc (Obj.cells #[.int .i64 (Mo.first [Mo.surv c r l un ln most ps, Mo.dat ln ps d]), .int .i64 (Mo.dat ln ps e)] 32)).heap[w5.heap.size]? = some (Obj.cells #[.int .i64 (Mo.first [Mo.surv c r l un ln most ps, Mo.dat ln ps d]), .int .i64 (Mo.dat ln ps e)] 32) := heap_new rfl
 refine hK _ _ (hC.alloc hC.size _) ?_
 clear hK K
 replace hC := hC.call hb rfl
 have hB6 := hB5.call hb rfl
 replace hT0 := blkb hT0 hb
 replace hT1 := blkb hT1 hb
 replace H := H.below hb
 replace HP := HP.below hb
 replace HD := HD.below hb
 replace HF := HF.below hb
 replace hst := hst.below hb
 clear hb hB5
 generalize hWn : w5.alloc (Obj.cells #[.int .i64 (Mo.first [Mo.surv c r l un ln most ps, Mo.dat ln ps d]), .int .i64 (Mo.dat ln ps e)] 32) = w6 at k1 hC hB6 hT0 hT1 H HP HD HF hst ⊢
 clear hWn
 generalize hWn : w5.heap.size = bk1 at k1 ⊢
 clear hWn
 try simp only [Act.put, List.setIfInBounds_toArray, List.set_cons_zero, List.set_cons_succ]
 refine wpPlanA_hard _ rfl (by rfl) (fun w7 hS K hK => ?_)
 have hB7 := hB6.call hS rfl
 replace hC := hC.call hS rfl
 replace hT0 := blkb hT0 hS
 replace hT1 := blkb hT1 hS
 replace H := H.below hS
 replace HP := HP.below hS
 replace HD := HD.below hS
 replace HF := HF.below hS
 replace hst := hst.below hS
 replace k1 := blkb k1 hS
 clear hS hB6
 go_simp
 refine (c89 _ 2 2 [Mo.first [Mo.surv c r l un ln most ps, Mo.dat ln ps d], Mo.dat ln ps e] _ rfl (by omega) (RdS.of_block (cs := encI [Mo.first [Mo.surv c r l un ln most ps, Mo.dat ln ps d], Mo.dat ln ps e]) k1 rfl)).mono ?_
 rintro e w' ⟨rfl, rfl⟩
 refine hK _ _ hC ?_
 clear hK K
 try simp only [Act.put, List.setIfInBounds_toArray, List.set_cons_zero, List.set_cons_succ]
 repeat (first | (refine wpPlanA_skip _ rfl (by rfl) ?_; simp only [Act.put, List.setIfInBounds_toArray, List.set_cons_zero, List.set_cons_succ]) | (refine wpPlanA_soft _ ?_ rfl (by rfl) ?_ ?_; rotate_left; (intro wq hq hcq; go_simp; first | exact rfl | exact ⟨rfl, rfl⟩); simp only [Act.put, List.setIfInBounds_toArray, List.set_cons_zero, List.set_cons_succ]))
 clear k1
 clear qhT0_0 qhT0_1 qhT0_2 qhT1_0 qhT1_1 qhT1_2 qhT1_3
 refine wpPlanA_nil (fun w8 hS => ?_)
 clear hC zhT0 zhT1
 have hB8 := hB7.call hS rfl
 replace hT0 := blkb hT0 hS
 replace hT1 := blkb hT1 hS
 replace H := H.below hS
 replace HP := HP.below hS
 replace HD := HD.below hS
 replace HF := HF.below hS
 replace hst := hst.below hS
 clear hS hB7
 have qhT0_0 : w8.cell? ⟨w.heap.size, 0, none⟩ = some (.int .i64 c) := cell_at hT0 rfl
 have qhT0_1 : w8.cell? ⟨w.heap.size, 1, none⟩ = some (.int .i64 r) := cell_at hT0 rfl
 have qhT0_2 : w8.cell? ⟨w.heap.size, 2, none⟩ = some (.slice A n cap) := cell_at hT0 rfl
 have qhT1_0 : w8.cell? ⟨w.heap.size + 1, 0, none⟩ = some (.int .i64 un) := cell_at hT1 rfl
 have qhT1_1 : w8.cell? ⟨w.heap.size + 1, 1, none⟩ = some (.int .i64 (ln : Nat)) := cell_at hT1 rfl
 have qhT1_2 : w8.cell? ⟨w.heap.size + 1, 2, none⟩ = some (.int .i64 most) := cell_at hT1 rfl
 have qhT1_3 : w8.cell? ⟨w.heap.size + 1, 3, none⟩ = some (.slice P np capp) := cell_at hT1 rfl
 rw [HE.out]
 go_wp2_with fail
 go_wp2_with fail
 refine (c104 c r A n cap l un ln most P np capp ps F cape e _ g hc hr hu hl256 hn16 hcp HCL.out HSE.out HVE.out H HP HF hst).mono ?_
 rintro e w9 ⟨vo, rfl, howni, hb⟩
 clear qhT0_0 qhT0_1 qhT0_2 qhT1_0 qhT1_1 qhT1_2 qhT1_3
 have hS := hb
 have hB9 := hB8.call hS rfl
 replace hT0 := blkb hT0 hS
 replace hT1 := blkb hT1 hS
 replace H := H.below hS
 replace HP := HP.below hS
 replace HD := HD.below hS
 replace HF := HF.below hS
 replace hst := hst.below hS
 clear hS hB8
 have qhT0_0 : w9.cell? ⟨w.heap.size, 0, none⟩ = some (.int .i64 c) := cell_at hT0 rfl
 have qhT0_1 : w9.cell? ⟨w.heap.size, 1, none⟩ = some (.int .i64 r) := cell_at hT0 rfl
 have qhT0_2 : w9.cell? ⟨w.heap.size, 2, none⟩ = some (.slice A n cap) := cell_at hT0 rfl
 have qhT1_0 : w9.cell? ⟨w.heap.size + 1, 0, none⟩ = some (.int .i64 un) := cell_at hT1 rfl
 have qhT1_1 : w9.cell? ⟨w.heap.size + 1, 1, none⟩ = some (.int .i64 (ln : Nat)) := cell_at hT1 rfl
 have qhT1_2 : w9.cell? ⟨w.heap.size + 1, 2, none⟩ = some (.int .i64 most) := cell_at hT1 rfl
 have qhT1_3 : w9.cell? ⟨w.heap.size + 1, 3, none⟩ = some (.slice P np capp) := cell_at hT1 rfl
 clear hb
 obtain ⟨gi, ci, rfl, hri⟩ := RowI.of_own hn0 howni
 clear howni
 obtain ⟨img, himg⟩ : ∃ x, x = (Im.image n (ps.map (dlp c l un ln most)) e) := ⟨_, rfl⟩
 rw [← himg] at hri HRD
 clear himg
 go_wp2_with fail
 refine (c103 _ n ci img _ hl hri.rd).mono ?_
 rintro en w' ⟨⟨b, rfl, hb⟩, rfl⟩
 have HB := Lib.hid hb
 clear hb hri
 cases b
 rotate_left
 ·
   have HR : Hid (R = (0, 19)) := Lib.hid (by
    rw [HRD.out]
    unfold Mo.bndR
    rw [if_neg (fun h => by obtain ⟨x, hx, hne⟩ := HB.out.1 rfl; exact hne (h x hx))])
   go_wp2
   go_ret2
   exact ⟨by rw [HR.out]; rfl, hB9⟩
 have HR : Hid (R = (2 * Im.inner e.flatten d.flatten - Im.inner e.flatten e.flatten, 0)) := Lib.hid (by
  rw [HRD.out]
  unfold Mo.bndR
  rw [if_pos (fun z hz => by
   by_cases h : z = 0
   ·exact h
   ·have := HB.out.2 ⟨z, hz, h⟩; cases this)])
 go_wp2_with fail
 obtain ⟨N, hN⟩ : ∃ N, N = e.flatten.length := ⟨_, rfl⟩
 have HNE : Hid (e.flatten.length = N) := Lib.hid hN.symm
 have HND : Hid (d.flatten.length = N) := Lib.hid (by rw [HFL.out, hN])
 have hfn : N ≤ 4096 := by omega
 clear hN
 go_wp2_with fail
 refine (c106n D np capd d N _ (by omega) HD1.out HD HND.out).mono ?_
 rintro e w10 ⟨AX, cx, rfl, HX, hb⟩
 clear qhT0_0 qhT0_1 qhT0_2 qhT1_0 qhT1_1 qhT1_2 qhT1_3
 have hS := hb
 have hB10 := hB9.call hS rfl
 replace hT0 := blkb hT0 hS
 replace hT1 := blkb hT1 hS
 replace H := H.below hS
 replace HP := HP.below hS
 replace HD := HD.below hS
 replace HF := HF.below hS
 replace hst := hst.below hS
 clear hS hB9
 have qhT0_0 : w10.cell? ⟨w.heap.size, 0, none⟩ = some (.int .i64 c) := cell_at hT0 rfl
 have qhT0_1 : w10.cell? ⟨w.heap.size, 1, none⟩ = some (.int .i64 r) := cell_at hT0 rfl
 have qhT0_2 : w10.cell? ⟨w.heap.size, 2, none⟩ = some (.slice A n cap) := cell_at hT0 rfl
 have qhT1_0 : w10.cell? ⟨w.heap.size + 1, 0, none⟩ = some (.int .i64 un) := cell_at hT1 rfl
 have qhT1_1 : w10.cell? ⟨w.heap.size + 1, 1, none⟩ = some (.int .i64 (ln : Nat)) := cell_at hT1 rfl
 have qhT1_2 : w10.cell? ⟨w.heap.size + 1, 2, none⟩ = some (.int .i64 most) := cell_at hT1 rfl
 have qhT1_3 : w10.cell? ⟨w.heap.size + 1, 3, none⟩ = some (.slice P np capp) := cell_at hT1 rfl
 clear hb
 go_wp2_with fail
 refine (c106n F np cape e N _ (by omega) HE1.out HF HNE.out).mono ?_
 rintro e w11 ⟨AY, cy, rfl, HY, hb⟩
 clear qhT0_0 qhT0_1 qhT0_2 qhT1_0 qhT1_1 qhT1_2 qhT1_3
 have hS := hb
 have hB11 := hB10.call hS rfl
 replace hT0 := blkb hT0 hS
 replace hT1 := blkb hT1 hS
 replace H := H.below hS
 replace HP := HP.below hS
 replace HD := HD.below hS
 replace HF := HF.below hS
 replace hst := hst.below hS
 replace HX := HX.below hS
 clear hS hB10
 have qhT0_0 : w11.cell? ⟨w.heap.size, 0, none⟩ = some (.int .i64 c) := cell_at hT0 rfl
 have qhT0_1 : w11.cell? ⟨w.heap.size, 1, none⟩ = some (.int .i64 r) := cell_at hT0 rfl
 have qhT0_2 : w11.cell? ⟨w.heap.size, 2, none⟩ = some (.slice A n cap) := cell_at hT0 rfl
 have qhT1_0 : w11.cell? ⟨w.heap.size + 1, 0, none⟩ = some (.int .i64 un) := cell_at hT1 rfl
 have qhT1_1 : w11.cell? ⟨w.heap.size + 1, 1, none⟩ = some (.int .i64 (ln : Nat)) := cell_at hT1 rfl
 have qhT1_2 : w11.cell? ⟨w.heap.size + 1, 2, none⟩ = some (.int .i64 most) := cell_at hT1 rfl
 have qhT1_3 : w11.cell? ⟨w.heap.size + 1, 3, none⟩ = some (.slice P np capp) := cell_at hT1 rfl
 clear hb
 have b1 := HIN.out d.flatten e.flatten rfl HFL.out HFV.out HEV.out
 have b2 := HIN.out e.flatten e.flatten rfl rfl HEV.out HEV.out
 have HX16 : ∀ z, z ∈ d.flatten → -16777216 ≤ z ∧ z ≤ 16777216 := fun z hz => by have := HFV.out z hz; omega
 have HY16 : ∀ z, z ∈ e.flatten → -16777216 ≤ z ∧ z ≤ 16777216 := fun z hz => by have := HEV.out z hz; omega
 have k16 := Lib.hid HX16
 have k17 := Lib.hid HY16
 clear HX16 HY16
 go_wp2_with fail
 refine (c107 AY AX N cy cx e.flatten d.flatten _ hfn HY HX k17.out k16.out).mono ?_
 rintro en w' ⟨rfl, rfl⟩
 go_wp2_with fail
 refine (c107 AY AY N cy cy e.flatten e.flatten _ hfn HY HY k17.out k17.out).mono ?_
 rintro en w' ⟨rfl, rfl⟩
 obtain ⟨s1, hs1⟩ : ∃ s, s = Im.inner e.flatten d.flatten := ⟨_, rfl⟩
 obtain ⟨s2, hs2⟩ : ∃ s, s = Im.inner e.flatten e.flatten := ⟨_, rfl⟩
 rw [← hs1] at b1 HR ⊢
 rw [← hs2] at b2 HR ⊢
 clear hs1 hs2
 have hw1 : IntKind.i64.wrap (2 * s1) = 2 * s1 := wrapI (by omega)
 have hw2 : IntKind.i64.wrap (2 * s1 - s2) = 2 * s1 - s2 := wrapI (by omega)
 go_wp2
 go_ret2
 exact ⟨by rw [HR.out]; rfl, hB11⟩
end Go.Proofs.YtdimmlljjmmdbaaGreatDoor
namespace Go.Proofs.YtdimmlljjmmdbaaGreatDoor
open Go.RowKit
set_option maxHeartbeats 4000000
set_option maxRecDepth 20000
namespace Mo
/-- a quotient in lowest terms -/
def lown (num : Int) (den : Nat) : Int := num.tdiv (Nat.gcd num.natAbs den : Nat)
def lowd (num : Int) (den : Nat) : Int := ((den / Nat.gcd num.natAbs den : Nat) : Int)
end Mo
theorem c109 (num : Int) (den : Nat) (w : World) (hn : -1000000000 ≤ num ∧ num ≤ 1000000000) (hd : 1 ≤ den ∧ den ≤ 1000000000) :
  Calls Tryz.prog 109 #[.int .i64 num, .int .i64 (den : Int)] w fun en w' => en = .returned (.agg #[.int .i64 (Mo.lown num den), .int .i64 (Mo.lowd num den)]) ∧ Below w.heap.size w w' := by
 obtain ⟨W, hW⟩ : ∃ W, W = w.alloc (Obj.cells #[.int .i64 0, .int .i64 0] 61) := ⟨_, rfl⟩
 have hT : W.heap[w.heap.size]? = some (.cells #[.int .i64 0, .int .i64 0] 61 (0, 0)) := by rw [hW]; exact heap_new rfl
 have HB : Hid (Below w.heap.size w W) := Lib.hid (by rw [hW]; exact (Below.refl _ _).alloc (Nat.le_refl _) _)
 have hw1 : IntKind.i64.wrap (-num) = -num := wrapI (by omega)
 have hmx : max num (-num) = ((num.natAbs : Nat) : Int) := by omega
 obtain ⟨G, hG⟩ : ∃ G, G = Nat.gcd num.natAbs den := ⟨_, rfl⟩
 have HG := Lib.hid hG
 have HGP : Hid (0 < G) := Lib.hid (by rw [hG]; exact Nat.gcd_pos_of_pos_right _ hd.1)
 have HGL : Hid (G ≤ den) := Lib.hid (by rw [hG]; exact Nat.gcd_le_right _ hd.1)
 have HNA : Hid (num.natAbs ≤ 1000000000) := Lib.hid (by omega)
 have HV : Hid (Mo.lown num den = num.tdiv (G : Nat) ∧ Mo.lowd num den = ((den / G : Nat) : Int)) := Lib.hid (by rw [hG]; exact ⟨rfl, rfl⟩)
 clear hG
 go_enter Tryz.func109, Tryz.ntmps109
 go_wp2_with fail
 rw [← hW]
 clear hW
 go_loopw [5, 6] (fun a b wr => ∃ x y : Nat, a = .int .i64 (x : Int) ∧ b = .int .i64 (y : Int) ∧ Hid (Nat.gcd x y = G ∧ x ≤ 1000000000 ∧ y ≤ 1000000000) ∧ Hid (Below W.heap.size W wr)) (fun _ b _ => (intOf b).toNat)
 case atStart => exact ⟨num.natAbs, den, rfl, rfl, Lib.hid ⟨HG.out.symm, HNA.out, hd.2⟩, Lib.hid (Below.refl _ _)⟩
 case round =>
  obtain ⟨x, y, rfl, rfl, HXY, HBR⟩ := hrel
  by_cases hy : y = 0
  ·subst hy
   have hyf : (((0 : Nat) : Int) != 0) = false := rfl
   have hx : x = G := by have h := HXY.out.1; rwa [Nat.gcd_zero_right] at h
   subst hx
   have hg0 : ¬ ((x : Int) = 0) := by have := HGP.out; omega
   have e1 : (den : Int).tdiv (x : Int) = ((den / x : Nat) : Int) := (Int.ofNat_tdiv _ _).symm
   have e2 : IntKind.i64.wrap (num.tdiv (x : Int)) = num.tdiv (x : Int) := wrapI (by
    have h := Int.natAbs_tdiv_le_natAbs num (x : Int)
    omega)
   have hql := Nat.div_le_self den x
   have HV1 := HV.out.1
   have HV2 := HV.out.2
   obtain ⟨q, hq⟩ : ∃ q, q = den / x := ⟨_, rfl⟩
   rw [← hq] at e1 hql HV2
   have e3 : IntKind.i64.wrap (q : Int) = (q : Int) := wrapI (by omega)
   have HVV : Hid (Mo.lown num den = num.tdiv (x : Int) ∧ Mo.lowd num den = (q : Int)) := Lib.hid ⟨HV1, HV2⟩
   clear hq HV1 HV2 hmx hw1
   have hx0 : ¬ x = 0 := by omega
   go_wp2_with fail
   refine wp_region_splitG 7 (by kernel_rfl) (by kernel_rfl) ?_
   simp only [List.take_succ_cons, List.take_zero, List.drop_succ_cons, List.drop_zero]
   repeat (go_big_quiet_step ((first | fail)))
   refine wpQuiet_nil (gw_out ?_)
   intro wq hbq
   have hTq := blkb (blkb hT HBR.out) hbq
   have hBq := (HB.out.call HBR.out rfl).call hbq rfl
   have c0 : wq.cell? ⟨w.heap.size, 0, none⟩ = some (.int .i64 0) := cell_at hTq rfl
   have c1 : wq.cell? ⟨w.heap.size, 1, none⟩ = some (.int .i64 0) := cell_at hTq rfl
   have f0 : wq.frozen? ⟨w.heap.size, 0, none⟩ = false := free_at hTq
   have f1 : wq.frozen? ⟨w.heap.size, 1, none⟩ = false := free_at hTq
   have hT2 := set_blk (i := 1) (set_blk (i := 0) hTq (.int .i64 (num.tdiv (x : Int)))) (.int .i64 (q : Int))
   have hbf := (hBq.setCell (p := ⟨w.heap.size, 0, none⟩) (by show _ ≤ w.heap.size; omega) (.int .i64 (num.tdiv (x : Int)))).setCell (p := ⟨w.heap.size, 1, none⟩) (by show _ ≤ w.heap.size; omega) (.int .i64 (q : Int))
   have HT2 := Lib.hid hT2
   have HBF := Lib.hid hbf
   clear hT2 hbf hTq hBq hbq hT
   go_wp2_with fail
   exact bodyPost_ret (results_blk rfl rfl HT2.out _ Tryz.underlying61 rfl (by kernel_rfl)) rfl ⟨by rw [HVV.out.1, HVV.out.2]; rfl, HBF.out⟩
  ·have hyf : ((y : Int) != 0) = true := by simp; omega
   have hy0 : ¬ ((y : Int) = 0) := by omega
   have hml : x % y < y := Nat.mod_lt _ (by omega)
   have em0 : (x : Int).tmod (y : Int) = ((x % y : Nat) : Int) := (Int.ofNat_tmod _ _).symm
   have HXY2 : Hid (Nat.gcd y (x % y) = G ∧ y ≤ 1000000000 ∧ x % y ≤ 1000000000) := Lib.hid (by
    have h := HXY.out
    refine ⟨?_, h.2.2, by omega⟩
    rw [← h.1, Nat.gcd_comm x y, Nat.gcd_rec y x, Nat.gcd_comm])
   obtain ⟨q, hq⟩ : ∃ q, q = x % y := ⟨_, rfl⟩
   rw [← hq] at em0 HXY2 hml
   have hwm : IntKind.i64.wrap (q : Int) = (q : Int) := wrapI (by have := HXY2.out.2.2; omega)
   clear hq
   go_wp2
   refine wp_region_growG (by kernel_rfl) (by kernel_rfl) ?_
   repeat (go_big_quiet_step ((first | fail)))
   refine wpQuiet_nil (gw_out ?_)
   intro wq hwq
   have HBR2 : Hid (Below W.heap.size W wq) := Lib.hid (HBR.out.call hwq rfl)
   clear hwq
   go_wp2
   go_roundw
   case rel => exact ⟨y, q, rfl, rfl, HXY2, HBR2⟩
   case measure => simp [intOf]; omega
end Go.Proofs.YtdimmlljjmmdbaaGreatDoor
namespace Go.Proofs.YtdimmlljjmmdbaaGreatDoor
open Go.RowKit
set_option maxHeartbeats 4000000
set_option maxRecDepth 20000
namespace Mo
/-- what is wrong with traces and a cell; the amplitude -/
noncomputable def ampE (c r : Int) (l : List Int) (un len most : Int) (ps : List Pr) (d : List (List Int)) (i : Int) : Int := first [dta c r l un len most ps d, cell l.length i]
def cnt (dss : List (List Int)) (k : Nat) : Nat := dss.countP fun ds => decide (0 ≤ Im.at0 ds k)
def ampR (img : List Int) (many : Nat) (k : Nat) : (Int × Int) × Int := if many = 0 then ((0, 0), 17) else ((lown (Im.at0 img k) many, lowd (Im.at0 img k) many), 0)
end Mo
theorem cnt_take {dss : List (List Int)} {j k : Nat} {ds : List Int} (h : dss[j]? = some ds) : Mo.cnt (dss.take (j + 1)) k = Mo.cnt (dss.take j) k + if 0 ≤ Im.at0 ds k then 1 else 0 := by
 unfold Mo.cnt
 rw [List.take_add_one, h]
 simp [List.countP_append, List.countP_cons]
theorem image_le {n : Nat} {dss data : List (List Int)} (hn : ∀ ds, ds ∈ dss → ds.length = n) (hd : ∀ tr, tr ∈ data → ∀ x, x ∈ tr → -1048576 ≤ x ∧ x ≤ 1048576) (hl : dss.length = data.length) (h16 : dss.length ≤ 16) {k : Nat} (hk : k < n) :
  -16777216 ≤ Im.at0 (Im.image n dss data) k ∧ Im.at0 (Im.image n dss data) k ≤ 16777216 := by
 have h := Im.imgN_le (n := n) (dss := dss) (data := data) (B := 1048576) (by omega) hn hd hl dss.length (Nat.le_refl _) k hk
 rw [Im.imgN_full hl] at h
 have : (dss.length : Int) * 1048576 ≤ 16 * 1048576 := Int.mul_le_mul_of_nonneg_right (by omega) (by omega)
 omega
theorem c35_ok (c r : Nat) (A : Option Addr) (n cap : Nat) (l : List Int) (un : Int) (ln : Nat) (most : Int) (P : Option Addr) (np capp : Nat) (ps : List Pr) (D : Option Addr) (capd : Nat) (d : List (List Int)) (i : Nat) (w : World) (g : Im.Gr c r l) (hc : c ≤ 16) (hr : r ≤ 16) (hcp : np ≤ capp) (H : RdI w A n l) (HP : RdP w P np ps) (HD : RdD w D np d) (hst : Steps w) (hE : Mo.ampE c r l un ln most ps d i = 0) :
  Calls Tryz.prog 35 #[.agg #[.int .i64 c, .int .i64 r, .slice A n cap], .agg #[.int .i64 un, .int .i64 (ln : Nat), .int .i64 most, .slice P np capp], .slice D np capd, .int .i64 (i : Int)] w fun en w' => en = .returned (.tuple #[.agg #[.int .i64 (Mo.ampR (Im.image n (ps.map (dlp c l un ln most)) d) (Mo.cnt (ps.map (dlp c l un ln most)) i) i).1.1, .int .i64 (Mo.ampR (Im.image n (ps.map (dlp c l un ln most)) d) (Mo.cnt (ps.map (dlp c l un ln most)) i) i).1.2], .int .i64 (Mo.ampR (Im.image n (ps.map (dlp c l un ln most)) d) (Mo.cnt (ps.map (dlp c l un ln most)) i) i).2]) ∧ Below w.heap.size w w' := by
 have hz := Mo.first_zero hE
 obtain ⟨hS, hdn, hsd, hvd⟩ := Mo.dta_zero (hz _ List.mem_cons_self)
 have hci := Mo.cell_ok.1 (hz (Mo.cell l.length i) (by simp))
 obtain ⟨hG, hu, hln1, hmo, hnp, hcl⟩ := surv_ok hS
 obtain ⟨_, hd1, _⟩ := flat_facts (ln := ln) (by omega) hnp hdn hsd hvd
 have hl : n ≤ 1000000 := by have h1 := H.len; have := g.len; have : c * r ≤ 16 * 16 := Nat.mul_le_mul hc hr; omega
 have HLN := Lib.hid H.len
 have HPL := Lib.hid HP.len
 have hin : i < n := by rw [H.len] at hci; omega
 have hn0 : 0 < n := by omega
 have hpl := HP.len
 have hp : np ≤ 1000000 := by omega
 have hd := hp
 have hdl : ∀ x, x ∈ d → x.length ≤ 1000000 := fun x hx => by have := hd1 x hx; omega
 have HCL : Hid (∀ p, p ∈ ps → (0 ≤ p.s ∧ p.s < (n : Int)) ∧ (0 ≤ p.r ∧ p.r < (n : Int))) := Lib.hid (fun p hp => by have := hcl p hp; rw [H.len] at this; exact this)
 have hn16 : np ≤ 16 := by omega
 have hl256 : 1 ≤ ln ∧ ln ≤ 256 := by omega
 have HSD := Lib.hid hsd
 have HVD := Lib.hid hvd
 have HE : Hid (Mo.first [Mo.first [Mo.surv c r l un ln most ps, Mo.dat ln ps d], Mo.cell n i] = 0) := Lib.hid (by have h := hE; unfold Mo.ampE at h; rw [H.len] at h; exact h)
 obtain ⟨DS, hDS⟩ : ∃ T, T = ps.map (dlp c l un ln most) := ⟨_, rfl⟩
 have HDS := Lib.hid hDS
 have HDL : Hid (DS.length = np) := Lib.hid (by rw [hDS]; simp [hpl])
 have HIB := Lib.hid (image_le (n := n) (dss := DS) (data := d) (k := i) (fun ds hds => by rw [hDS] at hds; obtain ⟨p, _, rfl⟩ := List.mem_map.1 hds; rw [dlp_len, HLN.out]) hvd (by rw [HDL.out, hdn, hpl]) (by rw [HDL.out]; omega) hin)
 have HCT : Hid (∀ j, Mo.cnt (DS.take j) i ≤ 16) := Lib.hid (fun j => by
  have h1 : Mo.cnt (DS.take j) i ≤ (DS.take j).length := List.countP_le_length
  rw [List.length_take, HDL.out] at h1; omega)
 have HCF : Hid (Mo.cnt (DS.take np) i = Mo.cnt DS i) := Lib.hid (by rw [List.take_of_length_le (by rw [HDL.out]; exact Nat.le_refl _)])
 have HCN : Hid (∀ (j : Nat) (x : List Int), DS[j]? = some x → Mo.cnt (DS.take (j + 1)) i = Mo.cnt (DS.take j) i + if 0 ≤ Im.at0 x i then 1 else 0) := Lib.hid (fun j x h => cnt_take h)
 obtain ⟨R, hR⟩ : ∃ R, R = (Mo.ampR (Im.image n (ps.map (dlp c l un ln most)) d) (Mo.cnt (ps.map (dlp c l un ln most)) i) i) := ⟨_, rfl⟩
 rw [← hR]
 rw [← hDS] at hR
 have HRD := Lib.hid hR
 clear hR
 obtain ⟨ck, hck⟩ : ∃ f : Nat → Nat, f = fun j => Mo.cnt (DS.take j) i := ⟨_, rfl⟩
 have HC0 : Hid (ck 0 = 0) := Lib.hid (by rw [hck]; rfl)
 have HCK : Hid (∀ (j : Nat) (x : List Int), DS[j]? = some x → ck (j + 1) = ck j + if 0 ≤ Im.at0 x i then 1 else 0) := Lib.hid (fun j x h => by rw [hck]; exact HCN.out j x h)
 have HCB : Hid (∀ j, ck j ≤ 16) := Lib.hid (fun j => by rw [hck]; exact HCT.out j)
 have HCM : Hid (Mo.cnt DS i = ck np) := Lib.hid (by rw [hck]; exact HCF.out.symm)
 clear hE hS hG hmo hcl hpl hnp hz hdn hsd hvd hd1 hci hDS hck HCN HCT HCF
 obtain ⟨w0, hW⟩ : ∃ W, W = ((w.alloc (Obj.cells #[.int .i64 c, .int .i64 r, .slice A n cap] 35)).alloc (Obj.cells #[.int .i64 un, .int .i64 (ln : Nat), .int .i64 most, .slice P np capp] 39)).alloc (Obj.cells #[.int .i64 0, .int .i64 0] 61) := ⟨_, rfl⟩
 have hT0 : w0.heap[w.heap.size]? = some (.cells #[.int .i64 c, .int .i64 r, .slice A n cap] 35 (0, 0)) := by rw [hW]; exact heap_old (by simp <;> omega) (heap_old (by simp <;> omega) (heap_new (by simp)))
 have hT1 : w0.heap[w.heap.size + 1]? = some (.cells #[.int .i64 un, .int .i64 (ln : Nat), .int .i64 most, .slice P np capp] 39 (0, 0)) := by rw [hW]; exact heap_old (by simp <;> omega) (heap_new (by simp))
 have hT2 : w0.heap[w.heap.size + 1 + 1]? = some (.cells #[.int .i64 0, .int .i64 0] 61 (0, 0)) := by rw [hW]; exact heap_new (by simp)
 have hB0 : Below w.heap.size w w0 := by rw [hW]; exact ((((Below.refl _ _).alloc (by first | omega | (simp <;> omega)) _).alloc (by first | omega | (simp <;> omega)) _).alloc (by first | omega | (simp <;> omega)) _)
 replace H := H.below hB0
 replace HP := HP.below hB0
 replace HD := HD.below hB0
 replace hst := hst.below hB0
 go_enter Tryz.func35, Tryz.ntmps35
 go_wp2_with fail
 rw [← hW]
 clear hW
 have qhT0_0 : w0.cell? ⟨w.heap.size, 0, none⟩ = some (.int .i64 c) := cell_at hT0 rfl
 have qhT0_1 : w0.cell? ⟨w.heap.size, 1, none⟩ = some (.int .i64 r) := cell_at hT0 rfl
 have qhT0_2 : w0.cell? ⟨w.heap.size, 2, none⟩ = some (.slice A n cap) := cell_at hT0 rfl
 have qhT1_0 : w0.cell? ⟨w.heap.size + 1, 0, none⟩ = some (.int .i64 un) := cell_at hT1 rfl
 have qhT1_1 : w0.cell? ⟨w.heap.size + 1, 1, none⟩ = some (.int .i64 (ln : Nat)) := cell_at hT1 rfl
 have qhT1_2 : w0.cell? ⟨w.heap.size + 1, 2, none⟩ = some (.int .i64 most) := cell_at hT1 rfl
 have qhT1_3 : w0.cell? ⟨w.heap.size + 1, 3, none⟩ = some (.slice P np capp) := cell_at hT1 rfl
 have qhT2_0 : w0.cell? ⟨w.heap.size + 1 + 1, 0, none⟩ = some (.int .i64 0) := cell_at hT2 rfl
 have qhT2_1 : w0.cell? ⟨w.heap.size + 1 + 1, 1, none⟩ = some (.int .i64 0) := cell_at hT2 rfl
 refine wp_region_plan [(0, true), (1, true), (2, true), (4, true), (5, true), (3, false), (6, false), (7, false), (8, false), (9, true)] w0.heap.size (by kernel_rfl) (by kernel_rfl) (Nat.le_refl _) (fun _ _ d _ _ h => by cases d <;> exact h) ?_
 have hC : Below w0.heap.size w0 w0 := Below.refl _ _
 have zhT0 : w.heap.size < w0.heap.size := (Array.getElem?_eq_some_iff.1 hT0).1
 have zhT1 : w.heap.size + 1 < w0.heap.size := (Array.getElem?_eq_some_iff.1 hT1).1
 have zhT2 : w.heap.size + 1 + 1 < w0.heap.size := (Array.getElem?_eq_some_iff.1 hT2).1
 repeat (first | (refine wpPlanA_skip _ rfl (by rfl) ?_; simp only [Act.put, List.setIfInBounds_toArray, List.set_cons_zero, List.set_cons_succ]) | (refine wpPlanA_soft _ ?_ rfl (by rfl) ?_ ?_; rotate_left; (intro wq hq hcq; go_simp; first | exact rfl | exact ⟨rfl, rfl⟩); simp only [Act.put, List.setIfInBounds_toArray, List.set_cons_zero, List.set_cons_succ]))
 refine wpPlanA_hard _ rfl (by rfl) (fun w1 hS K hK => ?_)
 have hB1 := hB0.call hS rfl
 replace hC := hC.call hS rfl
 replace hT0 := blkb hT0 hS
 replace hT1 := blkb hT1 hS
 replace hT2 := blkb hT2 hS
 replace H := H.below hS
 replace HP := HP.below hS
 replace HD := HD.below hS
 replace hst := hst.below hS
 clear hS hB0
 go_simp
 refine (c102 c r A n cap l un ln most P np capp ps D np capd d _ hl hp hd hdl HP HD H).mono ?_
 rintro e w2 ⟨rfl, hb⟩
 have hB2 := hB1.call hb rfl
 replace hC := hC.call hb rfl
 replace hT0 := blkb hT0 hb
 replace hT1 := blkb hT1 hb
 replace hT2 := blkb hT2 hb
 replace H := H.below hb
 replace HP := HP.below hb
 replace HD := HD.below hb
 replace hst := hst.below hb
 clear hb hB1
 refine hK _ _ hC ?_
 clear hK K
 try simp only [Act.put, List.setIfInBounds_toArray, List.set_cons_zero, List.set_cons_succ]
 refine wpPlanA_hard _ rfl (by rfl) (fun w3 hS K hK => ?_)
 have hB3 := hB2.call hS rfl
 replace hC := hC.call hS rfl
 replace hT0 := blkb hT0 hS
 replace hT1 := blkb hT1 hS
 replace hT2 := blkb hT2 hS
 replace H := H.below hS
 replace HP := HP.below hS
 replace HD := HD.below hS
 replace hst := hst.below hS
 clear hS hB2
 go_simp
 refine (c97 c r A n cap i _).mono ?_
 rintro e w4 ⟨rfl, hb⟩
 have hB4 := hB3.call hb rfl
 replace hC := hC.call hb rfl
 replace hT0 := blkb hT0 hb
 replace hT1 := blkb hT1 hb
 replace hT2 := blkb hT2 hb
 replace H := H.below hb
 replace HP := HP.below hb
 replace HD := HD.below hb
 replace hst := hst.below hb
 clear hb hB3
 refine hK _ _ hC ?_
 clear hK K
 try simp only [Act.put, List.setIfInBounds_toArray, List.set_cons_zero, List.set_cons_succ]
 refine wpPlanA_hard _ rfl (by rfl) (fun w5 hS K hK => ?_)
 have hB5 := hB4.call hS rfl
 replace hC := hC.call hS rfl
 replace hT0 := blkb hT0 hS
 replace hT1 := blkb hT1 hS
 replace hT2 := blkb hT2 hS
 replace H := H.below hS
 replace HP := HP.below hS
 replace HD := HD.below hS
 replace hst := hst.below hS
 clear hS hB4
 go_simp
 have hb : Below w5.heap.size w5 (w5.alloc (Obj.cells #[.int .i64 (Mo.first [Mo.surv c r l un ln most ps, Mo.dat ln ps d]), .int .i64 (Mo.cell n i)] 32)) := (Below.refl _ _).alloc (Nat.le_refl _) _
 have k1 : (w5.alloc (Obj.cells #[.int .i64 (Mo.first [Mo.surv c r l un ln most ps, Mo.dat ln ps d]), .int .i64 (Mo.cell n i)] 32)).heap[w5.heap.size]? = some (Obj.cells #[.int .i64 (Mo.first [Mo.surv c r l un ln most ps, Mo.dat ln ps d]), .int .i64 (Mo.cell n i)] 32) := heap_new rfl
 refine hK _ _ (hC.alloc hC.size _) ?_
 clear hK K
 replace hC := hC.call hb rfl
 have hB6 := hB5.call hb rfl
 replace hT0 := blkb hT0 hb
 replace hT1 := blkb hT1 hb
 replace hT2 := blkb hT2 hb
 replace H := H.below hb
 replace HP := HP.below hb
 replace HD := HD.below hb
 replace hst := hst.below hb
 clear hb hB5
 generalize hWn : w5.alloc (Obj.cells #[.int .i64 (Mo.first [Mo.surv c r l un ln most ps, Mo.dat ln ps d]), .int .i64 (Mo.cell n i)] 32) = w6 at k1 hC hB6 hT0 hT1 hT2 H HP HD hst ⊢
 clear hWn
 generalize hWn : w5.heap.size = bk1 at k1 ⊢
 clear hWn
 try simp only [Act.put, List.setIfInBounds_toArray, List.set_cons_zero, List.set_cons_succ]
 refine wpPlanA_hard _ rfl (by rfl) (fun w7 hS K hK => ?_)
 have hB7 := hB6.call hS rfl
 replace hC := hC.call hS rfl
 replace hT0 := blkb hT0 hS
 replace hT1 := blkb hT1 hS
 replace hT2 := blkb hT2 hS
 replace H := H.below hS
 replace HP := HP.below hS
 replace HD := HD.below hS
 replace hst := hst.below hS
 replace k1 := blkb k1 hS
 clear hS hB6
 go_simp
 refine (c89 _ 2 2 [Mo.first [Mo.surv c r l un ln most ps, Mo.dat ln ps d], Mo.cell n i] _ rfl (by omega) (RdS.of_block (cs := encI [Mo.first [Mo.surv c r l un ln most ps, Mo.dat ln ps d], Mo.cell n i]) k1 rfl)).mono ?_
 rintro e w' ⟨rfl, rfl⟩
 refine hK _ _ hC ?_
 clear hK K
 try simp only [Act.put, List.setIfInBounds_toArray, List.set_cons_zero, List.set_cons_succ]
 repeat (first | (refine wpPlanA_skip _ rfl (by rfl) ?_; simp only [Act.put, List.setIfInBounds_toArray, List.set_cons_zero, List.set_cons_succ]) | (refine wpPlanA_soft _ ?_ rfl (by rfl) ?_ ?_; rotate_left; (intro wq hq hcq; go_simp; first | exact rfl | exact ⟨rfl, rfl⟩); simp only [Act.put, List.setIfInBounds_toArray, List.set_cons_zero, List.set_cons_succ]))
 clear k1
 clear qhT0_0 qhT0_1 qhT0_2 qhT1_0 qhT1_1 qhT1_2 qhT1_3 qhT2_0 qhT2_1
 refine wpPlanA_nil (fun w8 hS => ?_)
 clear hC zhT0 zhT1 zhT2
 have hB8 := hB7.call hS rfl
 replace hT0 := blkb hT0 hS
 replace hT1 := blkb hT1 hS
 replace hT2 := blkb hT2 hS
 replace H := H.below hS
 replace HP := HP.below hS
 replace HD := HD.below hS
 replace hst := hst.below hS
 clear hS hB7
 have qhT0_0 : w8.cell? ⟨w.heap.size, 0, none⟩ = some (.int .i64 c) := cell_at hT0 rfl
 have qhT0_1 : w8.cell? ⟨w.heap.size, 1, none⟩ = some (.int .i64 r) := cell_at hT0 rfl
 have qhT0_2 : w8.cell? ⟨w.heap.size, 2, none⟩ = some (.slice A n cap) := cell_at hT0 rfl
 have qhT1_0 : w8.cell? ⟨w.heap.size + 1, 0, none⟩ = some (.int .i64 un) := cell_at hT1 rfl
 have qhT1_1 : w8.cell? ⟨w.heap.size + 1, 1, none⟩ = some (.int .i64 (ln : Nat)) := cell_at hT1 rfl
 have qhT1_2 : w8.cell? ⟨w.heap.size + 1, 2, none⟩ = some (.int .i64 most) := cell_at hT1 rfl
 have qhT1_3 : w8.cell? ⟨w.heap.size + 1, 3, none⟩ = some (.slice P np capp) := cell_at hT1 rfl
 have qhT2_0 : w8.cell? ⟨w.heap.size + 1 + 1, 0, none⟩ = some (.int .i64 0) := cell_at hT2 rfl
 have qhT2_1 : w8.cell? ⟨w.heap.size + 1 + 1, 1, none⟩ = some (.int .i64 0) := cell_at hT2 rfl
 rw [HE.out]
 go_wp2_with fail
 go_wp2_with fail
 refine (c108 c r A n cap l un ln most P np capp ps _ g hc hr hu hn16 hcp HCL.out H HP hst).mono ?_
 rintro e w9 ⟨AL, capL, rfl, hallB, hb⟩
 clear qhT0_0 qhT0_1 qhT0_2 qhT1_0 qhT1_1 qhT1_2 qhT1_3 qhT2_0 qhT2_1
 have hS := hb
 have hB9 := hB8.call hS rfl
 replace hT0 := blkb hT0 hS
 replace hT1 := blkb hT1 hS
 replace hT2 := blkb hT2 hS
 replace H := H.below hS
 replace HP := HP.below hS
 replace HD := HD.below hS
 replace hst := hst.below hS
 clear hS hB8
 have qhT0_0 : w9.cell? ⟨w.heap.size, 0, none⟩ = some (.int .i64 c) := cell_at hT0 rfl
 have qhT0_1 : w9.cell? ⟨w.heap.size, 1, none⟩ = some (.int .i64 r) := cell_at hT0 rfl
 have qhT0_2 : w9.cell? ⟨w.heap.size, 2, none⟩ = some (.slice A n cap) := cell_at hT0 rfl
 have qhT1_0 : w9.cell? ⟨w.heap.size + 1, 0, none⟩ = some (.int .i64 un) := cell_at hT1 rfl
 have qhT1_1 : w9.cell? ⟨w.heap.size + 1, 1, none⟩ = some (.int .i64 (ln : Nat)) := cell_at hT1 rfl
 have qhT1_2 : w9.cell? ⟨w.heap.size + 1, 2, none⟩ = some (.int .i64 most) := cell_at hT1 rfl
 have qhT1_3 : w9.cell? ⟨w.heap.size + 1, 3, none⟩ = some (.slice P np capp) := cell_at hT1 rfl
 have qhT2_0 : w9.cell? ⟨w.heap.size + 1 + 1, 0, none⟩ = some (.int .i64 0) := cell_at hT2 rfl
 have qhT2_1 : w9.cell? ⟨w.heap.size + 1 + 1, 1, none⟩ = some (.int .i64 0) := cell_at hT2 rfl
 clear hb
 have hall0 := hallB.rd
 rw [← HDS.out] at hall0
 have HALL := Lib.hid hall0
 clear hallB hall0
 go_wp2_with fail
 go_loop [11, 31] (fun S k => ∃ j : Nat, j ≤ np ∧ k = .int .i64 j ∧ S = .int .i64 (ck j : Nat)) (fun _ k => np - (intOf k).toNat)
 case atStart => exact ⟨0, Nat.zero_le _, rfl, by rw [HC0.out]; rfl⟩
 case round =>
  obtain ⟨j, hj, rfl, rfl⟩ := hrel
  have hwj : IntKind.i64.wrap ((j : Int) + 1) = ((j + 1 : Nat) : Int) := by rw [wrapI (by omega)]; simp
  by_cases hlt : j < np
  rotate_left
  ·
    obtain rfl : np = j := by omega
    obtain ⟨M, hM⟩ : ∃ M, M = ck np := ⟨_, rfl⟩
    have HM : Hid (Mo.cnt DS i = M) := Lib.hid (by rw [hM, HCM.out])
    have hmb := HCB.out np
    rw [← hM] at hmb ⊢
    clear hM hwj hlt hj
    by_cases hM0 : M = 0
    ·
      subst hM0
      have HR : Hid (R = ((0, 0), 17)) := Lib.hid (by rw [HRD.out, HM.out]; rfl)
      have f0 : w9.frozen? ⟨w.heap.size + 1 + 1, 0, none⟩ = false := free_at hT2
      have f1 : w9.frozen? ⟨w.heap.size + 1 + 1, 1, none⟩ = false := free_at hT2
      have hTs := set_blk (i := 1) (set_blk (i := 0) hT2 (.int .i64 (0))) (.int .i64 (0))
      have hbs := (hB9.setCell (p := ⟨w.heap.size + 1 + 1, 0, none⟩) (by show _ ≤ w.heap.size + 1 + 1; omega) (.int .i64 (0))).setCell (p := ⟨w.heap.size + 1 + 1, 1, none⟩) (by show _ ≤ w.heap.size + 1 + 1; omega) (.int .i64 (0))
      have HTS := Lib.hid hTs
      have HBS := Lib.hid hbs
      clear hTs hbs hT2 hB9
      go_wp2_with fail
      exact bodyPost_ret (results_blk_tmp rfl rfl HTS.out _ Tryz.underlying61 rfl (by kernel_rfl)) rfl ⟨by rw [HR.out]; rfl, HBS.out⟩
    have hMf : ((M : Int) == 0) = false := by simp; omega
    have hin2 : (i : Int) < (n : Int) := by omega
    have hi02 : (0 : Int) ≤ (i : Int) := by omega
    go_wp2_with fail
    go_wp2_with fail
    refine (c104 c r A n cap l un ln most P np capp ps D capd d _ g hc hr hu hl256 hn16 hcp HCL.out HSD.out HVD.out H HP HD hst).mono ?_
    rintro e w10 ⟨vo, rfl, howni, hb⟩
    clear qhT0_0 qhT0_1 qhT0_2 qhT1_0 qhT1_1 qhT1_2 qhT1_3 qhT2_0 qhT2_1
    have hS := hb
    have hB10 := hB9.call hS rfl
    replace hT0 := blkb hT0 hS
    replace hT1 := blkb hT1 hS
    replace hT2 := blkb hT2 hS
    replace H := H.below hS
    replace HP := HP.below hS
    replace HD := HD.below hS
    replace hst := hst.below hS
    clear hS hB9
    have qhT0_0 : w10.cell? ⟨w.heap.size, 0, none⟩ = some (.int .i64 c) := cell_at hT0 rfl
    have qhT0_1 : w10.cell? ⟨w.heap.size, 1, none⟩ = some (.int .i64 r) := cell_at hT0 rfl
    have qhT0_2 : w10.cell? ⟨w.heap.size, 2, none⟩ = some (.slice A n cap) := cell_at hT0 rfl
    have qhT1_0 : w10.cell? ⟨w.heap.size + 1, 0, none⟩ = some (.int .i64 un) := cell_at hT1 rfl
    have qhT1_1 : w10.cell? ⟨w.heap.size + 1, 1, none⟩ = some (.int .i64 (ln : Nat)) := cell_at hT1 rfl
    have qhT1_2 : w10.cell? ⟨w.heap.size + 1, 2, none⟩ = some (.int .i64 most) := cell_at hT1 rfl
    have qhT1_3 : w10.cell? ⟨w.heap.size + 1, 3, none⟩ = some (.slice P np capp) := cell_at hT1 rfl
    have qhT2_0 : w10.cell? ⟨w.heap.size + 1 + 1, 0, none⟩ = some (.int .i64 0) := cell_at hT2 rfl
    have qhT2_1 : w10.cell? ⟨w.heap.size + 1 + 1, 1, none⟩ = some (.int .i64 0) := cell_at hT2 rfl
    clear hb
    obtain ⟨gi, ci, rfl, hri⟩ := RowI.of_own hn0 howni
    clear howni
    rw [← HDS.out] at hri
    have hib := HIB.out
    have HR : Hid (R = ((Mo.lown (Im.at0 (Im.image n DS d) i) M, Mo.lowd (Im.at0 (Im.image n DS d) i) M), 0)) := Lib.hid (by rw [HRD.out, HM.out]; unfold Mo.ampR; rw [if_neg hM0])
    generalize Im.image n DS d = img at hri hib HR
    have hic := (hri.cell hin).1
    have hgl := (hri.cell hin).2.2
    generalize Im.at0 img i = v at hic hib HR
    clear hri
    go_wp2_with fail
    go_wp2_with fail
    refine (c109 v M _ (by omega) (by omega)).mono ?_
    rintro e w11 ⟨rfl, hb⟩
    clear qhT0_0 qhT0_1 qhT0_2 qhT1_0 qhT1_1 qhT1_2 qhT1_3 qhT2_0 qhT2_1
    have hS := hb
    have hB11 := hB10.call hS rfl
    replace hT0 := blkb hT0 hS
    replace hT1 := blkb hT1 hS
    replace hT2 := blkb hT2 hS
    replace H := H.below hS
    replace HP := HP.below hS
    replace HD := HD.below hS
    replace hst := hst.below hS
    clear hS hB10
    have qhT0_0 : w11.cell? ⟨w.heap.size, 0, none⟩ = some (.int .i64 c) := cell_at hT0 rfl
    have qhT0_1 : w11.cell? ⟨w.heap.size, 1, none⟩ = some (.int .i64 r) := cell_at hT0 rfl
    have qhT0_2 : w11.cell? ⟨w.heap.size, 2, none⟩ = some (.slice A n cap) := cell_at hT0 rfl
    have qhT1_0 : w11.cell? ⟨w.heap.size + 1, 0, none⟩ = some (.int .i64 un) := cell_at hT1 rfl
    have qhT1_1 : w11.cell? ⟨w.heap.size + 1, 1, none⟩ = some (.int .i64 (ln : Nat)) := cell_at hT1 rfl
    have qhT1_2 : w11.cell? ⟨w.heap.size + 1, 2, none⟩ = some (.int .i64 most) := cell_at hT1 rfl
    have qhT1_3 : w11.cell? ⟨w.heap.size + 1, 3, none⟩ = some (.slice P np capp) := cell_at hT1 rfl
    have qhT2_0 : w11.cell? ⟨w.heap.size + 1 + 1, 0, none⟩ = some (.int .i64 0) := cell_at hT2 rfl
    have qhT2_1 : w11.cell? ⟨w.heap.size + 1 + 1, 1, none⟩ = some (.int .i64 0) := cell_at hT2 rfl
    clear hb
    clear hic hgl
    have f0 : w11.frozen? ⟨w.heap.size + 1 + 1, 0, none⟩ = false := free_at hT2
    have f1 : w11.frozen? ⟨w.heap.size + 1 + 1, 1, none⟩ = false := free_at hT2
    have hTs := set_blk (i := 1) (set_blk (i := 0) hT2 (.int .i64 (Mo.lown v M))) (.int .i64 (Mo.lowd v M))
    have hbs := (hB11.setCell (p := ⟨w.heap.size + 1 + 1, 0, none⟩) (by show _ ≤ w.heap.size + 1 + 1; omega) (.int .i64 (Mo.lown v M))).setCell (p := ⟨w.heap.size + 1 + 1, 1, none⟩) (by show _ ≤ w.heap.size + 1 + 1; omega) (.int .i64 (Mo.lowd v M))
    have HTS := Lib.hid hTs
    have HBS := Lib.hid hbs
    clear hTs hbs hT2 hB11
    go_wp2_with fail
    exact bodyPost_ret (results_blk_tmp rfl rfl HTS.out _ Tryz.underlying61 rfl (by kernel_rfl)) rfl ⟨by rw [HR.out]; rfl, HBS.out⟩
  have hkm2 : (j : Int) < (np : Int) := by omega
  have hk02 : (0 : Int) ≤ (j : Int) := by omega
  have hin2 : (i : Int) < (n : Int) := by omega
  have hi02 : (0 : Int) ≤ (i : Int) := by omega
  obtain ⟨ab, aoff, x, xa, xc, rfl, hx, hab, hac, hrx⟩ := HALL.out.at hlt
  have hxl : x.length = n := by
   have h := hx
   rw [HDS.out, List.getElem?_map] at h
   cases hp0 : ps[j]? with
   | none => rw [hp0] at h; cases h
   | some p => rw [hp0] at h; rw [← Option.some.inj h, dlp_len, HLN.out]
  rw [hxl] at hac hrx
  obtain ⟨xb, xoff, xv, rfl, hxv, hxb, hxcell⟩ := hrx.at hin
  have hxe : Im.at0 x i = xv := by simp [Im.at0, List.getD_eq_getElem?_getD, hxv]
  have HN := Lib.hid (HCK.out j x hx)
  rw [hxe] at HN
  have hcb := HCB.out j
  clear hx hxl hrx hxv hxe
  generalize ck j = S at hcb HN ⊢
  by_cases h0 : 0 ≤ xv
  ·have hd0 : decide (0 ≤ xv) = true := by simp [h0]
   have hws : IntKind.i64.wrap ((S : Int) + 1) = (S : Int) + 1 := wrapI (by omega)
   rw [if_pos h0] at HN
   go_wp2
   go_round
   case rel => exact ⟨j + 1, by omega, rfl, by rw [HN.out, Int.natCast_add]; rfl⟩
   case measure => simp [intOf]; omega
  ·have hd0 : decide (0 ≤ xv) = false := by simp [h0]
   rw [if_neg h0] at HN
   go_wp2
   go_round
   case rel => exact ⟨j + 1, by omega, rfl, by rw [HN.out]; rfl⟩
   case measure => simp [intOf]; omega
end Go.Proofs.YtdimmlljjmmdbaaGreatDoor
namespace Go.Proofs.YtdimmlljjmmdbaaGreatDoor
open Go.RowKit
set_option maxHeartbeats 4000000
set_option maxRecDepth 20000
/-- the same data -/
theorem data_ext {a b : List (List Int)} {n : Nat} (ha : a.length = n) (hb : b.length = n) (h : ∀ (j : Nat) (x y : List Int), a[j]? = some x → b[j]? = some y → x = y) : a = b := by
 apply List.ext_getElem (by omega)
 intro i h1 h2
 exact h i a[i] b[i] (List.getElem?_eq_getElem h1) (List.getElem?_eq_getElem h2)
theorem c27 (A B : Option Addr) (n m cap cap2 : Nat) (a b : List (List Int)) (w : World) (hn : n ≤ 1000000) (hm : m ≤ 1000000) (hal : ∀ x, x ∈ a → x.length ≤ 1000000) (hbl : ∀ x, x ∈ b → x.length ≤ 1000000) (H : RdD w A n a) (G : RdD w B m b) :
  Calls Tryz.prog 27 #[.slice A n cap, .slice B m cap2] w fun en w' => en = .returned (.bool (decide (a = b))) ∧ Below w.heap.size w w' := by
 have HAL := Lib.hid H.len
 have HBL := Lib.hid G.len
 by_cases hnm : n = m
 rotate_left
 ·have hne : ((n : Int) != (m : Int)) = true := by simp; omega
  have hab : decide (a = b) = false := by
   simp only [decide_eq_false_iff_not]
   intro e
   have h1 := HAL.out; have h2 := HBL.out
   rw [e] at h1; omega
  rw [hab]
  go_enter Tryz.func27, Tryz.ntmps27
  go_wp2
  go_ret
  exact ⟨rfl, Below.refl _ _⟩
 subst hnm
 have hne : ((n : Int) != (n : Int)) = false := by simp
 obtain ⟨V, hV⟩ : ∃ V, V = decide (a = b) := ⟨_, rfl⟩
 rw [← hV]
 have HV := Lib.hid hV
 have HA0 := Lib.hid H
 have HG0 := Lib.hid G
 have HXA := Lib.hid hal
 have HXB := Lib.hid hbl
 clear hV H G hal hbl
 go_enter Tryz.func27, Tryz.ntmps27
 go_wp2_with fail
 go_loopw [5] (fun i wr => ∃ k : Nat, k ≤ n ∧ i = .int .i64 k ∧ Hid (∀ (j : Nat) (x y : List Int), j < k → a[j]? = some x → b[j]? = some y → x = y) ∧ Hid (Below w.heap.size w wr)) (fun i _ => n - (intOf i).toNat)
 case atStart => exact ⟨0, Nat.zero_le _, rfl, Lib.hid (fun j _ _ h => absurd h (Nat.not_lt_zero j)), Lib.hid (Below.refl _ _)⟩
 case round =>
  obtain ⟨k, hk, rfl, HC, HB⟩ := hrel
  have hwk : IntKind.i64.wrap ((k : Int) + 1) = ((k + 1 : Nat) : Int) := by rw [wrapI (by omega)]; simp
  by_cases hlt : k < n
  rotate_left
  ·obtain rfl : n = k := by omega
   have HT : Hid (V = true) := Lib.hid (by
    rw [HV.out]
    simp only [decide_eq_true_eq]
    refine data_ext HAL.out HBL.out (fun j x y h1 h2 => HC.out j x y ?_ h1 h2)
    have : j < a.length := by
     by_cases h : j < a.length
     ·exact h
     ·rw [List.getElem?_eq_none (by omega)] at h1; cases h1
    rw [HAL.out] at this; exact this)
   go_wp2
   go_ret
   exact ⟨by rw [HT.out]; rfl, HB.out⟩
  have hkm2 : (k : Int) < (n : Int) := by omega
  have hk02 : (0 : Int) ≤ (k : Int) := by omega
  obtain ⟨xb, xoff, x, xa, xc, rfl, hx, hxb, hxcell, hrx⟩ := (HA0.out.below HB.out).at hlt
  obtain ⟨yb, yoff, y, ya, yc, rfl, hy, hyb, hycell, hry⟩ := (HG0.out.below HB.out).at hlt
  have HX := Lib.hid hx
  have HY := Lib.hid hy
  have HLX := Lib.hid (HXA.out x (List.mem_of_getElem? hx))
  have HLY := Lib.hid (HXB.out y (List.mem_of_getElem? hy))
  clear hx hy
  obtain ⟨w0, hw0⟩ : ∃ W, W = wr := ⟨_, rfl⟩
  subst hw0
  go_wp2
  refine wp_region_plan [(0, true), (1, true), (2, true), (3, true), (4, true), (5, true), (6, true), (7, true), (8, false), (9, true)] w0.heap.size (by kernel_rfl) (by kernel_rfl) (Nat.le_refl _) (fun _ _ d _ _ h => by cases d <;> exact h) ?_
  have hC : Below w0.heap.size w0 w0 := Below.refl _ _
  repeat (first | (refine wpPlanA_skip _ rfl (by rfl) ?_; simp only [Act.put, List.setIfInBounds_toArray, List.set_cons_zero, List.set_cons_succ]) | (refine wpPlanA_soft _ ?_ rfl (by rfl) ?_ ?_; rotate_left; (intro wq hq hcq; go_simp; first | exact rfl | exact ⟨rfl, rfl⟩); simp only [Act.put, List.setIfInBounds_toArray, List.set_cons_zero, List.set_cons_succ]))
  refine wpPlanA_hard _ rfl (by rfl) (fun w1 hS K hK => ?_)
  have hrx1 := hrx.below hS
  have hry1 := hry.below hS
  replace hC := hC.call hS rfl
  go_simp
  refine (c30 xa ya x.length y.length xc yc x y w1 HLX.out HLY.out hrx1 hry1).mono ?_
  rintro e w2 ⟨rfl, hb⟩
  replace hC := hC.call hb rfl
  refine hK _ _ hC ?_
  clear hK K hb hS hrx1 hry1
  try simp only [Act.put, List.setIfInBounds_toArray, List.set_cons_zero, List.set_cons_succ]
  repeat (first | (refine wpPlanA_skip _ rfl (by rfl) ?_; simp only [Act.put, List.setIfInBounds_toArray, List.set_cons_zero, List.set_cons_succ]) | (refine wpPlanA_soft _ ?_ rfl (by rfl) ?_ ?_; rotate_left; (intro wq hq hcq; go_simp; first | exact rfl | exact ⟨rfl, rfl⟩); simp only [Act.put, List.setIfInBounds_toArray, List.set_cons_zero, List.set_cons_succ]))
  refine wpPlanA_nil (fun w3 hS => ?_)
  have HB3 : Hid (Below w.heap.size w w3) := Lib.hid ((HB.out.call hC rfl).call hS rfl)
  clear hC hS hrx hry hxcell hycell
  by_cases hxy : x = y
  ·have hd : decide (x = y) = true := by simp [hxy]
   rw [hd]
   have HC2 : Hid (∀ (j : Nat) (u v : List Int), j < k + 1 → a[j]? = some u → b[j]? = some v → u = v) := Lib.hid (fun j u v hj hu hv => by
    by_cases h : j = k
    ·subst h
     rw [HX.out] at hu; rw [HY.out] at hv
     cases hu; cases hv; exact hxy
    ·exact HC.out j u v (by omega) hu hv)
   clear hxy hd
   go_wp2
   go_roundw
   case rel => exact ⟨k + 1, by omega, rfl, HC2, HB3⟩
   case measure => simp [intOf]; omega
  ·have hd : decide (x = y) = false := by simp [hxy]
   rw [hd]
   have HF : Hid (V = false) := Lib.hid (by
    rw [HV.out]
    simp only [decide_eq_false_iff_not]
    intro e
    have h1 := HX.out; have h2 := HY.out
    rw [e, h2] at h1
    exact hxy (Option.some.inj h1).symm)
   clear hd
   go_wp2
   go_ret
   exact ⟨by rw [HF.out]; rfl, HB3.out⟩
end Go.Proofs.YtdimmlljjmmdbaaGreatDoor
namespace Go.Proofs.YtdimmlljjmmdbaaGreatDoor
open Go.RowKit
set_option maxHeartbeats 4000000
set_option maxRecDepth 20000
theorem c86 (w : World) : Calls Tryz.prog 86 #[] w fun en w' => ∃ g, en = .returned (.agg #[.int .i64 2, .int .i64 2, .slice (some ⟨g, 0, none⟩) 4 4]) ∧ RdI w' (some ⟨g, 0, none⟩) 4 [1, 2, 3, 4] ∧ Below w.heap.size w w' := by
 go_enter Tryz.func86, Tryz.ntmps86
 go_wp2_with fail
 exact bodyPost_ret (results_blk rfl rfl (heap_old (by simp) (heap_new rfl)) _ Tryz.underlying35 rfl (by kernel_rfl)) rfl ⟨w.heap.size + 1, rfl, RdS.of_new (cs := encI [1, 2, 3, 4]) (by simp) rfl, below2 _ _ _⟩
theorem c87 (m : Int) (w : World) : Calls Tryz.prog 87 #[.int .i64 m] w fun en w' => ∃ g, en = .returned (.agg #[.int .i64 5, .int .i64 6, .int .i64 m, .slice (some ⟨g, 0, none⟩) 1 1]) ∧ RdP w' (some ⟨g, 0, none⟩) 1 [⟨0, 1, false⟩] ∧ Below w.heap.size w w' := by
 go_enter Tryz.func87, Tryz.ntmps87
 go_wp2_with fail
 exact bodyPost_ret (results_blk rfl rfl (heap_old (by simp) (heap_new rfl)) _ Tryz.underlying39 rfl (by kernel_rfl)) rfl ⟨w.heap.size + 1, rfl, RdS.of_new (cs := [.int .i64 0, .int .i64 1, .bool false]) (by simp) rfl, below2 _ _ _⟩
theorem c88 (w : World) : Calls Tryz.prog 88 #[] w fun en w' => ∃ g, en = .returned (.slice (some ⟨g, 0, none⟩) 1 1) ∧ RdD w' (some ⟨g, 0, none⟩) 1 [[0, 5, 0, 0, 7, 9]] ∧ Below w.heap.size w w' := by
 go_enter Tryz.func88, Tryz.ntmps88
 go_wp2_with fail
 go_ret
 refine ⟨w.heap.size + 1, rfl, ⟨[.slice (some ⟨w.heap.size, 0, none⟩) 6 6], RdS.of_new (cs := [.slice (some ⟨w.heap.size, 0, none⟩) 6 6]) (by simp) rfl, rfl, fun k x hx => ?_⟩, below2 _ _ _⟩
 have h1 : RdI (w.alloc (Obj.cells (encI [0, 5, 0, 0, 7, 9]).toArray 3)) (some ⟨w.heap.size, 0, none⟩) 6 [0, 5, 0, 0, 7, 9] := RdS.of_new (cs := encI [0, 5, 0, 0, 7, 9]) rfl rfl
 have h2 := h1.below ((Below.refl (w.alloc (Obj.cells (encI [0, 5, 0, 0, 7, 9]).toArray 3)).heap.size _).alloc (Nat.le_refl _) (Obj.cells #[.slice (some ⟨w.heap.size, 0, none⟩) 6 6] 22))
 match k, hx with
 | 0, hx =>
  obtain rfl : [0, 5, 0, 0, 7, 9] = x := by simpa using hx
  exact ⟨_, 6, rfl, h2⟩
 | k + 1, hx => simp at hx
end Go.Proofs.YtdimmlljjmmdbaaGreatDoor
