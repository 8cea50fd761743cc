/- A part of the proofs about chapter 7 (image): contracts of functions and plain laws (V17, V18, V19, V20, V21, V22). -/
import Derived.BigRegion
import Derived.Scope
import Derived.Test.YtdimmlljjmmdbaaGreatDoorZ14a
import Derived.Test.YtdimmlljjmmdbaaGreatDoorZ14c
set_option linter.all false
namespace Go.Proofs.YtdimmlljjmmdbaaGreatDoor
open Go.RowKit Go.Shelf
set_option maxHeartbeats 8000000
set_option maxRecDepth 100000
attribute [local go_sem] Oper.semAt_some
/-- a cell of a list of integers, with its block -/
theorem RdI.cellA {w : World} {A : Option Addr} {n : Nat} {l : List Int} (h : RdI w A n l) (hn : 0 < n) : ∃ b off, A = some ⟨b, off, none⟩ ∧ ∀ W, Below w.heap.size w W → b < W.heap.size ∧ ∀ k, k < n → W.cell? ⟨b, off + k, none⟩ = some (.int .i64 (Im.at0 l k)) := by
 obtain ⟨b, off, rfl, hb⟩ := h.form hn
 exact ⟨b, off, rfl, fun W hW => ⟨Nat.lt_of_lt_of_le hb hW.size, fun k hk => (h.below hW).get hk⟩⟩
theorem c141 (c r : Nat) (A : Option Addr) (n cap : Nat) (l : List Int) (C : Option Addr) (capn : Nat) (ns : List Int) (most : Int) (i : Nat) (w : World) (g : Im.Gr c r l) (hc : c ≤ 16) (hr : r ≤ 16) (hi : i < n) (H : RdI w A n l) (G : RdI w C n ns) (hns : ∀ k, k < n → 0 ≤ Im.at0 ns k ∧ Im.at0 ns k ≤ 1000000) (hst : Steps w) :
  Calls Tryz.prog 141 #[.agg #[.int .i64 c, .int .i64 r, .slice A n cap], .slice C n capn, .int .i64 most, .int .i64 i] w fun en w' => en = .returned (.bool (Im.alia c l ns most i)) ∧ Below w.heap.size w w' := by
 have hln := H.len
 obtain ⟨T, hT⟩ : ∃ T : Nat × Int → Bool, T = fun e => Im.straight c i e.1 && decide (most < max (Im.at0 ns e.1 - Im.at0 ns i) (Im.at0 ns i - Im.at0 ns e.1)) := ⟨_, rfl⟩
 have HV : Hid (Im.alia c l ns most i = (Im.nbs c r l i).any T) := Lib.hid (by rw [hT]; exact Im.alia_nbs g (by omega))
 obtain ⟨V, hV⟩ : ∃ V, V = Im.alia c l ns most i := ⟨_, rfl⟩
 rw [← hV] at HV ⊢
 obtain ⟨nb, noff, rfl, HN⟩ := G.cellA (by omega)
 have h256 : c * r ≤ 256 := Nat.mul_le_mul hc hr
 have hn256 : n ≤ 256 := by rw [← hln, g.len]; exact h256
 have HNS := Lib.hid hns
 have HT := Lib.hid hT
 have HNN := Lib.hid HN
 have HAL : Hid (i < l.length) := Lib.hid (by omega)
 clear hns hT hV h256 HN G
 refine (callsIn_wide (n := 6)).1 ?_
 refine callsIn_of_wp_marks Tryz.func141 rfl trivial ?_ rfl
 refine wpIn_wide.2 ?_
 simp only [Tryz.ntmps141, List.size_toArray, List.length_cons, List.length_nil, Nat.reduceAdd, Nat.reduceSub, Array.replicate_succ, Array.replicate_zero, List.push_toArray, List.append_toArray, List.nil_append, List.cons_append]
 obtain ⟨w0, hw0⟩ : ∃ W, W = ((((w.alloc (Obj.cells #[.int .i64 c, .int .i64 r, .slice A n cap] 35)).alloc (Obj.cells #[.slice (some ⟨nb, noff, none⟩) n capn] 22)).alloc (Obj.cells #[.int .i64 most] 3)).alloc (Obj.cells #[.int .i64 i] 3)).alloc (Obj.cells #[.bool false] 4) := ⟨_, rfl⟩
 obtain ⟨gb, hgb⟩ : ∃ b, b = w.heap.size := ⟨_, rfl⟩
 have hg0 : w0.heap[gb]? = some (.cells #[.int .i64 c, .int .i64 r, .slice A n cap] 35 (0, 0)) := by rw [hw0]; exact heap_old (by simp; try omega) (heap_old (by simp; try omega) (heap_old (by simp; try omega) (heap_old (by simp; try omega) (heap_new (by omega)))))
 have hg1 : w0.heap[gb + 1]? = some (.cells #[.slice (some ⟨nb, noff, none⟩) n capn] 22 (0, 0)) := by rw [hw0]; exact heap_old (by simp; try omega) (heap_old (by simp; try omega) (heap_old (by simp; try omega) (heap_new (by simp; try omega))))
 have hg2 : w0.heap[gb + 1 + 1]? = some (.cells #[.int .i64 most] 3 (0, 0)) := by rw [hw0]; exact heap_old (by simp; try omega) (heap_old (by simp; try omega) (heap_new (by simp; try omega)))
 have hg3 : w0.heap[gb + 1 + 1 + 1]? = some (.cells #[.int .i64 i] 3 (0, 0)) := by rw [hw0]; exact heap_old (by simp; try omega) (heap_new (by simp; try omega))
 have hg4 : w0.heap[gb + 1 + 1 + 1 + 1]? = some (.cells #[.bool false] 4 (0, 0)) := by rw [hw0]; exact heap_new (by simp; try omega)
 have hB0 : Below w.heap.size w w0 := by rw [hw0]; exact ((((below2 _ _ _).alloc (by simp; try omega) _).alloc (by simp; try omega) _).alloc (by simp; try omega) _)
 go_wp2_with fail
 rw [← hw0, ← hgb]
 refine (c128 c r A n cap (i : Nat) w0).mono ?_
 rintro e w1 ⟨rfl, hw1⟩
 have hB1 : Below w0.heap.size w0 w1 := by rw [hw1]; exact below2 _ _ _
 obtain ⟨pg, hpg⟩ : ∃ p, p = w0.heap.size := ⟨_, rfl⟩
 have hpe : pg = gb + 1 + 1 + 1 + 1 + 1 := by rw [hpg, hw0]; simp; omega
 have KG : w1.heap[pg]? = some (.cells #[.int .i64 c, .int .i64 r, .slice A n cap] 35 (0, 0)) := by rw [hw1]; exact heap_old (by simp; omega) (heap_new hpg)
 have KI : w1.heap[pg + 1]? = some (.cells #[.int .i64 i] 3 (0, 0)) := by rw [hw1]; exact heap_new (by simp; omega)
 obtain ⟨bs, hbs⟩ : ∃ bs : Bool → List (Nat × Array Value × TypeId), bs = fun x => [(gb, #[.int .i64 c, .int .i64 r, .slice A n cap], 35), (gb + 1, #[.slice (some ⟨nb, noff, none⟩) n capn], 22), (gb + 1 + 1, #[.int .i64 most], 3), (gb + 1 + 1 + 1, #[.int .i64 i], 3), (gb + 1 + 1 + 1 + 1, #[.bool x], 4), (pg, #[.int .i64 c, .int .i64 r, .slice A n cap], 35), (pg + 1, #[.int .i64 (i : Nat)], 3)] := ⟨_, rfl⟩
 have I0 : BI w [] (bs false) (∀ e ∈ ([] : List (Nat × Int)), T e = false) w1 := by
  refine ⟨Marks.nil _ _, fun x hx => ?_, hB0.call hB1 rfl, fun e he => by cases he⟩
  rw [hbs] at hx
  simp only [List.mem_cons, List.not_mem_nil, or_false] at hx
  rcases hx with rfl | rfl | rfl | rfl | rfl | rfl | rfl
  ·exact blkb hg0 hB1
  ·exact blkb hg1 hB1
  ·exact blkb hg2 hB1
  ·exact blkb hg3 hB1
  ·exact blkb hg4 hB1
  ·exact KG
  ·exact KI
 have hsz := (hB0.call hB1 rfl).size
 rw [← hpg]
 have HRD := Lib.hid H
 have HST := Lib.hid hst
 have HBS := Lib.hid hbs
 have hgb2 := Lib.hid hgb
 have HPE := Lib.hid hpe
 have HBL := Lib.hid (hB0.call hB1 rfl)
 clear hw1 hw0 hpg hg0 hg1 hg2 hg3 hg4 hB0 hB1 KG KI H hst hbs hgb hpe 
 go_wp2
 refine (wpIn_wide (n := 6)).1 ?_
 refine wpIn_nbs (n := 6) (by omega) (pi := pg + 1) (pg := pg) g hc hr (A := A) (N := n) (cap := cap) (i := i) HAL.out rfl rfl .ret (fun pre W => BI w [] (bs false) (∀ e ∈ pre, T e = false) W) (fun W => BI w [] (bs true) (V = true) W)
  (fun pre => BI.own hsz (fun _ h => by cases h)) (BI.own hsz (fun _ h => by cases h))
  (fun pre W h => ⟨h.blk (pg + 1, _, _) (by rw [HBS.out]; simp), h.blk (pg, _, _) (by rw [HBS.out]; simp), HRD.out.below h.bel, HST.out.below h.bel⟩) I0 ?a1 ?assign ?body ?done ?stop
 case assign =>
  intro lr y W K hK
  have HK := Lib.hid hK
  clear hK
  gi_wp2
  exact HK.out
 case stop =>
  intro D W hD hX hK
  have k2 : W.heap[gb + 1 + 1 + 1 + 1]? = some (.cells #[.bool true] 4 (0, 0)) := hX.blk (gb + 1 + 1 + 1 + 1, _, _) (by rw [HBS.out]; simp)
  have HX := Lib.hid hX
  clear hX
  gi_wp2
  refine leaves_marks [D] W W ((Marks.nil _ w).push (Marks.nil _ W) (Nat.le_refl _) (Nat.le_trans hsz hD) hK) (Aft.refl _ _) rfl (fun w' ha => ?_)
  have e2 : w'.cell? ⟨gb + 1 + 1 + 1 + 1, 0, none⟩ = some (.bool true) := cell_at (ha.1 _ _ k2 rfl) rfl
  refine ⟨.bool true, by simp [results, Tryz.results141, go_sem, e2], ?_⟩
  exact ⟨by rw [HX.out.prop], ha.2 w HX.out.bel.size HX.out.bel⟩
 case done =>
  intro D W hD hI hK
  have hV0 : V = false := by
   rw [HV.out, List.any_eq_false]
   intro e he
   simp [hI.prop e he]
  have k2 : W.heap[gb + 1 + 1 + 1 + 1]? = some (.cells #[.bool false] 4 (0, 0)) := hI.blk (gb + 1 + 1 + 1 + 1, _, _) (by rw [HBS.out]; simp)
  have HI := Lib.hid hI
  have f2 := free_at k2 (i := 0)
  have c2 : W.cell? ⟨gb + 1 + 1 + 1 + 1, 0, none⟩ = some (.bool false) := cell_at k2 rfl
  have l2 := cell_lt c2
  have hM : Marks w.heap.size [D] W := (Marks.nil _ w).push (Marks.nil _ W) (Nat.le_refl _) (Nat.le_trans hsz hD) hK
  have HM := Lib.hid hM
  clear hI hM hK
  go_wp2
  have hbn : w.heap.size ≤ gb := by have := hgb2.out; omega
  have hi3 := HI.out.set (b := gb + 1 + 1 + 1 + 1) (bs' := bs false) (.bool false) (by omega) k2 (fun x hx => by
   rw [HBS.out] at hx ⊢
   simp only [List.mem_cons, List.not_mem_nil, or_false] at hx
   have := HPE.out
   rcases hx with rfl | rfl | rfl | rfl | rfl | rfl | rfl <;> first | exact .inl ⟨rfl, rfl, rfl⟩ | exact .inr ⟨by show _ ≠ _; omega, by simp⟩)
  have hM2 : Marks w.heap.size [D] (W.setCell ⟨gb + 1 + 1 + 1 + 1, 0, none⟩ (.bool false)) := HM.out.keep (fun k o hk hcc =>
   (set_far _ (fun e => by have e2 : k = gb + 1 + 1 + 1 + 1 := e; rw [e2, k2] at hk; cases hk; cases hcc)).trans hk)
  obtain ⟨W2, hW2⟩ : ∃ V, V = W.setCell ⟨gb + 1 + 1 + 1 + 1, 0, none⟩ (.bool false) := ⟨_, rfl⟩
  rw [← hW2] at hi3 hM2 ⊢
  refine leaves_marks [D] W2 W2 hM2 (Aft.refl _ _) rfl (fun w' ha => ?_)
  have e2 : w'.cell? ⟨gb + 1 + 1 + 1 + 1, 0, none⟩ = some (.bool false) := cell_at (ha.1 _ _ (hi3.blk (gb + 1 + 1 + 1 + 1, #[.bool false], 4) (by rw [HBS.out]; simp)) rfl) rfl
  refine ⟨.bool false, by simp [results, Tryz.results141, go_sem, e2], ?_⟩
  exact ⟨by rw [hV0], ha.2 w hi3.bel.size hi3.bel⟩
 case body =>
  intro lr pre y suf W hnb hsz2 hI
  have hbn : w.heap.size ≤ gb := by have := hgb2.out; omega
  have hymem : y ∈ Im.nbs c r l i := by rw [hnb]; simp
  obtain ⟨hy1, hy2, hy3⟩ := (Im.nbs_mem g HAL.out (k := y.1) (n := y.2)).1 hymem
  have hcp := g.c1
  have hcz : ¬ c = 0 := by omega
  have hcz2 : ((c : Int) == 0) = false := by simp; omega
  have hyn : y.1 < n := by omega
  obtain ⟨hnb1, hnc⟩ := HNN.out W hI.bel
  have ny := hnc y.1 hyn
  have ni := hnc i hi
  obtain ⟨vy1, vy2⟩ := HNS.out y.1 hyn
  obtain ⟨vi1, vi2⟩ := HNS.out i hi
  have hm1 : (y.1 : Int).tmod (c : Int) = ((y.1 % c : Nat) : Int) := Int.ofNat_tmod _ _
  have hm2 : (i : Int).tmod (c : Int) = ((i % c : Nat) : Int) := Int.ofNat_tmod _ _
  have hq1 : (y.1 : Int).tdiv (c : Int) = ((y.1 / c : Nat) : Int) := Int.ofNat_tdiv _ _
  have hq2 : (i : Int).tdiv (c : Int) = ((i / c : Nat) : Int) := Int.ofNat_tdiv _ _
  have hw1 : IntKind.i64.wrap ((y.1 / c : Nat) : Int) = ((y.1 / c : Nat) : Int) := wrapN (Nat.le_trans (Nat.div_le_self _ c) (by omega))
  have hw2 : IntKind.i64.wrap ((i / c : Nat) : Int) = ((i / c : Nat) : Int) := wrapN (Nat.le_trans (Nat.div_le_self i c) (by omega))
  have hTy : T y = (decide (i % c = y.1 % c ∨ i / c = y.1 / c) && decide (most < max (Im.at0 ns y.1 - Im.at0 ns i) (Im.at0 ns i - Im.at0 ns y.1))) := by rw [HT.out]; rfl
  generalize y.1 % c = ma at hm1 hTy
  generalize i % c = mb at hm2 hTy
  generalize y.1 / c = qa at hq1 hw1 hTy
  generalize i / c = qb at hq2 hw2 hTy
  generalize Im.at0 ns y.1 = xa at ny vy1 vy2 hTy
  generalize Im.at0 ns i = xb at ni vi1 vi2 hTy
  have k1 : W.heap[gb + 1]? = some (.cells #[.slice (some ⟨nb, noff, none⟩) n capn] 22 (0, 0)) := hI.blk (gb + 1, _, _) (by rw [HBS.out]; simp)
  have k2 : W.heap[gb + 1 + 1]? = some (.cells #[.int .i64 most] 3 (0, 0)) := hI.blk (gb + 1 + 1, _, _) (by rw [HBS.out]; simp)
  have k3 : W.heap[gb + 1 + 1 + 1]? = some (.cells #[.int .i64 i] 3 (0, 0)) := hI.blk (gb + 1 + 1 + 1, _, _) (by rw [HBS.out]; simp)
  have k4 : W.heap[gb + 1 + 1 + 1 + 1]? = some (.cells #[.bool false] 4 (0, 0)) := hI.blk (gb + 1 + 1 + 1 + 1, _, _) (by rw [HBS.out]; simp)
  have kg : W.heap[pg]? = some (.cells #[.int .i64 c, .int .i64 r, .slice A n cap] 35 (0, 0)) := hI.blk (pg, _, _) (by rw [HBS.out]; simp)
  have c1 : W.cell? ⟨gb + 1, 0, none⟩ = some (.slice (some ⟨nb, noff, none⟩) n capn) := cell_at k1 rfl
  have c2 : W.cell? ⟨gb + 1 + 1, 0, none⟩ = some (.int .i64 most) := cell_at k2 rfl
  have c3 : W.cell? ⟨gb + 1 + 1 + 1, 0, none⟩ = some (.int .i64 i) := cell_at k3 rfl
  have c4 : W.cell? ⟨gb + 1 + 1 + 1 + 1, 0, none⟩ = some (.bool false) := cell_at k4 rfl
  have f4 := free_at k4 (i := 0)
  have k0 : W.heap[gb]? = some (.cells #[.int .i64 c, .int .i64 r, .slice A n cap] 35 (0, 0)) := hI.blk (gb, _, _) (by rw [HBS.out]; simp)
  have c0 : W.cell? ⟨gb, 0, none⟩ = some (.int .i64 c) := cell_at k0 rfl
  have l0 := cell_lt c0
  have l1 := cell_lt c1
  have l2 := cell_lt c2
  have l3 := cell_lt c3
  have l4 := cell_lt c4
  have HI := Lib.hid hI
  have HYM := Lib.hid hymem
  have HBN := Lib.hid hbn
  have hnx : Hid (∀ W', Below W.heap.size W W' → T y = false → ∀ a, NbPost w1.heap.size (fun W => BI w [] (bs false) (∀ e ∈ pre ++ [y], T e = false) W) (fun W => BI w [] (bs true) (V = true) W) .ret W .normal a W') := Lib.hid (fun W' hb hf a => ⟨keepsF_below hb, (HI.out.below hb).imp (fun hp e he => by
   rcases List.mem_append.1 he with he | he
   ·exact hp e he
   ·obtain rfl := List.mem_singleton.1 he
    exact hf)⟩)
  have hst2 : Hid (∀ W', Below W.heap.size W W' → T y = true → ∀ a, NbPost w1.heap.size (fun W => BI w [] (bs false) (∀ e ∈ pre ++ [y], T e = false) W) (fun W => BI w [] (bs true) (V = true) W) .ret W .ret a (W'.setCell ⟨gb + 1 + 1 + 1 + 1, 0, none⟩ (.bool true))) := Lib.hid (fun W' hb ht a => by
   have h2 := HI.out.below hb
   have kk : W'.heap[gb + 1 + 1 + 1 + 1]? = some (.cells #[.bool false] 4 (0, 0)) := h2.blk (gb + 1 + 1 + 1 + 1, _, _) (by rw [HBS.out]; simp)
   refine ⟨rfl, (keepsF_below hb).trans (keepsF_set _ kk), ?_⟩
   have hbn := HBN.out
   have h3 := h2.set (b := gb + 1 + 1 + 1 + 1) (bs' := bs true) (.bool true) (by omega) kk (fun x hx => by
    rw [HBS.out] at hx ⊢
    simp only [List.mem_cons, List.not_mem_nil, or_false] at hx
    have := HPE.out
    rcases hx with rfl | rfl | rfl | rfl | rfl | rfl | rfl <;> first | exact .inl ⟨rfl, rfl, rfl⟩ | exact .inr ⟨by show _ ≠ _; omega, by simp⟩)
   exact h3.imp (fun _ => by rw [HV.out, List.any_eq_true]; exact ⟨y, HYM.out, ht⟩))
  have HTY := Lib.hid hTy
  have dwx : IntKind.i64.wrap (xa - xb) = xa - xb := wrapI (by omega)
  have dwn : IntKind.i64.wrap (-(xa - xb)) = -(xa - xb) := wrapI (by omega)
  clear k0 k1 k2 k3 k4 kg hI hymem hnb hsz2 hy1 hy2 hy3 hTy hnc vy1 vy2 vi1 vi2 hbn
  by_cases hs1 : ma = mb
  ·have t1 : ((ma : Int) == (mb : Int)) = true := by simp; omega
   have HSS : Hid (mb = ma ∨ qb = qa) := Lib.hid (.inl hs1.symm)
   clear hs1
   gi_wp2
   refine wpIn_region_splitG 20 (by kernel_rfl) (by kernel_rfl) (by kernel_rfl) (fun ⟨_, _, h⟩ => h) ?_
   simp only [List.take_succ_cons, List.take_zero, List.drop_succ_cons, List.drop_zero]
   repeat (go_big_quiet_step ((first | fail)))
   refine wpQuiet_nil (gw_out ?_)
   intro W3 hb3
   go_wp2
   have c0 := (hb3.cell (p := ⟨gb, 0, none⟩) l0).trans c0
   have c1 := (hb3.cell (p := ⟨gb + 1, 0, none⟩) l1).trans c1
   have c2 := (hb3.cell (p := ⟨gb + 1 + 1, 0, none⟩) l2).trans c2
   have c3 := (hb3.cell (p := ⟨gb + 1 + 1 + 1, 0, none⟩) l3).trans c3
   have c4 := (hb3.cell (p := ⟨gb + 1 + 1 + 1 + 1, 0, none⟩) l4).trans c4
   have f4 := (hb3.frozen (p := ⟨gb + 1 + 1 + 1 + 1, 0, none⟩) l4).trans f4
   have ny := (hb3.cell (p := ⟨nb, _, none⟩) hnb1).trans ny
   have ni := (hb3.cell (p := ⟨nb, _, none⟩) hnb1).trans ni
   have l0 := cell_lt c0
   have l1 := cell_lt c1
   have l2 := cell_lt c2
   have l3 := cell_lt c3
   have l4 := cell_lt c4
   have hnb1 := cell_lt ny
   gi_wp2
   refine wpIn_region_splitG 9 (by kernel_rfl) (by kernel_rfl) (by kernel_rfl) (fun ⟨_, _, h⟩ => h) ?_
   simp only [List.take_succ_cons, List.take_zero, List.drop_succ_cons, List.drop_zero]
   repeat (go_big_quiet_step ((first | fail)))
   refine wpQuiet_nil (gw_out ?_)
   intro W4 hb4
   go_wp2
   have c0 := (hb4.cell (p := ⟨gb, 0, none⟩) l0).trans c0
   have c1 := (hb4.cell (p := ⟨gb + 1, 0, none⟩) l1).trans c1
   have c2 := (hb4.cell (p := ⟨gb + 1 + 1, 0, none⟩) l2).trans c2
   have c3 := (hb4.cell (p := ⟨gb + 1 + 1 + 1, 0, none⟩) l3).trans c3
   have c4 := (hb4.cell (p := ⟨gb + 1 + 1 + 1 + 1, 0, none⟩) l4).trans c4
   have f4 := (hb4.frozen (p := ⟨gb + 1 + 1 + 1 + 1, 0, none⟩) l4).trans f4
   have ny := (hb4.cell (p := ⟨nb, _, none⟩) hnb1).trans ny
   have ni := (hb4.cell (p := ⟨nb, _, none⟩) hnb1).trans ni
   have l0 := cell_lt c0
   have l1 := cell_lt c1
   have l2 := cell_lt c2
   have l3 := cell_lt c3
   have l4 := cell_lt c4
   have hnb1 := cell_lt ny
   have hbb : Below W.heap.size W W4 := hb3.call hb4 rfl
   clear hb3 hb4
   by_cases hgt : most < max (xa - xb) (xb - xa)
   ·have hTt := Lib.hid (show T y = true by rw [HTY.out]; simp [HSS.out, hgt])
    have tg : decide (most < max (xa - xb) (-(xa - xb))) = true := by simp; omega
    clear hgt
    gi_wp2
    exact hst2.out W4 hbb hTt.out _
   ·have hTf := Lib.hid (show T y = false by rw [HTY.out]; simp [hgt])
    have tg : decide (most < max (xa - xb) (-(xa - xb))) = false := by simp; omega
    clear hgt
    gi_wp2
    exact hnx.out W4 hbb hTf.out _
  ·have t1 : ((ma : Int) == (mb : Int)) = false := by simp; omega
   by_cases hs2 : qa = qb
   ·have t2 : ((qa : Int) == (qb : Int)) = true := by simp; omega
    have HSS : Hid (mb = ma ∨ qb = qa) := Lib.hid (.inr hs2.symm)
    clear hs1 hs2
    gi_wp2
    refine wpIn_region_splitG 20 (by kernel_rfl) (by kernel_rfl) (by kernel_rfl) (fun ⟨_, _, h⟩ => h) ?_
    simp only [List.take_succ_cons, List.take_zero, List.drop_succ_cons, List.drop_zero]
    repeat (go_big_quiet_step ((first | fail)))
    refine wpQuiet_nil (gw_out ?_)
    intro W3 hb3
    go_wp2
    have c0 := (hb3.cell (p := ⟨gb, 0, none⟩) l0).trans c0
    have c1 := (hb3.cell (p := ⟨gb + 1, 0, none⟩) l1).trans c1
    have c2 := (hb3.cell (p := ⟨gb + 1 + 1, 0, none⟩) l2).trans c2
    have c3 := (hb3.cell (p := ⟨gb + 1 + 1 + 1, 0, none⟩) l3).trans c3
    have c4 := (hb3.cell (p := ⟨gb + 1 + 1 + 1 + 1, 0, none⟩) l4).trans c4
    have f4 := (hb3.frozen (p := ⟨gb + 1 + 1 + 1 + 1, 0, none⟩) l4).trans f4
    have ny := (hb3.cell (p := ⟨nb, _, none⟩) hnb1).trans ny
    have ni := (hb3.cell (p := ⟨nb, _, none⟩) hnb1).trans ni
    have l0 := cell_lt c0
    have l1 := cell_lt c1
    have l2 := cell_lt c2
    have l3 := cell_lt c3
    have l4 := cell_lt c4
    have hnb1 := cell_lt ny
    gi_wp2
    refine wpIn_region_splitG 9 (by kernel_rfl) (by kernel_rfl) (by kernel_rfl) (fun ⟨_, _, h⟩ => h) ?_
    simp only [List.take_succ_cons, List.take_zero, List.drop_succ_cons, List.drop_zero]
    repeat (go_big_quiet_step ((first | fail)))
    refine wpQuiet_nil (gw_out ?_)
    intro W4 hb4
    go_wp2
    have c0 := (hb4.cell (p := ⟨gb, 0, none⟩) l0).trans c0
    have c1 := (hb4.cell (p := ⟨gb + 1, 0, none⟩) l1).trans c1
    have c2 := (hb4.cell (p := ⟨gb + 1 + 1, 0, none⟩) l2).trans c2
    have c3 := (hb4.cell (p := ⟨gb + 1 + 1 + 1, 0, none⟩) l3).trans c3
    have c4 := (hb4.cell (p := ⟨gb + 1 + 1 + 1 + 1, 0, none⟩) l4).trans c4
    have f4 := (hb4.frozen (p := ⟨gb + 1 + 1 + 1 + 1, 0, none⟩) l4).trans f4
    have ny := (hb4.cell (p := ⟨nb, _, none⟩) hnb1).trans ny
    have ni := (hb4.cell (p := ⟨nb, _, none⟩) hnb1).trans ni
    have l0 := cell_lt c0
    have l1 := cell_lt c1
    have l2 := cell_lt c2
    have l3 := cell_lt c3
    have l4 := cell_lt c4
    have hnb1 := cell_lt ny
    have hbb : Below W.heap.size W W4 := hb3.call hb4 rfl
    clear hb3 hb4
    by_cases hgt : most < max (xa - xb) (xb - xa)
    ·have hTt := Lib.hid (show T y = true by rw [HTY.out]; simp [HSS.out, hgt])
     have tg : decide (most < max (xa - xb) (-(xa - xb))) = true := by simp; omega
     clear hgt
     gi_wp2
     exact hst2.out W4 hbb hTt.out _
    ·have hTf := Lib.hid (show T y = false by rw [HTY.out]; simp [hgt])
     have tg : decide (most < max (xa - xb) (-(xa - xb))) = false := by simp; omega
     clear hgt
     gi_wp2
     exact hnx.out W4 hbb hTf.out _
   ·have t2 : ((qa : Int) == (qb : Int)) = false := by simp; omega
    have hTf := Lib.hid (show T y = false by
     rw [HTY.out]
     have : ¬ (mb = ma ∨ qb = qa) := by omega
     simp [this])
    clear hs1 hs2
    gi_wp2
    refine wpIn_region_splitG 20 (by kernel_rfl) (by kernel_rfl) (by kernel_rfl) (fun ⟨_, _, h⟩ => h) ?_
    simp only [List.take_succ_cons, List.take_zero, List.drop_succ_cons, List.drop_zero]
    repeat (go_big_quiet_step ((first | fail)))
    refine wpQuiet_nil (gw_out ?_)
    intro W3 hb3
    go_wp2
    have c0 := (hb3.cell (p := ⟨gb, 0, none⟩) l0).trans c0
    have c1 := (hb3.cell (p := ⟨gb + 1, 0, none⟩) l1).trans c1
    have c2 := (hb3.cell (p := ⟨gb + 1 + 1, 0, none⟩) l2).trans c2
    have c3 := (hb3.cell (p := ⟨gb + 1 + 1 + 1, 0, none⟩) l3).trans c3
    have c4 := (hb3.cell (p := ⟨gb + 1 + 1 + 1 + 1, 0, none⟩) l4).trans c4
    have f4 := (hb3.frozen (p := ⟨gb + 1 + 1 + 1 + 1, 0, none⟩) l4).trans f4
    have ny := (hb3.cell (p := ⟨nb, _, none⟩) hnb1).trans ny
    have ni := (hb3.cell (p := ⟨nb, _, none⟩) hnb1).trans ni
    have l0 := cell_lt c0
    have l1 := cell_lt c1
    have l2 := cell_lt c2
    have l3 := cell_lt c3
    have l4 := cell_lt c4
    have hnb1 := cell_lt ny
    gi_wp2
    refine wpIn_region_splitG 9 (by kernel_rfl) (by kernel_rfl) (by kernel_rfl) (fun ⟨_, _, h⟩ => h) ?_
    simp only [List.take_succ_cons, List.take_zero, List.drop_succ_cons, List.drop_zero]
    repeat (go_big_quiet_step ((first | fail)))
    refine wpQuiet_nil (gw_out ?_)
    intro W4 hb4
    go_wp2
    have c0 := (hb4.cell (p := ⟨gb, 0, none⟩) l0).trans c0
    have c1 := (hb4.cell (p := ⟨gb + 1, 0, none⟩) l1).trans c1
    have c2 := (hb4.cell (p := ⟨gb + 1 + 1, 0, none⟩) l2).trans c2
    have c3 := (hb4.cell (p := ⟨gb + 1 + 1 + 1, 0, none⟩) l3).trans c3
    have c4 := (hb4.cell (p := ⟨gb + 1 + 1 + 1 + 1, 0, none⟩) l4).trans c4
    have f4 := (hb4.frozen (p := ⟨gb + 1 + 1 + 1 + 1, 0, none⟩) l4).trans f4
    have ny := (hb4.cell (p := ⟨nb, _, none⟩) hnb1).trans ny
    have ni := (hb4.cell (p := ⟨nb, _, none⟩) hnb1).trans ni
    have l0 := cell_lt c0
    have l1 := cell_lt c1
    have l2 := cell_lt c2
    have l3 := cell_lt c3
    have l4 := cell_lt c4
    have hnb1 := cell_lt ny
    have hbb : Below W.heap.size W W4 := hb3.call hb4 rfl
    clear hb3 hb4
    gi_wp2
    exact hnx.out W4 hbb hTf.out _
end Go.Proofs.YtdimmlljjmmdbaaGreatDoor
namespace Go.Proofs.YtdimmlljjmmdbaaGreatDoor
open Go.RowKit Go.Shelf
set_option maxHeartbeats 8000000
set_option maxRecDepth 100000
attribute [local go_sem] Oper.semAt_some
theorem feas_nbs {c r : Nat} {l u : List Int} (g : Im.Gr c r l) : (∀ i, i < l.length → ∀ e ∈ Im.nbs c r l i, Im.at0 u i - Im.at0 u e.1 ≤ e.2) ↔ Im.Feas c l u := by
 constructor
 ·intro h a b ha hb hc
  have := h b hb (a, Im.cost c l b a) ((Im.nbs_mem g hb).2 ⟨ha, rfl, by rw [Im.cost_comm]; exact hc⟩)
  simp only at this
  rw [Im.cost_comm c l b a] at this
  omega
 ·rintro h i hi ⟨k, m⟩ he
  obtain ⟨h1, h2, h3⟩ := (Im.nbs_mem g hi).1 he
  have := h k i h1 hi (by rw [Im.cost_comm]; exact h3)
  rw [Im.cost_comm] at this
  simp only
  omega
theorem c132 (c r : Nat) (A : Option Addr) (n cap : Nat) (l : List Int) (C : Option Addr) (capu : Nat) (u : List Int) (w : World) (g : Im.Gr c r l) (hc : c ≤ 16) (hr : r ≤ 16) (H : RdI w A n l) (U : RdI w C n u) (hu : ∀ k, k < n → -1000000000 ≤ Im.at0 u k ∧ Im.at0 u k ≤ 1000000000) (hst : Steps w) :
  Calls Tryz.prog 132 #[.agg #[.int .i64 c, .int .i64 r, .slice A n cap], .slice C n capu] w fun en w' => ∃ b, en = .returned (.bool b) ∧ (b = true ↔ Im.Feas c l u) ∧ Below w.heap.size w w' := by
 have hln := H.len
 have hc1 := g.c1
 have hr1 := g.r1
 have hn0 : 0 < n := by rw [← hln, g.len]; exact Nat.mul_pos hc1 hr1
 obtain ⟨nb, noff, rfl, HN⟩ := U.cellA hn0
 have h256 : c * r ≤ 256 := Nat.mul_le_mul hc hr
 have hn256 : n ≤ 256 := by rw [← hln, g.len]; exact h256
 have HNS := Lib.hid hu
 have HNN := Lib.hid HN
 have HFS := Lib.hid (feas_nbs (u := u) g)
 refine (callsIn_wide (n := 6)).1 ?_
 refine callsIn_of_wp_marks Tryz.func132 rfl trivial ?_ rfl
 refine wpIn_wide.2 ?_
 simp only [Tryz.ntmps132, List.size_toArray, List.length_cons, List.length_nil, Nat.reduceAdd, Nat.reduceSub, Array.replicate_succ, Array.replicate_zero, List.push_toArray, List.append_toArray, List.nil_append, List.cons_append]
 obtain ⟨w0, hw0⟩ : ∃ W, W = ((w.alloc (Obj.cells #[.int .i64 c, .int .i64 r, .slice A n cap] 35)).alloc (Obj.cells #[.slice (some ⟨nb, noff, none⟩) n capu] 22)).alloc (Obj.cells #[.bool false] 4) := ⟨_, rfl⟩
 obtain ⟨gb, hgb⟩ : ∃ b, b = w.heap.size := ⟨_, rfl⟩
 have hg0 : w0.heap[gb]? = some (.cells #[.int .i64 c, .int .i64 r, .slice A n cap] 35 (0, 0)) := by rw [hw0]; exact heap_old (by simp; omega) (heap_old (by simp; omega) (heap_new (by omega)))
 have hg1 : w0.heap[gb + 1]? = some (.cells #[.slice (some ⟨nb, noff, none⟩) n capu] 22 (0, 0)) := by rw [hw0]; exact heap_old (by simp; omega) (heap_new (by simp; omega))
 have hg2 : w0.heap[gb + 1 + 1]? = some (.cells #[.bool false] 4 (0, 0)) := by rw [hw0]; exact heap_new (by simp; omega)
 have hB0 : Below w.heap.size w w0 := by rw [hw0]; exact (below2 _ _ _).alloc (by simp; omega) _
 obtain ⟨bs, hbs⟩ : ∃ bs : Bool → List (Nat × Array Value × TypeId), bs = fun x => [(gb, #[.int .i64 c, .int .i64 r, .slice A n cap], 35), (gb + 1, #[.slice (some ⟨nb, noff, none⟩) n capu], 22), (gb + 1 + 1, #[.bool x], 4)] := ⟨_, rfl⟩
 have I0 : BI w [] (bs false) (∀ i, i < 0 → ∀ e ∈ Im.nbs c r l i, Im.at0 u i - Im.at0 u e.1 ≤ e.2) w0 := by
  refine ⟨Marks.nil _ _, fun x hx => ?_, hB0, fun i hi => absurd hi (Nat.not_lt_zero i)⟩
  rw [hbs] at hx
  simp only [List.mem_cons, List.not_mem_nil, or_false] at hx
  rcases hx with rfl | rfl | rfl
  ·exact hg0
  ·exact hg1
  ·exact hg2
 have q1 : w0.cell? ⟨gb + 1, 0, none⟩ = some (.slice (some ⟨nb, noff, none⟩) n capu) := cell_at hg1 rfl
 go_wp2_with fail
 rw [← hw0, ← hgb]
 have HRD := Lib.hid H
 have HST := Lib.hid hst
 have HBS := Lib.hid hbs
 have HGB := Lib.hid hgb
 have hbn : Hid (w.heap.size ≤ gb) := Lib.hid (by omega)
 clear hw0 hg0 hg1 hg2 hB0 H hst hbs hgb hu HN U h256 q1
 refine wp_loop (fun a' wr => ∃ (Ds : List Nat) (k : Nat), (k ≤ n ∧ BI w Ds (bs false) (∀ i, i < k → ∀ e ∈ Im.nbs c r l i, Im.at0 u i - Im.at0 u e.1 ≤ e.2) wr) ∧ a' = { tmps := #[.agg #[.int .i64 c, .int .i64 r, .slice A n cap], .slice (some ⟨nb, noff, none⟩) n capu, .pointer (some ⟨gb, 0, none⟩), .pointer (some ⟨gb + 1, 0, none⟩), .pointer (some ⟨gb + 1 + 1, 0, none⟩), a'.tmps.getD 5 undef, a'.tmps.getD 6 undef, a'.tmps.getD 7 undef, a'.tmps.getD 8 undef, .slice (some ⟨nb, noff, none⟩) n capu, .int .i64 n, .int .i64 k, a'.tmps.getD 12 undef, a'.tmps.getD 13 undef, a'.tmps.getD 14 undef, a'.tmps.getD 15 undef, a'.tmps.getD 16 undef, a'.tmps.getD 17 undef, a'.tmps.getD 18 undef, a'.tmps.getD 19 undef, a'.tmps.getD 20 undef, a'.tmps.getD 21 undef, a'.tmps.getD 22 undef, a'.tmps.getD 23 undef, a'.tmps.getD 24 undef, a'.tmps.getD 25 undef, a'.tmps.getD 26 undef, a'.tmps.getD 27 undef, a'.tmps.getD 28 undef, a'.tmps.getD 29 undef], defers := MarkL Ds }) (fun a' _ => n - (intOf (a'.tmps.getD 11 undef)).toNat) ?atStart ?round
 case atStart => exact ⟨[], 0, ⟨Nat.zero_le _, I0⟩, rfl⟩
 case round =>
  clear I0 w0
  rintro a0 wr ⟨Ds, k, ⟨hk, hI⟩, ha0⟩
  obtain ⟨u', hu'⟩ : ∃ u : Nat → Value, u = fun k => a0.tmps.getD k undef := ⟨_, rfl⟩
  have ha1 : a0 = { tmps := #[.agg #[.int .i64 c, .int .i64 r, .slice A n cap], .slice (some ⟨nb, noff, none⟩) n capu, .pointer (some ⟨gb, 0, none⟩), .pointer (some ⟨gb + 1, 0, none⟩), .pointer (some ⟨gb + 1 + 1, 0, none⟩), u' 5, u' 6, u' 7, u' 8, .slice (some ⟨nb, noff, none⟩) n capu, .int .i64 n, .int .i64 k, u' 12, u' 13, u' 14, u' 15, u' 16, u' 17, u' 18, u' 19, u' 20, u' 21, u' 22, u' 23, u' 24, u' 25, u' 26, u' 27, u' 28, u' 29], defers := MarkL Ds } := by rw [hu']; exact ha0
  clear ha0 hu'
  subst ha1
  dsimp only
  have HI := Lib.hid hI
  have k0 : wr.heap[gb]? = some (.cells #[.int .i64 c, .int .i64 r, .slice A n cap] 35 (0, 0)) := hI.blk (gb, _, _) (by rw [HBS.out]; simp)
  have k2 : wr.heap[gb + 1 + 1]? = some (.cells #[.bool false] 4 (0, 0)) := hI.blk (gb + 1 + 1, _, _) (by rw [HBS.out]; simp)
  have c0 : wr.cell? ⟨gb, 0, none⟩ = some (.int .i64 c) := cell_at k0 rfl
  have c1 : wr.cell? ⟨gb, 1, none⟩ = some (.int .i64 r) := cell_at k0 rfl
  have c2 : wr.cell? ⟨gb, 2, none⟩ = some (.slice A n cap) := cell_at k0 rfl
  have c4 : wr.cell? ⟨gb + 1 + 1, 0, none⟩ = some (.bool false) := cell_at k2 rfl
  have f4 : wr.frozen? ⟨gb + 1 + 1, 0, none⟩ = false := free_at k2
  have l0 := cell_lt c0
  have l4 := cell_lt c4
  by_cases hlt : k < n
  ·obtain ⟨hnb1, hnc⟩ := HNN.out wr hI.bel
   have nk := hnc k hlt
   obtain ⟨p, hp⟩ : ∃ p, p = Im.at0 u k := ⟨_, rfl⟩
   rw [← hp] at nk
   obtain ⟨b6, hb6⟩ : ∃ b, b = wr.heap.size := ⟨_, rfl⟩
   obtain ⟨w1, hw1⟩ : ∃ V, V = wr.alloc (Obj.cells #[.int .i64 p] 3) := ⟨_, rfl⟩
   have hB1 : Below wr.heap.size wr w1 := by rw [hw1]; exact (Below.refl _ _).alloc (Nat.le_refl _) _
   have k6 : w1.heap[b6]? = some (.cells #[.int .i64 p] 3 (0, 0)) := by rw [hw1]; exact heap_new hb6
   have HP := Lib.hid hp
   clear hnc hI k0 k2 hp
   go_wp2_with fail
   rw [← hw1]
   refine (c128 c r A n cap (k : Nat) w1).mono ?_
   rintro e w2 ⟨rfl, hw2⟩
   have hB2 : Below w1.heap.size w1 w2 := by rw [hw2]; exact below2 _ _ _
   obtain ⟨pg, hpg⟩ : ∃ p, p = w1.heap.size := ⟨_, rfl⟩
   have KG : w2.heap[pg]? = some (.cells #[.int .i64 c, .int .i64 r, .slice A n cap] 35 (0, 0)) := by rw [hw2]; exact heap_old (by simp; omega) (heap_new hpg)
   have KI : w2.heap[pg + 1]? = some (.cells #[.int .i64 k] 3 (0, 0)) := by rw [hw2]; exact heap_new (by simp; omega)
   obtain ⟨bt, hbt⟩ : ∃ bt : List (Nat × Array Value × TypeId), bt = [(b6, #[.int .i64 p], 3), (pg, #[.int .i64 c, .int .i64 r, .slice A n cap], 35), (pg + 1, #[.int .i64 k], 3)] := ⟨_, rfl⟩
   have hB12 : Below wr.heap.size wr w2 := hB1.call hB2 rfl
   have I1 : BI w Ds (bs false ++ bt) (∀ e ∈ ([] : List (Nat × Int)), p - Im.at0 u e.1 ≤ e.2) w2 := by
    have hb := HI.out.below hB12
    refine ⟨hb.mks, fun x hx => ?_, hb.bel, fun e he => by cases he⟩
    rcases List.mem_append.1 hx with hx | hx
    ·exact hb.blk x hx
    ·rw [hbt] at hx
     simp only [List.mem_cons, List.not_mem_nil, or_false] at hx
     rcases hx with rfl | rfl | rfl
     ·exact blkb k6 hB2
     ·exact KG
     ·exact KI
   have hsz := I1.bel.size
   have hbd1 : b6 ≠ gb + 1 + 1 ∧ pg ≠ gb + 1 + 1 ∧ pg + 1 ≠ gb + 1 + 1 := by have := hB1.size; omega
   have HBT := Lib.hid hbt
   have HM2 := Lib.hid I1.mks
   have HD1 := Lib.hid hbd1
   have HKL : Hid (k < l.length) := Lib.hid (by omega)
   rw [← hpg, ← hb6]
   clear hw1 hw2 hB1 hB2 hpg KG KI hB12 hbt k6 hbd1 c0 c1 c2 c4 f4 l0 l4 hnb1 nk
   go_wp2
   try rw [← hb6]
   refine (wpIn_wide (n := 6)).1 ?_
   refine wpIn_nbs (n := 6) (by omega) (pi := pg + 1) (pg := pg) g hc hr (A := A) (N := n) (cap := cap) (i := k) HKL.out rfl rfl .ret (fun pre W => BI w Ds (bs false ++ bt) (∀ e ∈ pre, p - Im.at0 u e.1 ≤ e.2) W) (fun W => BI w Ds (bs false ++ bt) (¬ Im.Feas c l u) W)
    (fun pre => BI.own hsz HM2.out.lt) (BI.own hsz HM2.out.lt)
    (fun pre W h => ⟨h.blk (pg + 1, _, _) (by rw [HBT.out]; simp), h.blk (pg, _, _) (by rw [HBT.out]; simp), HRD.out.below h.bel, HST.out.below h.bel⟩) I1 ?a1 ?assign ?body ?done ?stop
   case assign =>
    intro lr y W K hK
    have HK := Lib.hid hK
    clear hK
    gi_wp2
    exact HK.out
   case stop =>
    intro D W hD hX hK
    have k2 : W.heap[gb + 1 + 1]? = some (.cells #[.bool false] 4 (0, 0)) := hX.blk (gb + 1 + 1, _, _) (by rw [HBS.out]; simp)
    have HX := Lib.hid hX
    clear hX
    gi_wp2
    refine leaves_marks (D :: Ds) W W (HM2.out.push HX.out.mks hsz hD hK) (Aft.refl _ _) rfl (fun w' ha => ?_)
    have e2 : w'.cell? ⟨gb + 1 + 1, 0, none⟩ = some (.bool false) := cell_at (ha.1 _ _ k2 rfl) rfl
    refine ⟨.bool false, by simp [results, Tryz.results132, go_sem, e2], ?_⟩
    exact ⟨false, rfl, by simp [HX.out.prop], ha.2 w HX.out.bel.size HX.out.bel⟩
   case done =>
    intro D W hD hI2 hK
    have hI3 : BI w (D :: Ds) (bs false) (∀ i, i < k + 1 → ∀ e ∈ Im.nbs c r l i, Im.at0 u i - Im.at0 u e.1 ≤ e.2) W := by
     refine ⟨HM2.out.push hI2.mks hsz hD hK, fun x hx => hI2.blk x (List.mem_append_left _ hx), hI2.bel, fun i hi => ?_⟩
     rcases Nat.lt_or_ge i k with h | h
     ·exact HI.out.prop i h
     ·obtain rfl : i = k := by omega
      intro e he
      rw [← HP.out]
      exact hI2.prop e he
    have HI3 := Lib.hid hI3
    clear hI3 hI2 hK
    go_wp2
    refine ⟨⟨D :: Ds, k + 1, ⟨by omega, HI3.out⟩, by rfl⟩, ?_⟩
    simp [intOf]
    omega
   case body =>
    intro lr pre y suf W hnb hsz2 hI2
    have hym : y ∈ Im.nbs c r l k := by rw [hnb]; simp
    obtain ⟨hy1, hy2, hy3⟩ := (Im.nbs_mem g HKL.out (k := y.1) (n := y.2)).1 hym
    have hyn : y.1 < n := by omega
    obtain ⟨hnb1, hnc⟩ := HNN.out W hI2.bel
    have ny := hnc y.1 hyn
    obtain ⟨v1, v2⟩ := HNS.out y.1 hyn
    have hpv := HNS.out k hlt
    rw [← HP.out] at hpv
    have k1 : W.heap[gb + 1]? = some (.cells #[.slice (some ⟨nb, noff, none⟩) n capu] 22 (0, 0)) := hI2.blk (gb + 1, _, _) (by rw [HBS.out]; simp)
    have k2 : W.heap[gb + 1 + 1]? = some (.cells #[.bool false] 4 (0, 0)) := hI2.blk (gb + 1 + 1, _, _) (by rw [HBS.out]; simp)
    have k6 : W.heap[b6]? = some (.cells #[.int .i64 p] 3 (0, 0)) := hI2.blk (b6, _, _) (by rw [HBT.out]; simp)
    have c1 : W.cell? ⟨gb + 1, 0, none⟩ = some (.slice (some ⟨nb, noff, none⟩) n capu) := cell_at k1 rfl
    have c2 : W.cell? ⟨gb + 1 + 1, 0, none⟩ = some (.bool false) := cell_at k2 rfl
    have c6 : W.cell? ⟨wr.heap.size, 0, none⟩ = some (.int .i64 p) := by rw [← hb6]; exact cell_at k6 rfl
    have f2 : W.frozen? ⟨gb + 1 + 1, 0, none⟩ = false := free_at k2
    have l1 := cell_lt c1
    have l2 := cell_lt c2
    have l6 := cell_lt c6
    have HI2 := Lib.hid hI2
    have HYM := Lib.hid hym
    obtain ⟨q, hq⟩ : ∃ q, q = Im.at0 u y.1 := ⟨_, rfl⟩
    rw [← hq] at ny v1 v2
    have HQ := Lib.hid hq
    have hws : IntKind.i64.wrap (p - q) = p - q := wrapI (by omega)
    clear k1 k2 k6 hI2 hym hnb hsz2 hy1 hy2 hy3 hnc hq
    gi_wp2
    refine wpIn_region_splitG 7 (by kernel_rfl) (by kernel_rfl) (by kernel_rfl) (fun ⟨_, _, h⟩ => h) ?_
    simp only [List.take_succ_cons, List.take_zero, List.drop_succ_cons, List.drop_zero]
    repeat (go_big_quiet_step ((first | fail)))
    refine wpQuiet_nil (gw_out ?_)
    intro W3 hb3
    have c2 := (hb3.cell (p := ⟨gb + 1 + 1, 0, none⟩) l2).trans c2
    have f2 := (hb3.frozen (p := ⟨gb + 1 + 1, 0, none⟩) l2).trans f2
    have l2 := cell_lt c2
    have HB3 := Lib.hid hb3
    by_cases hgt : y.2 < p - q
    ·have hd : decide (y.2 < p - q) = true := by simpa using hgt
     have HGT := Lib.hid hgt
     clear hgt hb3
     go_wp2
     gi_wp2
     have hI3 := HI2.out.below HB3.out
     have k32 : W3.heap[gb + 1 + 1]? = some (.cells #[.bool false] 4 (0, 0)) := hI3.blk (gb + 1 + 1, _, _) (by rw [HBS.out]; simp)
     have hbn1 := hbn.out
     have hD1 := HD1.out
     have h4 : BI w Ds (bs false ++ bt) (∀ e ∈ pre, p - Im.at0 u e.1 ≤ e.2) (W3.setCell ⟨gb + 1 + 1, 0, none⟩ (.bool false)) := hI3.set (b := gb + 1 + 1) (.bool false) (by omega) k32 (fun x hx => by
      rw [HBS.out, HBT.out] at hx ⊢
      simp only [List.mem_cons, List.not_mem_nil, or_false, List.cons_append, List.nil_append] at hx
      rcases hx with rfl | rfl | rfl | rfl | rfl | rfl <;> first | exact .inl ⟨rfl, rfl, rfl⟩ | exact .inr ⟨by show _ ≠ _; omega, by simp⟩)
     refine ⟨rfl, (keepsF_below HB3.out).trans (keepsF_set _ k32), h4.imp (fun _ hf => ?_)⟩
     have := HFS.out.2 hf k HKL.out y HYM.out
     rw [← HP.out, ← HQ.out] at this
     have := HGT.out
     omega
    ·have hd : decide (y.2 < p - q) = false := by simpa using hgt
     have HGT := Lib.hid hgt
     clear hgt hb3
     go_wp2
     gi_wp2
     refine ⟨keepsF_below HB3.out, (HI2.out.below HB3.out).imp (fun hp e he => ?_)⟩
     rcases List.mem_append.1 he with he | he
     ·exact hp e he
     ·obtain rfl := List.mem_singleton.1 he
      have := HGT.out
      rw [← HQ.out]
      omega
  ·obtain rfl : k = n := by omega
   have hfe := HFS.out.1 (fun i hi => hI.prop i (by omega))
   have HF := Lib.hid hfe
   clear hI k0 hfe
   go_wp2
   have hbn1 := hbn.out
   have h3 := HI.out.set (b := gb + 1 + 1) (bs' := bs true) (.bool true) (by omega) k2 (fun x hx => by
    rw [HBS.out] at hx ⊢
    simp only [List.mem_cons, List.not_mem_nil, or_false, List.cons_append, List.nil_append] at hx
    rcases hx with rfl | rfl | rfl <;> first | exact .inl ⟨rfl, rfl, rfl⟩ | exact .inr ⟨by show _ ≠ _; omega, by simp⟩)
   obtain ⟨W2, hW2⟩ : ∃ V, V = wr.setCell ⟨gb + 1 + 1, 0, none⟩ (.bool true) := ⟨_, rfl⟩
   rw [← hW2] at h3 ⊢
   refine leaves_marks Ds W2 W2 h3.mks (Aft.refl _ _) rfl (fun w' ha => ?_)
   have e2 : w'.cell? ⟨gb + 1 + 1, 0, none⟩ = some (.bool true) := cell_at (ha.1 _ _ (h3.blk (gb + 1 + 1, #[.bool true], 4) (by rw [HBS.out]; simp)) rfl) rfl
   refine ⟨.bool true, by simp [results, Tryz.results132, go_sem, e2], ?_⟩
   exact ⟨true, rfl, by simp [HF.out], ha.2 w h3.bel.size h3.bel⟩
end Go.Proofs.YtdimmlljjmmdbaaGreatDoor
namespace Go.Proofs.YtdimmlljjmmdbaaGreatDoor
open Go.RowKit
set_option maxHeartbeats 8000000
set_option maxRecDepth 20000
namespace Mo
theorem range_ok {x lo hi : Int} : range x lo hi = 0 ↔ lo ≤ x ∧ x ≤ hi := by unfold range; split <;> omega
theorem first_zero {xs : List Int} (h : first xs = 0) : ∀ x ∈ xs, x = 0 := by
 induction xs with
 | nil => intro x hx; cases hx
 | cons a l ih =>
  rw [first_cons] at h
  by_cases ha : a = 0
  ·rw [if_neg (by simp [ha])] at h
   intro x hx
   rcases List.mem_cons.1 hx with rfl | hx
   ·exact ha
   ·exact ih h x hx
  ·rw [if_pos (by simpa using ha)] at h
   exact absurd h ha
theorem first_all {xs : List Int} (h : ∀ x ∈ xs, x = 0) : first xs = 0 := by
 induction xs with
 | nil => rfl
 | cons a l ih => rw [first_z (h a (by simp))]; exact ih (fun x hx => h x (by simp [hx]))
theorem allw_ok {l : List Int} {lo hi : Int} : allw l lo hi = 0 ↔ ∀ x ∈ l, lo ≤ x ∧ x ≤ hi := by
 unfold allw
 constructor
 ·intro h x hx
  exact range_ok.1 (first_zero h _ (List.mem_map.2 ⟨x, hx, rfl⟩))
 ·intro h
  refine first_all (fun y hy => ?_)
  obtain ⟨x, hx, rfl⟩ := List.mem_map.1 hy
  exact range_ok.2 (h x hx)
theorem when_zero {b : Bool} {e : Int} (he : e ≠ 0) : when b e = 0 ↔ b = false := by unfold when; cases b <;> simp [he]
theorem cell_ok {n i : Int} : cell n i = 0 ↔ 0 ≤ i ∧ i < n := by
 unfold cell
 rw [when_zero (by decide)]
 simp
theorem ground_ok {c r : Int} {l : List Int} (h : ground c r l = 0) : ∃ c' r' : Nat, c = c' ∧ r = r' ∧ c' ≤ 16 ∧ r' ≤ 16 ∧ Im.Gr c' r' l := by
 have hz := first_zero h
 obtain ⟨h1, h2, h3, h4⟩ := sides_ok (hz (sides c r) (by simp))
 have h5 := (when_zero (by decide)).1 (hz (when ((l.length : Int) != c * r) 2) (by simp))
 have h6 := allw_ok.1 (hz (allw l 1 100) (by simp))
 refine ⟨c.toNat, r.toNat, by omega, by omega, by omega, by omega, by omega, by omega, ?_, fun i hi => ?_, fun i hi => ?_⟩
 ·have h7 : (l.length : Int) = c * r := by simpa using h5
  obtain ⟨c', rfl⟩ : ∃ c' : Nat, c = c' := ⟨c.toNat, by omega⟩
  obtain ⟨r', rfl⟩ : ∃ r' : Nat, r = r' := ⟨r.toNat, by omega⟩
  simp only [Int.toNat_natCast]
  exact_mod_cast h7
 ·have := h6 (Im.at0 l i) (by simp [Im.at0, List.getD_eq_getElem?_getD, hi])
  omega
 ·have := h6 (Im.at0 l i) (by simp [Im.at0, List.getD_eq_getElem?_getD, hi])
  omega
theorem ground_of {c r : Nat} {l : List Int} (g : Im.Gr c r l) (hc : c ≤ 16) (hr : r ≤ 16) : ground c r l = 0 := by
 have h1 := g.c1
 have h2 := g.r1
 refine first_all (fun x hx => ?_)
 simp only [List.mem_cons, List.not_mem_nil, or_false] at hx
 rcases hx with rfl | rfl | rfl
 ·unfold sides
  refine first_all (fun x hx => ?_)
  simp only [List.mem_cons, List.not_mem_nil, or_false] at hx
  rcases hx with rfl | rfl
  ·exact range_ok.2 (by omega)
  ·exact range_ok.2 (by omega)
 ·rw [when_zero (by decide), g.len]
  simp
 ·refine allw_ok.2 (fun x hx => ?_)
  obtain ⟨i, hi, rfl⟩ := List.getElem_of_mem hx
  have a1 := g.lo i hi
  have a2 := g.hi i hi
  simp only [Im.at0, List.getD_eq_getElem?_getD, List.getElem?_eq_getElem hi, Option.getD_some] at a1 a2
  exact ⟨a1, a2⟩
end Mo
theorem take_eq_step {l m : List Int} {k : Nat} {x y : Int} (h : l.take k = m.take k) (hx : l[k]? = some x) (hy : m[k]? = some y) (he : x = y) : l.take (k + 1) = m.take (k + 1) := by
 rw [List.take_succ, List.take_succ, h, hx, hy, he]
theorem c30 (A B : Option Addr) (n m cap cap2 : Nat) (l k : List Int) (w : World) (hn : n ≤ 1000000) (hm : m ≤ 1000000) (H : RdI w A n l) (G : RdI w B m k) :
  Calls Tryz.prog 30 #[.slice A n cap, .slice B m cap2] w fun en w' => en = .returned (.bool (decide (l = k))) ∧ Below w.heap.size w w' := by
 have h1 := H.len
 have h2 := G.len
 by_cases hnm : n = m
 ·subst hnm
  obtain ⟨V, hV⟩ : ∃ V, V = decide (l = k) := ⟨_, rfl⟩
  rw [← hV]
  have HT : Hid (l.take n = k.take n → V = true) := Lib.hid (fun h => by
   rw [List.take_of_length_le (by omega), List.take_of_length_le (by omega)] at h
   rw [hV]; simpa using h)
  have HF : Hid (∀ (i : Nat) (x y : Int), l[i]? = some x → k[i]? = some y → x ≠ y → V = false) := Lib.hid (fun i x y hx hy hne => by
   rw [hV]
   simp only [decide_eq_false_iff_not]
   intro e
   rw [e, hy] at hx
   exact hne (by simpa using hx.symm))
  clear hV h1 h2
  have hnn : ((n : Int) != (n : Int)) = false := by simp
  go_enter Tryz.func30, Tryz.ntmps30
  go_wp2
  go_loopw [5] (fun i wr => ∃ j : Nat, j ≤ n ∧ i = .int .i64 j ∧ Hid (l.take j = k.take j) ∧ Below w.heap.size w wr) (fun i _ => n - (intOf i).toNat)
  case atStart => exact ⟨0, Nat.zero_le _, rfl, Lib.hid rfl, Below.refl _ _⟩
  case round =>
   obtain ⟨j, hj, rfl, he, hB⟩ := hrel
   by_cases hlt : j < n
   ·obtain ⟨b, off, x, rfl, hx, hb, h0⟩ := (H.below hB).at hlt
    obtain ⟨b2, off2, y, rfl, hy, hb2, h02⟩ := (G.below hB).at hlt
    have HX := Lib.hid hx
    have HY := Lib.hid hy
    clear hx hy
    go_wp2
    refine wp_region_growG (by kernel_rfl) (by kernel_rfl) ?_
    repeat (go_big_quiet_step ((first | fail)))
    refine wpQuiet_nil (gw_out ?_)
    intro w2 hw2
    have hB2 := fin0 hB hw2
    clear hw2
    by_cases hxy : x = y
    ·have hd : (x != y) = false := by simpa using hxy
     have HE := Lib.hid (take_eq_step he.out HX.out HY.out hxy)
     clear hxy
     go_wp2
     go_roundw
     case rel => exact ⟨j + 1, by omega, by go_num, HE, hB2⟩
     case measure => simp [intOf]; omega
    ·have hd : (x != y) = true := by simpa using hxy
     have HE := Lib.hid (HF.out j x y HX.out HY.out hxy)
     clear hxy
     go_wp2
     go_ret
     exact ⟨by rw [HE.out]; rfl, hB2⟩
   ·obtain rfl : j = n := by omega
    go_wp2
    go_ret
    exact ⟨by rw [HT.out he.out]; rfl, hB⟩
 ·have hd : ((n : Int) != (m : Int)) = true := by simp; omega
  have hne : decide (l = k) = false := by
   simp only [decide_eq_false_iff_not]
   intro e
   rw [e] at h1
   omega
  rw [hne]
  go_enter Tryz.func30, Tryz.ntmps30
  go_wp2
  go_ret
  exact ⟨rfl, Below.refl _ _⟩
end Go.Proofs.YtdimmlljjmmdbaaGreatDoor
namespace Go.Proofs.YtdimmlljjmmdbaaGreatDoor
open Go.RowKit
set_option maxHeartbeats 8000000
set_option maxRecDepth 20000
theorem first2 {a b : Int} (ha : a = 0) (hb : b = 0) : Mo.first [a, b] = 0 := Mo.first_all (by simp [ha, hb])
theorem first3 {a b c : Int} (ha : a = 0) (hb : b = 0) (hc : c = 0) : Mo.first [a, b, c] = 0 := Mo.first_all (by simp [ha, hb, hc])
theorem c58_ok (c r : Nat) (A : Option Addr) (n cap : Nat) (l : List Int) (s : Nat) (w : World) (g : Im.Gr c r l) (hc : c ≤ 16) (hr : r ≤ 16) (H : RdI w A n l) (hst : Steps w) (hs : s < n) :
  Calls Tryz.prog 58 #[.agg #[.int .i64 c, .int .i64 r, .slice A n cap], .int .i64 s] w fun en w' => ∃ og t, en = .returned (.tuple #[.slice (some ⟨og, 0, none⟩) n n, .int .i64 0]) ∧ w.heap.size ≤ og ∧ w'.heap[og]? = some (.cells (encI t).toArray 3 (0, 0)) ∧ Im.IsT c l s t ∧ Below w.heap.size w w' := by
 have hl : n ≤ 1000000 := by have := H.len; have := g.len; have : c * r ≤ 256 := Nat.mul_le_mul hc hr; omega
 have hF : Mo.first [Mo.ground c r l, Mo.cell n s] = 0 := first2 (Mo.ground_of g hc hr) (Mo.cell_ok.2 (by omega))
 obtain ⟨w0, hW⟩ : ∃ W, W = w.alloc (Obj.cells #[.int .i64 c, .int .i64 r, .slice A n cap] 35) := ⟨_, rfl⟩
 have hT0 : w0.heap[w.heap.size]? = some (.cells #[.int .i64 c, .int .i64 r, .slice A n cap] 35 (0, 0)) := by rw [hW]; exact heap_new (by simp)
 have hB0 : Below w.heap.size w w0 := by rw [hW]; exact ((Below.refl _ _).alloc (by first | omega | (simp <;> omega)) _)
 replace H := H.below hB0
 replace hst := hst.below hB0
 go_enter Tryz.func58, Tryz.ntmps58
 go_wp2_with fail
 rw [← hW]
 clear hW
 have qhT0_0 : w0.cell? ⟨w.heap.size, 0, none⟩ = some (.int .i64 c) := cell_at hT0 rfl
 have qhT0_1 : w0.cell? ⟨w.heap.size, 1, none⟩ = some (.int .i64 r) := cell_at hT0 rfl
 have qhT0_2 : w0.cell? ⟨w.heap.size, 2, none⟩ = some (.slice A n cap) := cell_at hT0 rfl
 refine wp_region_plan [(0, true), (2, true), (3, true), (1, false), (4, false), (5, false), (6, false), (7, true)] w0.heap.size (by kernel_rfl) (by kernel_rfl) (Nat.le_refl _) (fun _ _ d _ _ h => by cases d <;> exact h) ?_
 have hC : Below w0.heap.size w0 w0 := Below.refl _ _
 have zhT0 : w.heap.size < w0.heap.size := (Array.getElem?_eq_some_iff.1 hT0).1
 repeat (first | (refine wpPlanA_skip _ rfl (by rfl) ?_; simp only [Act.put, List.setIfInBounds_toArray, List.set_cons_zero, List.set_cons_succ]) | (refine wpPlanA_soft _ ?_ rfl (by rfl) ?_ ?_; rotate_left; (intro wq hq hcq; go_simp; first | exact rfl | exact ⟨rfl, rfl⟩); simp only [Act.put, List.setIfInBounds_toArray, List.set_cons_zero, List.set_cons_succ]))
 refine wpPlanA_hard _ rfl (by rfl) (fun w1 hS K hK => ?_)
 have hB1 := hB0.call hS rfl
 replace hC := hC.call hS rfl
 replace hT0 := blkb hT0 hS
 replace H := H.below hS
 replace hst := hst.below hS
 clear hS hB0
 go_simp
 refine (c64 c r A n cap l _ hl H).mono ?_
 rintro e w2 ⟨rfl, hb⟩
 have hB2 := hB1.call hb rfl
 replace hC := hC.call hb rfl
 replace hT0 := blkb hT0 hb
 replace H := H.below hb
 replace hst := hst.below hb
 clear hb hB1
 refine hK _ _ hC ?_
 clear hK K
 try simp only [Act.put, List.setIfInBounds_toArray, List.set_cons_zero, List.set_cons_succ]
 refine wpPlanA_hard _ rfl (by rfl) (fun w3 hS K hK => ?_)
 have hB3 := hB2.call hS rfl
 replace hC := hC.call hS rfl
 replace hT0 := blkb hT0 hS
 replace H := H.below hS
 replace hst := hst.below hS
 clear hS hB2
 go_simp
 refine (c97 c r A n cap s _).mono ?_
 rintro e w4 ⟨rfl, hb⟩
 have hB4 := hB3.call hb rfl
 replace hC := hC.call hb rfl
 replace hT0 := blkb hT0 hb
 replace H := H.below hb
 replace hst := hst.below hb
 clear hb hB3
 refine hK _ _ hC ?_
 clear hK K
 try simp only [Act.put, List.setIfInBounds_toArray, List.set_cons_zero, List.set_cons_succ]
 refine wpPlanA_hard _ rfl (by rfl) (fun w5 hS K hK => ?_)
 have hB5 := hB4.call hS rfl
 replace hC := hC.call hS rfl
 replace hT0 := blkb hT0 hS
 replace H := H.below hS
 replace hst := hst.below hS
 clear hS hB4
 go_simp
 have hb : Below w5.heap.size w5 (w5.alloc (Obj.cells #[.int .i64 (Mo.ground c r l), .int .i64 (Mo.cell n s)] 32)) := (Below.refl _ _).alloc (Nat.le_refl _) _
 have k1 : (w5.alloc (Obj.cells #[.int .i64 (Mo.ground c r l), .int .i64 (Mo.cell n s)] 32)).heap[w5.heap.size]? = some (Obj.cells #[.int .i64 (Mo.ground c r l), .int .i64 (Mo.cell n s)] 32) := heap_new rfl
 refine hK _ _ (hC.alloc hC.size _) ?_
 clear hK K
 replace hC := hC.call hb rfl
 have hB6 := hB5.call hb rfl
 replace hT0 := blkb hT0 hb
 replace H := H.below hb
 replace hst := hst.below hb
 clear hb hB5
 generalize hWn : w5.alloc (Obj.cells #[.int .i64 (Mo.ground c r l), .int .i64 (Mo.cell n s)] 32) = w6 at k1 hC hB6 hT0 H hst ⊢
 clear hWn
 generalize hWn : w5.heap.size = bk1 at k1 ⊢
 clear hWn
 try simp only [Act.put, List.setIfInBounds_toArray, List.set_cons_zero, List.set_cons_succ]
 refine wpPlanA_hard _ rfl (by rfl) (fun w7 hS K hK => ?_)
 have hB7 := hB6.call hS rfl
 replace hC := hC.call hS rfl
 replace hT0 := blkb hT0 hS
 replace H := H.below hS
 replace hst := hst.below hS
 replace k1 := blkb k1 hS
 clear hS hB6
 go_simp
 refine (c89 _ 2 2 [Mo.ground c r l, Mo.cell n s] _ rfl (by omega) (RdS.of_block (cs := encI [Mo.ground c r l, Mo.cell n s]) k1 rfl)).mono ?_
 rintro e w' ⟨rfl, rfl⟩
 refine hK _ _ hC ?_
 clear hK K
 try simp only [Act.put, List.setIfInBounds_toArray, List.set_cons_zero, List.set_cons_succ]
 repeat (first | (refine wpPlanA_skip _ rfl (by rfl) ?_; simp only [Act.put, List.setIfInBounds_toArray, List.set_cons_zero, List.set_cons_succ]) | (refine wpPlanA_soft _ ?_ rfl (by rfl) ?_ ?_; rotate_left; (intro wq hq hcq; go_simp; first | exact rfl | exact ⟨rfl, rfl⟩); simp only [Act.put, List.setIfInBounds_toArray, List.set_cons_zero, List.set_cons_succ]))
 clear k1
 clear qhT0_0 qhT0_1 qhT0_2
 refine wpPlanA_nil (fun w8 hS => ?_)
 clear hC zhT0
 have hB8 := hB7.call hS rfl
 replace hT0 := blkb hT0 hS
 replace H := H.below hS
 replace hst := hst.below hS
 clear hS hB7
 have qhT0_0 : w8.cell? ⟨w.heap.size, 0, none⟩ = some (.int .i64 c) := cell_at hT0 rfl
 have qhT0_1 : w8.cell? ⟨w.heap.size, 1, none⟩ = some (.int .i64 r) := cell_at hT0 rfl
 have qhT0_2 : w8.cell? ⟨w.heap.size, 2, none⟩ = some (.slice A n cap) := cell_at hT0 rfl
 rw [hF]
 clear hF
 go_wp2_with fail
 refine (c127 c r A n cap l s _ g hc hr hs H hst).mono ?_
 rintro e w9 ⟨og, t, rfl, ho, ht, hT, hb⟩
 have HOG : w.heap.size ≤ og := Nat.le_trans hB8.size ho
 clear ho
 clear qhT0_0 qhT0_1 qhT0_2
 have hS := hb
 have hB9 := hB8.call hS rfl
 replace hT0 := blkb hT0 hS
 replace H := H.below hS
 replace hst := hst.below hS
 clear hS hB8
 have qhT0_0 : w9.cell? ⟨w.heap.size, 0, none⟩ = some (.int .i64 c) := cell_at hT0 rfl
 have qhT0_1 : w9.cell? ⟨w.heap.size, 1, none⟩ = some (.int .i64 r) := cell_at hT0 rfl
 have qhT0_2 : w9.cell? ⟨w.heap.size, 2, none⟩ = some (.slice A n cap) := cell_at hT0 rfl
 clear hb
 go_wp2
 go_ret2
 exact ⟨og, t, rfl, HOG, ht, hT, hB9⟩
end Go.Proofs.YtdimmlljjmmdbaaGreatDoor
namespace Go.Proofs.YtdimmlljjmmdbaaGreatDoor
open Go.RowKit Go.Shelf
set_option maxHeartbeats 8000000
set_option maxRecDepth 100000
attribute [local go_sem] Oper.semAt_some
def encN (row : List Nat) : List Value := row.map (fun x => Value.int .i64 (x : Nat))
theorem encN_len (row : List Nat) : (encN row).length = row.length := by simp [encN]
/-- own memory of 'Path' -/
structure PW (w : World) (Ds : List Nat) (gb b10 og b11 b12 base : Nat) (c r : Nat) (A : Option Addr) (n cap : Nat) (left : List Int) (row : List Nat) (at_ : Nat) (W : World) : Prop where
 mks : Marks w.heap.size Ds W
 bel : Below w.heap.size w W
 gg : W.heap[gb]? = some (.cells #[.int .i64 c, .int .i64 r, .slice A n cap] 35 (0, 0))
 k10 : W.heap[b10]? = some (.cells #[.slice (some ⟨og, 0, none⟩) n n] 22 (0, 0))
 ko : W.heap[og]? = some (.cells (encI left).toArray 3 (0, 0))
 k12 : W.heap[b12]? = some (.cells #[.int .i64 (at_ : Nat)] 3 (0, 0))
 k11 : ∃ g cw cs, W.heap[b11]? = some (.cells #[.slice (some ⟨g, 0, none⟩) row.length cw] 22 (0, 0)) ∧ W.heap[g]? = some (.cells cs 3 (0, 0)) ∧ row.length ≤ cw ∧ cw ≤ maxLen ∧ cs.size = cw * 1 ∧ cs.toList.take (row.length * 1) = encN row ∧ base ≤ g ∧ g ≠ b12 ∧ g ≠ b11
section
variable {w W W' : World} {Ds : List Nat} {gb b10 og b11 b12 base c r : Nat} {A : Option Addr} {n cap : Nat} {left : List Int} {row : List Nat} {at_ : Nat}
theorem PW.below (h : PW w Ds gb b10 og b11 b12 base c r A n cap left row at_ W) (hb : Below W.heap.size W W') : PW w Ds gb b10 og b11 b12 base c r A n cap left row at_ W' := by
 obtain ⟨g, cw, cs, h1, h2, h3⟩ := h.k11
 exact ⟨h.mks.below hb, h.bel.call hb rfl |> fun q => q, blkb h.gg hb, blkb h.k10 hb, blkb h.ko hb, blkb h.k12 hb, g, cw, cs, blkb h1 hb, blkb h2 hb, h3⟩
theorem PW.own {B : Nat} (hB : w.heap.size ≤ B) (hD : ∀ D ∈ Ds, D < B) {row' : Option Nat} (h : PW w Ds gb b10 og b11 b12 base c r A n cap left row at_ W) (hg : W.grownBy W' row') (hr : ∀ k, row' = some k → B ≤ k ∧ ∃ o : Obj, W.heap[k]? = some o ∧ o.isCells = false) :
  PW w Ds gb b10 og b11 b12 base c r A n cap left row at_ W' := by
 have key : ∀ {k : Nat} {cs : Array Value} {t : TypeId} {f : Nat × Nat}, W.heap[k]? = some (.cells cs t f) → W'.heap[k]? = some (.cells cs t f) := fun {k cs t f} hk => by
  refine (hg.block k (Array.getElem?_eq_some_iff.1 hk).1 (fun e => ?_)).trans hk
  obtain ⟨_, o, ho, hc⟩ := hr k e.symm
  rw [hk] at ho
  cases ho
  cases hc
 obtain ⟨g, cw, cs, h1, h2, h3⟩ := h.k11
 refine ⟨⟨h.mks.1, fun D hDs => ⟨(h.mks.2 D hDs).1, ?_⟩⟩, h.bel.grown hg h.bel.size (fun j hj => by have := (hr j hj).1; omega), key h.gg, key h.k10, key h.ko, key h.k12, g, cw, cs, key h1, key h2, h3⟩
 refine (hg.block D (h.mks.lt D hDs) (fun e => ?_)).trans (h.mks.2 D hDs).2
 have := (hr D e.symm).1
 have := hD D hDs
 omega
end
theorem PW.push {w W W10 : World} {Ds : List Nat} {gb b10 og b11 b12 base c r : Nat} {A : Option Addr} {n cap : Nat} {left : List Int} {row : List Nat} {at_ : Nat} (h : PW w Ds gb b10 og b11 b12 base c r A n cap left row at_ W)
  (hO : gb < og ∧ w.heap.size ≤ gb ∧ og < b10 ∧ base = b10 + 1 ∧ b11 = b10 + 2 ∧ b12 = b10 + 3) {gr cw : Nat} (k11 : W.heap[b11]? = some (.cells #[.slice (some ⟨gr, 0, none⟩) row.length cw] 22 (0, 0))) (hr0 : 0 < row.length) (b : Nat) {x' : Value}
  (hown : W10.ownsRow base 3 1 x' (row.length + 1) (encN row ++ [.int .i64 (b : Nat)])) (hg : W.grownBy W10 (some gr)) :
  ∃ g' cap', x' = .slice (some ⟨g', 0, none⟩) (row.length + 1) cap' ∧ W10.heap[b11]? = W.heap[b11]? ∧ W10.heap[b12]? = W.heap[b12]? ∧
   PW w Ds gb b10 og b11 b12 base c r A n cap left (row ++ [b]) b ((W10.setCell ⟨b11, 0, none⟩ (.slice (some ⟨g', 0, none⟩) (row.length + 1) cap')).setCell ⟨b12, 0, none⟩ (.int .i64 (b : Nat))) ∧
   ∀ (k : Nat) (o : Obj), W.heap[k]? = some o → o.isCells = false → ((W10.setCell ⟨b11, 0, none⟩ (.slice (some ⟨g', 0, none⟩) (row.length + 1) cap')).setCell ⟨b12, 0, none⟩ (.int .i64 (b : Nat))).heap[k]? = some o := by
 obtain ⟨gr', cw', cs, k11', kr, r1, r2, r3, r4, r5, r6, r7⟩ := h.k11
 have hgg : gr' = gr := by
  rw [k11] at k11'
  simp only [Option.some.injEq, Obj.cells.injEq] at k11'
  have := k11'.1
  simp at this
  exact this.1.symm
 subst hgg
 obtain ⟨o1, o2, o3, o4, o5, o6⟩ := hO
 obtain ⟨hx0, ⟨_, h0⟩ | ⟨g', cap', cur', rfl, hgb', hh', hn', hc', hs', ht'⟩⟩ := hown
 ·omega
 have kp : ∀ (k : Nat) (o : Obj), W.heap[k]? = some o → k ≠ gr' → W10.heap[k]? = some o := fun k o hk hne => (hg.block k (Array.getElem?_eq_some_iff.1 hk).1 (fun e => hne (by simpa using e))).trans hk
 have e11 := kp _ _ k11 (Ne.symm r7)
 have e12 := kp _ _ h.k12 (Ne.symm r6)
 have hne11 : g' ≠ b11 := fun e => by
  rw [e, e11] at hh'
  simp at hh'
 have hne12 : g' ≠ b12 := fun e => by
  rw [e, e12] at hh'
  simp only [Option.some.injEq, Obj.cells.injEq] at hh'
  have : cur'.size = 1 := by rw [← hh'.1]; rfl
  omega
 have st : ∀ (k : Nat) (o : Obj), W10.heap[k]? = some o → k ≠ b11 → k ≠ b12 → ((W10.setCell ⟨b11, 0, none⟩ (.slice (some ⟨g', 0, none⟩) (row.length + 1) cap')).setCell ⟨b12, 0, none⟩ (.int .i64 (b : Nat))).heap[k]? = some o := fun k o hk h1 h2 => (set_far _ h2).trans ((set_far _ h1).trans hk)
 have nc : ∀ (k : Nat) (o : Obj), W.heap[k]? = some o → o.isCells = false → ((W10.setCell ⟨b11, 0, none⟩ (.slice (some ⟨g', 0, none⟩) (row.length + 1) cap')).setCell ⟨b12, 0, none⟩ (.int .i64 (b : Nat))).heap[k]? = some o := fun k o hk hc =>
  st k o (kp k o hk (fun e => by subst e; rw [kr] at hk; cases hk; cases hc)) (fun e => by subst e; rw [k11] at hk; cases hk; cases hc) (fun e => by subst e; have := h.k12; rw [hk] at this; cases this; cases hc)
 refine ⟨g', cap', rfl, e11.trans k11.symm, e12.trans h.k12.symm, ⟨h.mks.keep nc, ?_, st _ _ (kp _ _ h.gg (by omega)) (by omega) (by omega), st _ _ (kp _ _ h.k10 (by omega)) (by omega) (by omega), st _ _ (kp _ _ h.ko (by omega)) (by omega) (by omega), ?_, g', cap', cur', ?_, st _ _ hh' hne11 hne12, by simpa using hn', hc', hs', ?_, hgb', hne12, hne11⟩, nc⟩
 ·refine (((h.bel.grown hg h.bel.size (fun j hj => by cases hj; omega)).setCell (p := ⟨b11, 0, none⟩) (by show _ ≤ b11; omega) _).setCell (p := ⟨b12, 0, none⟩) (by show _ ≤ b12; omega) _)
 ·exact set_blk (i := 0) ((set_far _ (by show b12 ≠ b11; omega)).trans e12) _
 ·rw [List.length_append]
  exact (set_far _ (by show b11 ≠ b12; omega)).trans (set_blk (i := 0) e11 _)
 ·rw [List.length_append]
  simp only [List.length_cons, List.length_nil]
  rw [ht']
  simp [encN]
def StopQ (P : Prop) : Prop := P
theorem stopq {P : Prop} (h : StopQ P) : P := h
def noPanic (Q : Exit → Act → World → Prop) : Exit → Act → World → Prop
 | .panic _, _, _ => False
 | e, a, w => Q e a w
theorem wp_nopanic {P : Program} {c : Code} {Q : Exit → Act → World → Prop} {a : Act} {w : World} (h : c.wp P (noPanic Q) a w) : c.wp P Q a w :=
 wp_mono h (fun e a w h => by cases e <;> first | exact h | exact h.elim)
/-- where the walk stands, read off the world -/
def pmeas (b12 : Nat) (left : List Int) (w : World) : Nat := match w.cell? ⟨b12, 0, none⟩ with | some (.int _ x) => (Im.at0 left x.toNat).toNat | _ => 0
theorem c59_ok (c r : Nat) (A : Option Addr) (n cap : Nat) (l : List Int) (s d : Nat) (w : World) (g : Im.Gr c r l) (hc : c ≤ 16) (hr : r ≤ 16) (H : RdI w A n l) (hst : Steps w) (hs : s < n) (hd : d < n) :
  Calls Tryz.prog 59 #[.agg #[.int .i64 c, .int .i64 r, .slice A n cap], .int .i64 s, .int .i64 d] w fun en w' => ∃ g cw left, en = .returned (.tuple #[.slice (some ⟨g, 0, none⟩) (Im.way c l left d s).length cw, .int .i64 (Im.at0 left s), .int .i64 0]) ∧ Im.IsT c l d left ∧ RdI w' (some ⟨g, 0, none⟩) (Im.way c l left d s).length ((Im.way c l left d s).map (fun x : Nat => (x : Int))) ∧ Below w.heap.size w w' := by
 have hl : n ≤ 1000000 := by have := H.len; have := g.len; have : c * r ≤ 256 := Nat.mul_le_mul hc hr; omega
 have hF : Mo.first [Mo.ground c r l, Mo.cell n s, Mo.cell n d] = 0 := first3 (Mo.ground_of g hc hr) (Mo.cell_ok.2 (by omega)) (Mo.cell_ok.2 (by omega))
 have HRD := Lib.hid H
 have HST := Lib.hid hst
 obtain ⟨w0, hW⟩ : ∃ W, W = w.alloc (Obj.cells #[.int .i64 c, .int .i64 r, .slice A n cap] 35) := ⟨_, rfl⟩
 have hT0 : w0.heap[w.heap.size]? = some (.cells #[.int .i64 c, .int .i64 r, .slice A n cap] 35 (0, 0)) := by rw [hW]; exact heap_new (by simp)
 have hB0 : Below w.heap.size w w0 := by rw [hW]; exact ((Below.refl _ _).alloc (by first | omega | (simp <;> omega)) _)
 replace H := H.below hB0
 replace hst := hst.below hB0
 refine (callsIn_wide (n := 6)).1 ?_
 refine callsIn_of_wp_marks Tryz.func59 rfl trivial ?_ rfl
 refine wpIn_wide.2 (wp_nopanic ?_)
 simp only [Tryz.ntmps59, List.size_toArray, List.length_cons, List.length_nil, Nat.reduceAdd, Nat.reduceSub, Array.replicate_succ, Array.replicate_zero, List.push_toArray, List.append_toArray, List.nil_append, List.cons_append]
 go_wp2_with fail
 rw [← hW]
 clear hW
 refine wp_scope_straight ?_
 go_wp2_with fail
 have qhT0_0 : w0.cell? ⟨w.heap.size, 0, none⟩ = some (.int .i64 c) := cell_at hT0 rfl
 have qhT0_1 : w0.cell? ⟨w.heap.size, 1, none⟩ = some (.int .i64 r) := cell_at hT0 rfl
 have qhT0_2 : w0.cell? ⟨w.heap.size, 2, none⟩ = some (.slice A n cap) := cell_at hT0 rfl
 refine wp_region_plan [(0, true), (2, true), (3, true), (5, true), (6, true), (1, false), (4, false), (7, false), (8, false), (9, false), (10, true)] w0.heap.size (by kernel_rfl) (by kernel_rfl) (Nat.le_refl _) (fun _ _ d _ _ h => by cases d <;> exact h) ?_
 have hC : Below w0.heap.size w0 w0 := Below.refl _ _
 have zhT0 : w.heap.size < w0.heap.size := (Array.getElem?_eq_some_iff.1 hT0).1
 repeat (first | (refine wpPlanA_skip _ rfl (by rfl) ?_; simp only [Act.put, List.setIfInBounds_toArray, List.set_cons_zero, List.set_cons_succ]) | (refine wpPlanA_soft _ ?_ rfl (by rfl) ?_ ?_; rotate_left; (intro wq hq hcq; go_simp; first | exact rfl | exact ⟨rfl, rfl⟩); simp only [Act.put, List.setIfInBounds_toArray, List.set_cons_zero, List.set_cons_succ]))
 refine wpPlanA_hard _ rfl (by rfl) (fun w1 hS K hK => ?_)
 have hB1 := hB0.call hS rfl
 replace hC := hC.call hS rfl
 replace hT0 := blkb hT0 hS
 replace H := H.below hS
 replace hst := hst.below hS
 clear hS hB0
 go_simp
 refine (c64 c r A n cap l _ hl H).mono ?_
 rintro e w2 ⟨rfl, hb⟩
 have hB2 := hB1.call hb rfl
 replace hC := hC.call hb rfl
 replace hT0 := blkb hT0 hb
 replace H := H.below hb
 replace hst := hst.below hb
 clear hb hB1
 refine hK _ _ hC ?_
 clear hK K
 try simp only [Act.put, List.setIfInBounds_toArray, List.set_cons_zero, List.set_cons_succ]
 refine wpPlanA_hard _ rfl (by rfl) (fun w3 hS K hK => ?_)
 have hB3 := hB2.call hS rfl
 replace hC := hC.call hS rfl
 replace hT0 := blkb hT0 hS
 replace H := H.below hS
 replace hst := hst.below hS
 clear hS hB2
 go_simp
 refine (c97 c r A n cap s _).mono ?_
 rintro e w4 ⟨rfl, hb⟩
 have hB4 := hB3.call hb rfl
 replace hC := hC.call hb rfl
 replace hT0 := blkb hT0 hb
 replace H := H.below hb
 replace hst := hst.below hb
 clear hb hB3
 refine hK _ _ hC ?_
 clear hK K
 try simp only [Act.put, List.setIfInBounds_toArray, List.set_cons_zero, List.set_cons_succ]
 refine wpPlanA_hard _ rfl (by rfl) (fun w5 hS K hK => ?_)
 have hB5 := hB4.call hS rfl
 replace hC := hC.call hS rfl
 replace hT0 := blkb hT0 hS
 replace H := H.below hS
 replace hst := hst.below hS
 clear hS hB4
 go_simp
 refine (c97 c r A n cap d _).mono ?_
 rintro e w6 ⟨rfl, hb⟩
 have hB6 := hB5.call hb rfl
 replace hC := hC.call hb rfl
 replace hT0 := blkb hT0 hb
 replace H := H.below hb
 replace hst := hst.below hb
 clear hb hB5
 refine hK _ _ hC ?_
 clear hK K
 try simp only [Act.put, List.setIfInBounds_toArray, List.set_cons_zero, List.set_cons_succ]
 refine wpPlanA_hard _ rfl (by rfl) (fun w7 hS K hK => ?_)
 have hB7 := hB6.call hS rfl
 replace hC := hC.call hS rfl
 replace hT0 := blkb hT0 hS
 replace H := H.below hS
 replace hst := hst.below hS
 clear hS hB6
 go_simp
 have hb : Below w7.heap.size w7 (w7.alloc (Obj.cells #[.int .i64 (Mo.ground c r l), .int .i64 (Mo.cell n s), .int .i64 (Mo.cell n d)] 32)) := (Below.refl _ _).alloc (Nat.le_refl _) _
 have k1 : (w7.alloc (Obj.cells #[.int .i64 (Mo.ground c r l), .int .i64 (Mo.cell n s), .int .i64 (Mo.cell n d)] 32)).heap[w7.heap.size]? = some (Obj.cells #[.int .i64 (Mo.ground c r l), .int .i64 (Mo.cell n s), .int .i64 (Mo.cell n d)] 32) := heap_new rfl
 refine hK _ _ (hC.alloc hC.size _) ?_
 clear hK K
 replace hC := hC.call hb rfl
 have hB8 := hB7.call hb rfl
 replace hT0 := blkb hT0 hb
 replace H := H.below hb
 replace hst := hst.below hb
 clear hb hB7
 generalize hWn : w7.alloc (Obj.cells #[.int .i64 (Mo.ground c r l), .int .i64 (Mo.cell n s), .int .i64 (Mo.cell n d)] 32) = w8 at k1 hC hB8 hT0 H hst ⊢
 clear hWn
 generalize hWn : w7.heap.size = bk1 at k1 ⊢
 clear hWn
 try simp only [Act.put, List.setIfInBounds_toArray, List.set_cons_zero, List.set_cons_succ]
 refine wpPlanA_hard _ rfl (by rfl) (fun w9 hS K hK => ?_)
 have hB9 := hB8.call hS rfl
 replace hC := hC.call hS rfl
 replace hT0 := blkb hT0 hS
 replace H := H.below hS
 replace hst := hst.below hS
 replace k1 := blkb k1 hS
 clear hS hB8
 go_simp
 refine (c89 _ 3 3 [Mo.ground c r l, Mo.cell n s, Mo.cell n d] _ rfl (by omega) (RdS.of_block (cs := encI [Mo.ground c r l, Mo.cell n s, Mo.cell n d]) k1 rfl)).mono ?_
 rintro e w' ⟨rfl, rfl⟩
 refine hK _ _ hC ?_
 clear hK K
 try simp only [Act.put, List.setIfInBounds_toArray, List.set_cons_zero, List.set_cons_succ]
 repeat (first | (refine wpPlanA_skip _ rfl (by rfl) ?_; simp only [Act.put, List.setIfInBounds_toArray, List.set_cons_zero, List.set_cons_succ]) | (refine wpPlanA_soft _ ?_ rfl (by rfl) ?_ ?_; rotate_left; (intro wq hq hcq; go_simp; first | exact rfl | exact ⟨rfl, rfl⟩); simp only [Act.put, List.setIfInBounds_toArray, List.set_cons_zero, List.set_cons_succ]))
 clear k1
 clear qhT0_0 qhT0_1 qhT0_2
 refine wpPlanA_nil (fun w10 hS => ?_)
 clear hC zhT0
 have hB10 := hB9.call hS rfl
 replace hT0 := blkb hT0 hS
 replace H := H.below hS
 replace hst := hst.below hS
 clear hS hB9
 have qhT0_0 : w10.cell? ⟨w.heap.size, 0, none⟩ = some (.int .i64 c) := cell_at hT0 rfl
 have qhT0_1 : w10.cell? ⟨w.heap.size, 1, none⟩ = some (.int .i64 r) := cell_at hT0 rfl
 have qhT0_2 : w10.cell? ⟨w.heap.size, 2, none⟩ = some (.slice A n cap) := cell_at hT0 rfl
 rw [hF]
 clear hF
 go_wp2_with fail
 refine (c127 c r A n cap l d _ g hc hr hd H hst).mono ?_
 rintro e w11 ⟨og, left, rfl, ho, ht, hT, hb⟩
 have HOG := ho
 have GLT : w.heap.size < w10.heap.size := (Array.getElem?_eq_some_iff.1 hT0).1
 clear ho
 clear qhT0_0 qhT0_1 qhT0_2
 have hS := hb
 have hB11 := hB10.call hS rfl
 replace hT0 := blkb hT0 hS
 replace H := H.below hS
 replace hst := hst.below hS
 clear hS hB10
 have qhT0_0 : w11.cell? ⟨w.heap.size, 0, none⟩ = some (.int .i64 c) := cell_at hT0 rfl
 have qhT0_1 : w11.cell? ⟨w.heap.size, 1, none⟩ = some (.int .i64 r) := cell_at hT0 rfl
 have qhT0_2 : w11.cell? ⟨w.heap.size, 2, none⟩ = some (.slice A n cap) := cell_at hT0 rfl
 clear hb
 go_wp2_with fail
 refine wp_label ?_
 obtain ⟨gb, hgb⟩ : ∃ b, b = w.heap.size := ⟨_, rfl⟩
 obtain ⟨b10, hb10⟩ : ∃ b, b = w11.heap.size := ⟨_, rfl⟩
 obtain ⟨w2, hw2⟩ : ∃ W, W = (((w11.alloc (Obj.cells #[.slice (some ⟨og, 0, none⟩) n n] 22)).alloc (Obj.cells #[.int .i64 s] 3)).alloc (Obj.cells #[.slice (some ⟨b10 + 1, 0, none⟩) 1 1] 22)).alloc (Obj.cells #[.int .i64 s] 3) := ⟨_, rfl⟩
 have hsz11 := hB11.size
 have hogl : og < w11.heap.size := (Array.getElem?_eq_some_iff.1 ht).1
 have hord : gb < og ∧ w.heap.size ≤ gb ∧ og < b10 := by
  have hgl : gb < w10.heap.size := by rw [hgb]; exact GLT
  omega
 have hpw : PW w [] gb b10 og (b10 + 1 + 1) (b10 + 1 + 1 + 1) (b10 + 1) c r A n cap left [s] s w2 := by
  have h1 : w2.heap[b10]? = some (.cells #[.slice (some ⟨og, 0, none⟩) n n] 22 (0, 0)) := by rw [hw2]; exact heap_old (by simp; omega) (heap_old (by simp; omega) (heap_old (by simp; omega) (heap_new hb10)))
  have h2 : w2.heap[b10 + 1]? = some (.cells #[.int .i64 s] 3 (0, 0)) := by rw [hw2]; exact heap_old (by simp; omega) (heap_old (by simp; omega) (heap_new (by simp; omega)))
  have h3 : w2.heap[b10 + 1 + 1]? = some (.cells #[.slice (some ⟨b10 + 1, 0, none⟩) 1 1] 22 (0, 0)) := by rw [hw2]; exact heap_old (by simp; omega) (heap_new (by simp; omega))
  have h4 : w2.heap[b10 + 1 + 1 + 1]? = some (.cells #[.int .i64 s] 3 (0, 0)) := by rw [hw2]; exact heap_new (by simp; omega)
  have hbb : Below w11.heap.size w11 w2 := by rw [hw2]; exact ((below2 _ _ _).alloc (by simp; omega) _).alloc (by simp; omega) _
  refine ⟨Marks.nil _ _, hB11.call hbb rfl, by rw [hgb]; exact blkb hT0 hbb, h1, blkb ht hbb, h4, b10 + 1, 1, _, h3, h2, by simp, by unfold maxLen; omega, by simp, by simp [encN], Nat.le_refl _, by omega, by omega⟩
 go_wp2_with fail
 rw [← hgb, ← hb10, ← hw2]
 obtain ⟨b11, hb11⟩ : ∃ b, b = b10 + 1 + 1 := ⟨_, rfl⟩
 obtain ⟨b12, hb12⟩ : ∃ b, b = b11 + 1 := ⟨_, rfl⟩
 obtain ⟨base, hbase⟩ : ∃ b, b = b10 + 1 := ⟨_, rfl⟩
 rw [← hb11, ← hb12, ← hbase] at hpw
 rw [← hb11, ← hb12, ← hbase]
 have HO := Lib.hid (show gb < og ∧ w.heap.size ≤ gb ∧ og < b10 ∧ base = b10 + 1 ∧ b11 = b10 + 2 ∧ b12 = b10 + 3 by omega)
 have hln := Lib.hid g.len
 have HLN : Hid (l.length = n) := Lib.hid H.len
 have HTL := Lib.hid hT
 have hn256 : Hid (n ≤ 256) := Lib.hid (by have := H.len; have := g.len; have : c * r ≤ 256 := Nat.mul_le_mul hc hr; omega)
 have HW := Lib.hid (fun a (h : a < l.length) => Im.way_len hT (a := a) h)
 clear hw2 hb10 hb11 hb12 hbase hgb hord hogl hsz11 ht hT H hst hB11 hT0 GLT qhT0_0 qhT0_1 qhT0_2 HOG
 refine wp_loop (fun a' wr => ∃ (Ds : List Nat) (row : List Nat) (a : Nat), (∃ dn, row = dn ++ [a] ∧ dn ++ Im.way c l left d a = Im.way c l left d s ∧ a < n ∧ PW w Ds gb b10 og b11 b12 base c r A n cap left row a wr) ∧ a' = { tmps := #[.agg #[.int .i64 c, .int .i64 r, .slice A n cap], .int .i64 s, .int .i64 d, .pointer (some ⟨gb, 0, none⟩), undef, undef, .slice none 0 0, .int .i64 0, .int .i64 0, .int .i64 0, .pointer (some ⟨b10, 0, none⟩), .pointer (some ⟨b11, 0, none⟩), .pointer (some ⟨b12, 0, none⟩), a'.tmps.getD 13 undef, a'.tmps.getD 14 undef, .agg #[.int .i64 c, .int .i64 r, .slice A n cap], .int .i64 (Mo.ground c r l), .agg #[.int .i64 c, .int .i64 r, .slice A n cap], .int .i64 s, .int .i64 (Mo.cell n s), .agg #[.int .i64 c, .int .i64 r, .slice A n cap], .int .i64 d, .int .i64 (Mo.cell n d), .slice (some ⟨bk1, 0, none⟩) 3 3, .int .i64 0, .int .i64 0, .bool false, undef, .agg #[.int .i64 c, .int .i64 r, .slice A n cap], .int .i64 d, .slice (some ⟨og, 0, none⟩) n n, .int .i64 s, .slice (some ⟨base, 0, none⟩) 1 1, .int .i64 s, a'.tmps.getD 34 undef, a'.tmps.getD 35 undef, a'.tmps.getD 36 undef, a'.tmps.getD 37 undef, a'.tmps.getD 38 undef, a'.tmps.getD 39 undef, a'.tmps.getD 40 undef, a'.tmps.getD 41 undef, a'.tmps.getD 42 undef, a'.tmps.getD 43 undef, a'.tmps.getD 44 undef, a'.tmps.getD 45 undef, a'.tmps.getD 46 undef, a'.tmps.getD 47 undef, a'.tmps.getD 48 undef, a'.tmps.getD 49 undef, a'.tmps.getD 50 undef, a'.tmps.getD 51 undef, a'.tmps.getD 52 undef, a'.tmps.getD 53 undef, a'.tmps.getD 54 undef, a'.tmps.getD 55 undef, a'.tmps.getD 56 undef, a'.tmps.getD 57 undef, undef, undef, undef, undef, undef], defers := MarkL Ds }) (fun _ wr => pmeas b12 left wr) ?atStart ?round
 case atStart => exact ⟨[], [s], s, ⟨[], rfl, rfl, hs, hpw⟩, rfl⟩
 case round =>
  clear hpw
  rintro a0 wr ⟨Ds, row, a, ⟨dn, hrow, hdn, han, hP⟩, ha0⟩
  obtain ⟨u, hu⟩ : ∃ u : Nat → Value, u = fun k => a0.tmps.getD k undef := ⟨_, rfl⟩
  have ha1 : a0 = { tmps := #[.agg #[.int .i64 c, .int .i64 r, .slice A n cap], .int .i64 s, .int .i64 d, .pointer (some ⟨gb, 0, none⟩), undef, undef, .slice none 0 0, .int .i64 0, .int .i64 0, .int .i64 0, .pointer (some ⟨b10, 0, none⟩), .pointer (some ⟨b11, 0, none⟩), .pointer (some ⟨b12, 0, none⟩), u 13, u 14, .agg #[.int .i64 c, .int .i64 r, .slice A n cap], .int .i64 (Mo.ground c r l), .agg #[.int .i64 c, .int .i64 r, .slice A n cap], .int .i64 s, .int .i64 (Mo.cell n s), .agg #[.int .i64 c, .int .i64 r, .slice A n cap], .int .i64 d, .int .i64 (Mo.cell n d), .slice (some ⟨bk1, 0, none⟩) 3 3, .int .i64 0, .int .i64 0, .bool false, undef, .agg #[.int .i64 c, .int .i64 r, .slice A n cap], .int .i64 d, .slice (some ⟨og, 0, none⟩) n n, .int .i64 s, .slice (some ⟨base, 0, none⟩) 1 1, .int .i64 s, u 34, u 35, u 36, u 37, u 38, u 39, u 40, u 41, u 42, u 43, u 44, u 45, u 46, u 47, u 48, u 49, u 50, u 51, u 52, u 53, u 54, u 55, u 56, u 57, undef, undef, undef, undef, undef], defers := MarkL Ds } := by rw [hu]; exact ha0
  clear ha0 hu
  subst ha1
  dsimp only
  obtain ⟨gr, cw, cs, k11, kr, r1, r2, r3, r4, r5, r6, r7⟩ := hP.k11
  have c12 : wr.cell? ⟨b12, 0, none⟩ = some (.int .i64 a) := cell_at hP.k12 rfl
  have c11 : wr.cell? ⟨b11, 0, none⟩ = some (.slice (some ⟨gr, 0, none⟩) row.length cw) := cell_at k11 rfl
  have c10 : wr.cell? ⟨b10, 0, none⟩ = some (.slice (some ⟨og, 0, none⟩) n n) := cell_at hP.k10 rfl
  have g0 : wr.cell? ⟨gb, 0, none⟩ = some (.int .i64 c) := cell_at hP.gg rfl
  have g1 : wr.cell? ⟨gb, 1, none⟩ = some (.int .i64 r) := cell_at hP.gg rfl
  have g2 : wr.cell? ⟨gb, 2, none⟩ = some (.slice A n cap) := cell_at hP.gg rfl
  have l12 := cell_lt c12
  have l11 := cell_lt c11
  have l10 := cell_lt c10
  have lg := cell_lt g0
  have HPW := Lib.hid hP
  have HDN := Lib.hid hdn
  have HRW := Lib.hid hrow
  have hpm : Hid (pmeas b12 left wr = (Im.at0 left a).toNat) := Lib.hid (by unfold pmeas; rw [c12]; simp)
  by_cases had : a = d
  ·have hdd : ((a : Int) != (d : Int)) = false := by simp; omega
   have hos : wr.cell? ⟨og, s, none⟩ = some (.int .i64 (Im.at0 left s)) := by
    refine cell_at hP.ko ?_
    have hll : left.length = n := by rw [HTL.out.len, HLN.out]
    simp [encI, Im.at0, List.getD_eq_getElem?_getD, hll, hs]
   have los := cell_lt hos
   have hrd : ∀ V : World, V.heap[gr]? = some (.cells cs 3 (0, 0)) → RdI V (some ⟨gr, 0, none⟩) row.length (row.map (fun x : Nat => (x : Int))) := by
    intro V kr
    refine ⟨by simp [encI], fun _ => ⟨gr, 0, rfl, (Array.getElem?_eq_some_iff.1 kr).1, fun j hj => ?_⟩⟩
    have hj2 : j < row.length := by simpa [encI] using hj
    have hh : encI (row.map (fun x : Nat => (x : Int))) = encN row := by simp [encI, encN]
    rw [hh, ← r4, List.getElem?_take, if_pos (by omega), Nat.zero_add]
    simp [World.cell?, kr]
   have HR := Lib.hid hrd
   have HKR := Lib.hid kr
   have hfin : row = Im.way c l left d s := by rw [hrow, ← hdn, had, Im.way_end]
   have HFN := Lib.hid hfin
   clear hP hdn hrow k11 kr r1 r2 r3 r4 r5 r6 r7 hrd hfin had
   go_wp2
   refine wp_region_growG (by kernel_rfl) (by kernel_rfl) ?_
   repeat (go_big_quiet_step ((first | fail)))
   refine wpQuiet_nil (gw_out ?_)
   intro w3 hw3
   have HW3 := Lib.hid hw3
   clear hw3
   go_wp2
   rw [Exit.noGoto_ret]
   refine leaves_marks Ds w3 w3 (HPW.out.mks.below HW3.out) (Aft.refl _ _) rfl (fun w' ha => ?_)
   refine ⟨.tuple #[.slice (some ⟨gr, 0, none⟩) row.length cw, .int .i64 (Im.at0 left s), .int .i64 0], by simp [results, Tryz.results59, go_sem], ?_⟩
   rw [HFN.out]
   have hkr := ha.1 _ _ (blkb HKR.out HW3.out) rfl
   have hb3 := (HPW.out.below HW3.out).bel
   exact ⟨gr, cw, left, rfl, HTL.out, by rw [← HFN.out]; exact HR.out _ hkr, ha.2 w hb3.size hb3⟩
  ·have hdd : ((a : Int) != (d : Int)) = true := by simp; omega
   have HAD : Hid (a ≠ d) := Lib.hid had
   have HAL : Hid (a < l.length) := Lib.hid (by rw [HLN.out]; exact han)
   clear hP hdn hrow k11 kr r1 r2 r3 r4 r5 r6 r7 had
   go_wp2_with fail
   refine (c128 c r A n cap (a : Nat) wr).mono ?_
   rintro e w2 ⟨rfl, hw2⟩
   have hB2 : Below wr.heap.size wr w2 := by rw [hw2]; exact below2 _ _ _
   obtain ⟨pg, hpg⟩ : ∃ p, p = wr.heap.size := ⟨_, rfl⟩
   have KG : w2.heap[pg]? = some (.cells #[.int .i64 c, .int .i64 r, .slice A n cap] 35 (0, 0)) := by rw [hw2]; exact heap_old (by simp; omega) (heap_new hpg)
   have KI : w2.heap[pg + 1]? = some (.cells #[.int .i64 a] 3 (0, 0)) := by rw [hw2]; exact heap_new (by simp; omega)
   have hP2 := HPW.out.below hB2
   have HP2 := Lib.hid hP2
   have hsz := hP2.bel.size
   have HSZ := Lib.hid hsz
   rw [← hpg]
   have HKG := Lib.hid KG
   have HKI := Lib.hid KI
   clear hw2 hB2 hpg hP2 hsz KG KI c12 c11 c10 g0 g1 g2 l12 l11 l10 lg
   go_wp2
   refine (wpIn_wide (n := 6)).1 ?_
   refine wpIn_nbs (n := 6) (by omega) (pi := pg + 1) (pg := pg) g hc hr (A := A) (N := n) (cap := cap) (i := a) HAL.out rfl rfl (.exit 1) (fun pre W => (W.heap[pg]? = some (.cells #[.int .i64 c, .int .i64 r, .slice A n cap] 35 (0, 0)) ∧ W.heap[pg + 1]? = some (.cells #[.int .i64 a] 3 (0, 0))) ∧ PW w Ds gb b10 og b11 b12 base c r A n cap left row a W ∧ ∀ e ∈ pre, Im.at0 left a ≠ e.2 + Im.at0 left e.1) (fun W => ∃ b, PW w Ds gb b10 og b11 b12 base c r A n cap left (row ++ [b]) b W ∧ Im.nxt c l left a = some b)
    (fun pre _ W W' row' h hg hr' => ?hI) (fun _ W W' row' h hg hr' => ?hIx)
    (fun pre W h => ⟨h.1.2, h.1.1, HRD.out.below h.2.1.bel, HST.out.below h.2.1.bel⟩) ⟨⟨HKG.out, HKI.out⟩, HP2.out, fun e he => by cases he⟩ ?a1 ?assign ?body ?done ?stop
   case hI =>
    have key : ∀ {k : Nat} {cs : Array Value} {t : TypeId} {f : Nat × Nat}, W.heap[k]? = some (.cells cs t f) → W'.heap[k]? = some (.cells cs t f) := fun {k cs t f} hk => by
     refine (hg.block k (Array.getElem?_eq_some_iff.1 hk).1 (fun e => ?_)).trans hk
     obtain ⟨_, o, ho, hc⟩ := hr' k e.symm
     rw [hk] at ho
     cases ho
     cases hc
    exact ⟨⟨key h.1.1, key h.1.2⟩, h.2.1.own HSZ.out HP2.out.mks.lt hg hr', h.2.2⟩
   case hIx =>
    obtain ⟨b, h1, h2⟩ := h
    exact ⟨b, h1.own HSZ.out HP2.out.mks.lt hg hr', h2⟩
   case assign =>
    intro lr y W K hK
    have HK := Lib.hid hK
    clear hK
    gi_wp2
    exact HK.out
   case done =>
    intro D W hD hI hK
    exact (Im.nbs_never g HAL.out HTL.out HAD.out hI.2.2).elim
   case stop =>
    intro D W hD hX hK
    obtain ⟨b, hX, hnx⟩ := hX
    have hM : Marks w.heap.size (D :: Ds) W := HP2.out.mks.push hX.mks HSZ.out hD hK
    have HM := Lib.hid hM
    have HX := Lib.hid hX
    have HNX := Lib.hid hnx
    clear hX hnx hM hK
    gi_wp2
    obtain ⟨b1, b2, b3, _⟩ := Im.nxt_some HNX.out
    refine ⟨⟨D :: Ds, row ++ [b], b, ⟨row, rfl, ?_, by rw [← HLN.out]; exact b1, ⟨HM.out, HX.out.bel, HX.out.gg, HX.out.k10, HX.out.ko, HX.out.k12, HX.out.k11⟩⟩, by rfl⟩, ?_⟩
    ·rw [← HDN.out, Im.way_step HTL.out HAL.out HAD.out HNX.out, HRW.out]
     simp
    ·show pmeas _ _ _ < pmeas _ _ _
     rw [hpm.out]
     have : pmeas b12 left W = (Im.at0 left b).toNat := by unfold pmeas; rw [cell_at HX.out.k12 (v := .int .i64 (b : Nat)) rfl]; simp
     rw [this]
     have := HTL.out.nn b b1
     omega
   case body =>
    intro lr pre y suf W hnb hsz2 hI
    obtain ⟨⟨i1, i2⟩, hP3, hpre⟩ := hI
    have hym : y ∈ Im.nbs c r l a := by rw [hnb]; simp
    obtain ⟨hy1, hy2, hy3⟩ := (Im.nbs_mem g HAL.out (k := y.1) (n := y.2)).1 hym
    have hyn : y.1 < n := by rw [← HLN.out]; exact hy1
    have hll : left.length = n := by rw [HTL.out.len, HLN.out]
    obtain ⟨gr, cw, cs, k11, kr, r1, r2, r3, r4, r5, r6, r7⟩ := hP3.k11
    have c12 : W.cell? ⟨b12, 0, none⟩ = some (.int .i64 a) := cell_at hP3.k12 rfl
    have c11 : W.cell? ⟨b11, 0, none⟩ = some (.slice (some ⟨gr, 0, none⟩) row.length cw) := cell_at k11 rfl
    have c10 : W.cell? ⟨b10, 0, none⟩ = some (.slice (some ⟨og, 0, none⟩) n n) := cell_at hP3.k10 rfl
    have oa : W.cell? ⟨og, a, none⟩ = some (.int .i64 (Im.at0 left a)) := cell_at hP3.ko (by simp [encI, Im.at0, List.getD_eq_getElem?_getD, hll, han])
    have oy : W.cell? ⟨og, y.1, none⟩ = some (.int .i64 (Im.at0 left y.1)) := cell_at hP3.ko (by simp [encI, Im.at0, List.getD_eq_getElem?_getD, hll, hyn])
    have f11 : W.frozen? ⟨b11, 0, none⟩ = false := free_at k11
    have f12 : W.frozen? ⟨b12, 0, none⟩ = false := free_at hP3.k12
    have l12 := cell_lt c12
    have l11 := cell_lt c11
    have l10 := cell_lt c10
    have lo := cell_lt oa
    have hn0 := HTL.out.nn a HAL.out
    have hn1 := HTL.out.nn y.1 hy1
    have hub : Im.at0 left y.1 ≤ 20000 := by
     have h1 := Im.feas_bound g HTL.out.feas (s := d) (by rw [HLN.out]; exact hd) _ y.1 hy1 rfl
     have h2 := Im.gap_lt g hy1 (b := d) (by rw [HLN.out]; exact hd)
     rw [HTL.out.src] at h1
     omega
    have hcy := Im.cost_le g HAL.out hy1
    rw [← hy2] at hcy hy3
    have HPA := Lib.hid hP3
    have HPR := Lib.hid hpre
    have HYM := Lib.hid hnb
    have HK11 := Lib.hid k11
    have HI12 := Lib.hid (⟨i1, i2⟩ : _ ∧ _)
    have hown : W.ownsRow base 3 1 (.slice (some ⟨gr, 0, none⟩) row.length cw) row.length (encN row) := ⟨by rw [encN_len, Nat.mul_one], .inr ⟨gr, cw, cs, rfl, r5, kr, r1, r2, r3, r4⟩⟩
    have HOWN := Lib.hid hown
    have hrl : row.length ≤ 256 := by
     have h1 := HW.out s (by rw [HLN.out]; exact hs)
     rw [← HDN.out, List.length_append] at h1
     have h2 : 1 ≤ (Im.way c l left d a).length := by
      cases hw : Im.way c l left d a with
      | nil =>
       obtain ⟨b, hb⟩ := Im.nxt_ex HTL.out HAL.out HAD.out
       rw [Im.way_step HTL.out HAL.out HAD.out hb] at hw
       cases hw
      | cons x t => simp
     rw [HRW.out, List.length_append]
     have := HLN.out
     have := hn256.out
     simp only [List.length_cons, List.length_nil]
     omega
    obtain ⟨xa, hxa⟩ : ∃ x, x = Im.at0 left a := ⟨_, rfl⟩
    obtain ⟨xy, hxy⟩ : ∃ x, x = Im.at0 left y.1 := ⟨_, rfl⟩
    rw [← hxa] at oa hn0
    rw [← hxy] at oy hn1 hub
    have HXA := Lib.hid hxa
    have HXY := Lib.hid hxy
    have hws : IntKind.i64.wrap (y.2 + xy) = y.2 + xy := wrapI (by omega)
    clear hP3 k11 kr hpre hym hnb hsz2 hy1 hy2 hown i1 i2 hxa hxy r1 r2 r3 r4 r5 r6 r7 hll
    gi_wp2
    refine wpIn_region_splitG 10 (by kernel_rfl) (by kernel_rfl) (by kernel_rfl) (fun ⟨_, _, h⟩ => h) ?_
    simp only [List.take_succ_cons, List.take_zero, List.drop_succ_cons, List.drop_zero]
    repeat (go_big_quiet_step ((first | fail)))
    refine wpQuiet_nil (gw_out ?_)
    intro W3 hb3
    have HB3 := Lib.hid hb3
    have c11 := (hb3.cell (p := ⟨b11, 0, none⟩) l11).trans c11
    have c12 := (hb3.cell (p := ⟨b12, 0, none⟩) l12).trans c12
    have f11 := (hb3.frozen (p := ⟨b11, 0, none⟩) l11).trans f11
    have f12 := (hb3.frozen (p := ⟨b12, 0, none⟩) l12).trans f12
    have l11 := cell_lt c11
    have l12 := cell_lt c12
    by_cases heq : xa = y.2 + xy
    ·have hdq : (xa == y.2 + xy) = true := by simpa using heq
     have hnx := Im.nbs_first (left := left) g HAL.out (b := y.1) (n := y.2) HYM.out HPR.out (by rw [← HXA.out, ← HXY.out]; exact heq)
     have HNX := Lib.hid hnx
     have hown3 := own_below HOWN.out HB3.out
     have HOW3 := Lib.hid hown3
     have hbs3 : base ≤ W3.heap.size := by
      have h1 := HO.out
      have h2 := HB3.out.size
      omega
     obtain ⟨i0, hi, hz0, hz1, hz2⟩ := info_parts info3
     clear heq hnx hb3 hown3
     go_wp2
     gi_wp2_with (gi_at_builtin; refine stopq ?_)
     unfold StopQ
     refine wpListIn_append_own _ rfl _ _ 22 rfl base 3 i0 (.int .i64 0) 1 8 Tryz.underlying22 hi hz0 hz1 hz2 rfl (by decide) _ _ _ rfl (HOW3.out.alloc _) ⟨W3.heap.size, 0, none⟩ 1 1 [.int .i64 (y.1 : Nat)] rfl rfl (news_one _ _ rfl) (by intro x hx; simp at hx; subst hx; rfl) (by unfold maxLen; omega) (by omega) (by simp; omega) ?_
     intro x' W10 hown10 hg10 hat10
     have hbA : Below W.heap.size W (W3.alloc (Obj.cells #[.int .i64 (y.1 : Nat)] 3)) := HB3.out.alloc HB3.out.size _
     have hPB := HPA.out.below hbA
     have hr0 : 0 < row.length := by rw [HRW.out]; simp
     obtain ⟨g', cap', rfl, hq11, hq12, hpw10, hnc⟩ := hPB.push HO.out (blkb HK11.out hbA) hr0 y.1 hown10 hg10
     have hF : Hid (NbPost w2.heap.size (fun _ => False) (fun W => ∃ b, PW w Ds gb b10 og b11 b12 base c r A n cap left (row ++ [b]) b W ∧ Im.nxt c l left a = some b) (.exit 1) W (.exit 1) { tmps := #[], defers := [] } ((W10.setCell ⟨b11, 0, none⟩ (.slice (some ⟨g', 0, none⟩) (row.length + 1) cap')).setCell ⟨b12, 0, none⟩ (.int .i64 (y.1 : Nat)))) := Lib.hid
      ⟨rfl, ⟨by have h1 := hbA.size; have h2 := hg10.size; simp [World.setCell] at h1 h2 ⊢; omega, fun k o _ hk hcc => hnc k o (blkb hk hbA) hcc⟩, y.1, hpw10, HNX.out⟩
     have m11 : W10.cell? ⟨b11, 0, none⟩ = some (.slice (some ⟨gr, 0, none⟩) row.length cw) := cell_at (hq11.trans (blkb HK11.out hbA)) rfl
     have m12 : W10.cell? ⟨b12, 0, none⟩ = some (.int .i64 a) := cell_at (hq12.trans hPB.k12) rfl
     have v11 : W10.frozen? ⟨b11, 0, none⟩ = false := free_at (hq11.trans (blkb HK11.out hbA))
     have v12 : W10.frozen? ⟨b12, 0, none⟩ = false := free_at (hq12.trans hPB.k12)
     have n11 := cell_lt m11
     have n12 := cell_lt m12
     have hne : b11 ≠ b12 := by have := HO.out; omega
     clear hown10 hg10 hat10 hbA hPB hq11 hq12 hpw10 hnc c11 c12 f11 f12 l11 l12
     gi_wp2
     exact hF.out
    ·have hdq : (xa == y.2 + xy) = false := by simpa using heq
     have HNE := Lib.hid heq
     clear heq hb3
     go_wp2
     gi_wp2
     refine ⟨keepsF_below HB3.out, ⟨blkb HI12.out.1 HB3.out, blkb HI12.out.2 HB3.out⟩, HPA.out.below HB3.out, fun e he => ?_⟩
     rcases List.mem_append.1 he with he | he
     ·exact HPR.out e he
     ·obtain rfl := List.mem_singleton.1 he
      rw [← HXA.out, ← HXY.out]
      exact HNE.out
end Go.Proofs.YtdimmlljjmmdbaaGreatDoor
namespace Go.Proofs.YtdimmlljjmmdbaaGreatDoor
open Go.RowKit
set_option maxHeartbeats 8000000
set_option maxRecDepth 20000
open Classical in
/-- what is wrong with potentials of a valid ground -/
noncomputable def potE (c : Nat) (l u : List Int) : Int := Mo.first [Mo.first [Mo.when ((u.length : Int) != (l.length : Int)) 2, Mo.allw u (-999999999) 999999999], Mo.when (!decide (Im.Feas c l u)) 19]
noncomputable def potV (c : Nat) (l u : List Int) (s d : Nat) : Int := if potE c l u = 0 then Im.at0 u d - Im.at0 u s else 0
theorem potE_a {c : Nat} {l u : List Int} {e : Int} (he : Mo.first [Mo.when ((u.length : Int) != (l.length : Int)) 2, Mo.allw u (-999999999) 999999999] = e) (h : e ≠ 0) : potE c l u = e := by unfold potE; rw [he, Mo.first_nz h]
theorem potE_b {c : Nat} {l u : List Int} (he : Mo.first [Mo.when ((u.length : Int) != (l.length : Int)) 2, Mo.allw u (-999999999) 999999999] = 0) (h : ¬ Im.Feas c l u) : potE c l u = 19 := by unfold potE; rw [he, Mo.first_z rfl]; simp [h, Mo.when, Mo.first]
theorem potE_c {c : Nat} {l u : List Int} (he : Mo.first [Mo.when ((u.length : Int) != (l.length : Int)) 2, Mo.allw u (-999999999) 999999999] = 0) (h : Im.Feas c l u) : potE c l u = 0 := by unfold potE; rw [he, Mo.first_z rfl]; simp [h, Mo.when, Mo.first]
theorem c74_ok (c r : Nat) (A : Option Addr) (n cap : Nat) (l : List Int) (s d : Nat) (U : Option Addr) (m capu : Nat) (u : List Int) (w : World) (g : Im.Gr c r l) (hc : c ≤ 16) (hr : r ≤ 16) (H : RdI w A n l) (hst : Steps w) (hs : s < n) (hd : d < n) (hm : m ≤ 1000000) (HU : RdI w U m u) :
  Calls Tryz.prog 74 #[.agg #[.int .i64 c, .int .i64 r, .slice A n cap], .int .i64 s, .int .i64 d, .slice U m capu] w fun en w' => en = .returned (.tuple #[.int .i64 (potV c l u s d), .int .i64 (potE c l u)]) ∧ Below w.heap.size w w' := by
 have hl : n ≤ 1000000 := by have := H.len; have := g.len; have : c * r ≤ 256 := Nat.mul_le_mul hc hr; omega
 have hF : Mo.first [Mo.ground c r l, Mo.cell n s, Mo.cell n d] = 0 := first3 (Mo.ground_of g hc hr) (Mo.cell_ok.2 (by omega)) (Mo.cell_ok.2 (by omega))
 have HUL := Lib.hid HU.len
 have HLN := Lib.hid H.len
 obtain ⟨E, hE⟩ : ∃ E, E = Mo.first [Mo.when ((m : Int) != (n : Int)) 2, Mo.allw u (-999999999) 999999999] := ⟨_, rfl⟩
 have hE2 : Mo.first [Mo.when ((u.length : Int) != (l.length : Int)) 2, Mo.allw u (-999999999) 999999999] = E := by rw [HUL.out, HLN.out, hE]
 obtain ⟨V, hV⟩ : ∃ V, V = potE c l u := ⟨_, rfl⟩
 have HA : Hid (E ≠ 0 → V = E) := Lib.hid (fun h => by rw [hV, potE_a hE2 h])
 have HB : Hid (E = 0 → ¬ Im.Feas c l u → V = 19) := Lib.hid (fun h hf => by rw [hV, potE_b (by rw [hE2, h]) hf])
 have HC : Hid (E = 0 → Im.Feas c l u → V = 0) := Lib.hid (fun h hf => by rw [hV, potE_c (by rw [hE2, h]) hf])
 have HE := Lib.hid hE
 obtain ⟨X, hX⟩ : ∃ X, X = potV c l u s d := ⟨_, rfl⟩
 have HXA : Hid (V ≠ 0 → X = 0) := Lib.hid (fun h => by rw [hX]; unfold potV; rw [← hV, if_neg h])
 have HXC : Hid (V = 0 → X = Im.at0 u d - Im.at0 u s) := Lib.hid (fun h => by rw [hX]; unfold potV; rw [← hV, if_pos h])
 rw [← hV, ← hX]
 clear hE hE2 hV hX
 obtain ⟨w0, hW⟩ : ∃ W, W = w.alloc (Obj.cells #[.int .i64 c, .int .i64 r, .slice A n cap] 35) := ⟨_, rfl⟩
 have hT0 : w0.heap[w.heap.size]? = some (.cells #[.int .i64 c, .int .i64 r, .slice A n cap] 35 (0, 0)) := by rw [hW]; exact heap_new (by simp)
 have hB0 : Below w.heap.size w w0 := by rw [hW]; exact ((Below.refl _ _).alloc (by first | omega | (simp <;> omega)) _)
 replace H := H.below hB0
 replace hst := hst.below hB0
 replace HU := HU.below hB0
 go_enter Tryz.func74, Tryz.ntmps74
 go_wp2_with fail
 rw [← hW]
 clear hW
 have qhT0_0 : w0.cell? ⟨w.heap.size, 0, none⟩ = some (.int .i64 c) := cell_at hT0 rfl
 have qhT0_1 : w0.cell? ⟨w.heap.size, 1, none⟩ = some (.int .i64 r) := cell_at hT0 rfl
 have qhT0_2 : w0.cell? ⟨w.heap.size, 2, none⟩ = some (.slice A n cap) := cell_at hT0 rfl
 refine wp_region_plan [(0, true), (2, true), (3, true), (5, true), (6, true), (1, false), (4, false), (7, false), (8, false), (9, false), (10, true)] w0.heap.size (by kernel_rfl) (by kernel_rfl) (Nat.le_refl _) (fun _ _ d _ _ h => by cases d <;> exact h) ?_
 have hC : Below w0.heap.size w0 w0 := Below.refl _ _
 have zhT0 : w.heap.size < w0.heap.size := (Array.getElem?_eq_some_iff.1 hT0).1
 repeat (first | (refine wpPlanA_skip _ rfl (by rfl) ?_; simp only [Act.put, List.setIfInBounds_toArray, List.set_cons_zero, List.set_cons_succ]) | (refine wpPlanA_soft _ ?_ rfl (by rfl) ?_ ?_; rotate_left; (intro wq hq hcq; go_simp; first | exact rfl | exact ⟨rfl, rfl⟩); simp only [Act.put, List.setIfInBounds_toArray, List.set_cons_zero, List.set_cons_succ]))
 refine wpPlanA_hard _ rfl (by rfl) (fun w1 hS K hK => ?_)
 have hB1 := hB0.call hS rfl
 replace hC := hC.call hS rfl
 replace hT0 := blkb hT0 hS
 replace H := H.below hS
 replace hst := hst.below hS
 replace HU := HU.below hS
 clear hS hB0
 go_simp
 refine (c64 c r A n cap l _ hl H).mono ?_
 rintro e w2 ⟨rfl, hb⟩
 have hB2 := hB1.call hb rfl
 replace hC := hC.call hb rfl
 replace hT0 := blkb hT0 hb
 replace H := H.below hb
 replace hst := hst.below hb
 replace HU := HU.below hb
 clear hb hB1
 refine hK _ _ hC ?_
 clear hK K
 try simp only [Act.put, List.setIfInBounds_toArray, List.set_cons_zero, List.set_cons_succ]
 refine wpPlanA_hard _ rfl (by rfl) (fun w3 hS K hK => ?_)
 have hB3 := hB2.call hS rfl
 replace hC := hC.call hS rfl
 replace hT0 := blkb hT0 hS
 replace H := H.below hS
 replace hst := hst.below hS
 replace HU := HU.below hS
 clear hS hB2
 go_simp
 refine (c97 c r A n cap s _).mono ?_
 rintro e w4 ⟨rfl, hb⟩
 have hB4 := hB3.call hb rfl
 replace hC := hC.call hb rfl
 replace hT0 := blkb hT0 hb
 replace H := H.below hb
 replace hst := hst.below hb
 replace HU := HU.below hb
 clear hb hB3
 refine hK _ _ hC ?_
 clear hK K
 try simp only [Act.put, List.setIfInBounds_toArray, List.set_cons_zero, List.set_cons_succ]
 refine wpPlanA_hard _ rfl (by rfl) (fun w5 hS K hK => ?_)
 have hB5 := hB4.call hS rfl
 replace hC := hC.call hS rfl
 replace hT0 := blkb hT0 hS
 replace H := H.below hS
 replace hst := hst.below hS
 replace HU := HU.below hS
 clear hS hB4
 go_simp
 refine (c97 c r A n cap d _).mono ?_
 rintro e w6 ⟨rfl, hb⟩
 have hB6 := hB5.call hb rfl
 replace hC := hC.call hb rfl
 replace hT0 := blkb hT0 hb
 replace H := H.below hb
 replace hst := hst.below hb
 replace HU := HU.below hb
 clear hb hB5
 refine hK _ _ hC ?_
 clear hK K
 try simp only [Act.put, List.setIfInBounds_toArray, List.set_cons_zero, List.set_cons_succ]
 refine wpPlanA_hard _ rfl (by rfl) (fun w7 hS K hK => ?_)
 have hB7 := hB6.call hS rfl
 replace hC := hC.call hS rfl
 replace hT0 := blkb hT0 hS
 replace H := H.below hS
 replace hst := hst.below hS
 replace HU := HU.below hS
 clear hS hB6
 go_simp
 have hb : Below w7.heap.size w7 (w7.alloc (Obj.cells #[.int .i64 (Mo.ground c r l), .int .i64 (Mo.cell n s), .int .i64 (Mo.cell n d)] 32)) := (Below.refl _ _).alloc (Nat.le_refl _) _
 have k1 : (w7.alloc (Obj.cells #[.int .i64 (Mo.ground c r l), .int .i64 (Mo.cell n s), .int .i64 (Mo.cell n d)] 32)).heap[w7.heap.size]? = some (Obj.cells #[.int .i64 (Mo.ground c r l), .int .i64 (Mo.cell n s), .int .i64 (Mo.cell n d)] 32) := heap_new rfl
 refine hK _ _ (hC.alloc hC.size _) ?_
 clear hK K
 replace hC := hC.call hb rfl
 have hB8 := hB7.call hb rfl
 replace hT0 := blkb hT0 hb
 replace H := H.below hb
 replace hst := hst.below hb
 replace HU := HU.below hb
 clear hb hB7
 generalize hWn : w7.alloc (Obj.cells #[.int .i64 (Mo.ground c r l), .int .i64 (Mo.cell n s), .int .i64 (Mo.cell n d)] 32) = w8 at k1 hC hB8 hT0 H hst HU ⊢
 clear hWn
 generalize hWn : w7.heap.size = bk1 at k1 ⊢
 clear hWn
 try simp only [Act.put, List.setIfInBounds_toArray, List.set_cons_zero, List.set_cons_succ]
 refine wpPlanA_hard _ rfl (by rfl) (fun w9 hS K hK => ?_)
 have hB9 := hB8.call hS rfl
 replace hC := hC.call hS rfl
 replace hT0 := blkb hT0 hS
 replace H := H.below hS
 replace hst := hst.below hS
 replace HU := HU.below hS
 replace k1 := blkb k1 hS
 clear hS hB8
 go_simp
 refine (c89 _ 3 3 [Mo.ground c r l, Mo.cell n s, Mo.cell n d] _ rfl (by omega) (RdS.of_block (cs := encI [Mo.ground c r l, Mo.cell n s, Mo.cell n d]) k1 rfl)).mono ?_
 rintro e w' ⟨rfl, rfl⟩
 refine hK _ _ hC ?_
 clear hK K
 try simp only [Act.put, List.setIfInBounds_toArray, List.set_cons_zero, List.set_cons_succ]
 repeat (first | (refine wpPlanA_skip _ rfl (by rfl) ?_; simp only [Act.put, List.setIfInBounds_toArray, List.set_cons_zero, List.set_cons_succ]) | (refine wpPlanA_soft _ ?_ rfl (by rfl) ?_ ?_; rotate_left; (intro wq hq hcq; go_simp; first | exact rfl | exact ⟨rfl, rfl⟩); simp only [Act.put, List.setIfInBounds_toArray, List.set_cons_zero, List.set_cons_succ]))
 clear k1
 clear qhT0_0 qhT0_1 qhT0_2
 refine wpPlanA_nil (fun w10 hS => ?_)
 clear hC zhT0
 have hB10 := hB9.call hS rfl
 replace hT0 := blkb hT0 hS
 replace H := H.below hS
 replace hst := hst.below hS
 replace HU := HU.below hS
 clear hS hB9
 have qhT0_0 : w10.cell? ⟨w.heap.size, 0, none⟩ = some (.int .i64 c) := cell_at hT0 rfl
 have qhT0_1 : w10.cell? ⟨w.heap.size, 1, none⟩ = some (.int .i64 r) := cell_at hT0 rfl
 have qhT0_2 : w10.cell? ⟨w.heap.size, 2, none⟩ = some (.slice A n cap) := cell_at hT0 rfl
 rw [hF]
 clear hF
 go_wp2_with fail
 refine (c94 ((m : Int) != (n : Int)) 2 _).mono ?_
 rintro e w' ⟨rfl, rfl⟩
 go_wp2_with fail
 refine (c113 U m capu u _ _ _ hm HU).mono ?_
 rintro e w11 ⟨rfl, hb⟩
 clear qhT0_0 qhT0_1 qhT0_2
 have hS := hb
 have hB11 := hB10.call hS rfl
 replace hT0 := blkb hT0 hS
 replace H := H.below hS
 replace hst := hst.below hS
 replace HU := HU.below hS
 clear hS hB10
 have qhT0_0 : w11.cell? ⟨w.heap.size, 0, none⟩ = some (.int .i64 c) := cell_at hT0 rfl
 have qhT0_1 : w11.cell? ⟨w.heap.size, 1, none⟩ = some (.int .i64 r) := cell_at hT0 rfl
 have qhT0_2 : w11.cell? ⟨w.heap.size, 2, none⟩ = some (.slice A n cap) := cell_at hT0 rfl
 clear hb
 go_wp2_with fail
 refine (c89 _ 2 2 [Mo.when ((m : Int) != (n : Int)) 2, Mo.allw u (-999999999) 999999999] _ rfl (by omega) (RdS.of_new (cs := encI [Mo.when ((m : Int) != (n : Int)) 2, Mo.allw u (-999999999) 999999999]) rfl rfl)).mono ?_
 rintro e w' ⟨rfl, rfl⟩
 rw [← HE.out]
 obtain ⟨w12, hwn⟩ : ∃ V, V = w11.alloc (Obj.cells (encI [Mo.when ((m : Int) != (n : Int)) 2, Mo.allw u (-999999999) 999999999]).toArray 32) := ⟨_, rfl⟩
 have hbn : Below w11.heap.size w11 w12 := by rw [hwn]; exact (Below.refl _ _).alloc (Nat.le_refl _) _
 rw [← hwn]
 clear hwn
 clear qhT0_0 qhT0_1 qhT0_2
 have hS := hbn
 have hB12 := hB11.call hS rfl
 replace hT0 := blkb hT0 hS
 replace H := H.below hS
 replace hst := hst.below hS
 replace HU := HU.below hS
 clear hS hB11
 have qhT0_0 : w12.cell? ⟨w.heap.size, 0, none⟩ = some (.int .i64 c) := cell_at hT0 rfl
 have qhT0_1 : w12.cell? ⟨w.heap.size, 1, none⟩ = some (.int .i64 r) := cell_at hT0 rfl
 have qhT0_2 : w12.cell? ⟨w.heap.size, 2, none⟩ = some (.slice A n cap) := cell_at hT0 rfl
 clear hbn
 by_cases hE0 : E = 0
 rotate_left
 ·
   have hef : (E != 0) = true := by simpa using hE0
   go_wp2
   go_ret2
   exact ⟨by have h := HA.out hE0; rw [HXA.out (by rw [h]; exact hE0), h]; rfl, hB12⟩
 have hef : (E != 0) = false := by simp [hE0]
 have hz := Mo.first_zero (HE.out ▸ hE0 : Mo.first [Mo.when ((m : Int) != (n : Int)) 2, Mo.allw u (-999999999) 999999999] = 0)
 have hmn : n = m := by
  have := (Mo.when_zero (by decide)).1 (hz _ (by simp : Mo.when ((m : Int) != (n : Int)) 2 ∈ _))
  have h2 : (m : Int) = n := by simpa using this
  omega
 have hbu := Mo.allw_ok.1 (hz (Mo.allw u (-999999999) 999999999) (by simp))
 subst hmn
 have hub : Hid (∀ k, k < n → -1000000000 ≤ Im.at0 u k ∧ Im.at0 u k ≤ 1000000000) := Lib.hid (fun k hk => by
  have hk2 : k < u.length := by rw [HUL.out]; exact hk
  have := hbu (Im.at0 u k) (by simp [Im.at0, List.getD_eq_getElem?_getD, hk2])
  omega)
 clear hz hbu
 go_wp2_with fail
 refine (c132 c r A n cap l U capu u _ g hc hr H HU hub.out hst).mono ?_
 rintro e w13 ⟨bf, rfl, hbf, hb⟩
 clear qhT0_0 qhT0_1 qhT0_2
 have hS := hb
 have hB13 := hB12.call hS rfl
 replace hT0 := blkb hT0 hS
 replace H := H.below hS
 replace hst := hst.below hS
 replace HU := HU.below hS
 clear hS hB12
 have qhT0_0 : w13.cell? ⟨w.heap.size, 0, none⟩ = some (.int .i64 c) := cell_at hT0 rfl
 have qhT0_1 : w13.cell? ⟨w.heap.size, 1, none⟩ = some (.int .i64 r) := cell_at hT0 rfl
 have qhT0_2 : w13.cell? ⟨w.heap.size, 2, none⟩ = some (.slice A n cap) := cell_at hT0 rfl
 clear hb
 have HBF := Lib.hid hbf
 clear hbf
 cases bf
 ·
   have HV19 := Lib.hid (HB.out hE0 (fun hf => by have := HBF.out.2 hf; cases this))
   go_wp2
   go_ret2
   exact ⟨by rw [HXA.out (by rw [HV19.out]; decide), HV19.out]; rfl, hB13⟩
 ·
   have HV0 := Lib.hid (HC.out hE0 (HBF.out.1 rfl))
   obtain ⟨ub, uoff, rfl, HCU⟩ := HU.cellA (by omega)
   obtain ⟨hub1, hcu⟩ := HCU w13 (Below.refl _ _)
   have us := hcu s hs
   have ud := hcu d hd
   have v1 := hub.out s hs
   have v2 := hub.out d hd
   clear hcu HCU
   obtain ⟨xs, hxs⟩ : ∃ x, x = Im.at0 u s := ⟨_, rfl⟩
   obtain ⟨xd, hxd⟩ : ∃ x, x = Im.at0 u d := ⟨_, rfl⟩
   rw [← hxs] at us v1
   rw [← hxd] at ud v2
   have HXS := Lib.hid hxs
   have HXD := Lib.hid hxd
   have hwd : IntKind.i64.wrap (xd - xs) = xd - xs := wrapI (by omega)
   clear hxs hxd
   go_wp2
   refine wp_region_growG (by kernel_rfl) (by kernel_rfl) ?_
   repeat (go_big_quiet_step ((first | fail)))
   refine wpQuiet_nil (gw_out ?_)
   intro wq hwq
   have hBq := hB13.call hwq rfl
   clear hwq
   go_wp2
   go_ret2
   exact ⟨by rw [HXC.out HV0.out, HV0.out, ← HXS.out, ← HXD.out]; rfl, hBq⟩
end Go.Proofs.YtdimmlljjmmdbaaGreatDoor
