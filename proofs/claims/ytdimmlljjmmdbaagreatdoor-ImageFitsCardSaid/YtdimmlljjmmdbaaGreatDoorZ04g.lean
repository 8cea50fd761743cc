/- A part of the proofs about chapter 7 (image): contracts of functions and plain laws (V30, V31, V32, V33, Blk). -/
import Derived.Deep.MidRow
import Derived.WalkKit
import Derived.Test.YtdimmlljjmmdbaaGreatDoorZ04f
set_option linter.all false
namespace Go.Proofs.YtdimmlljjmmdbaaGreatDoor
open Go.RowKit
set_option maxHeartbeats 4000000
set_option maxRecDepth 20000
/-- a slice of the call's own, or none -/
def RwM (w : World) (B : Nat) (v : Value) (x : List Int) : Prop := (v = .slice none 0 0 ∧ x = []) ∨ ∃ g cp, v = .slice (some ⟨g, 0, none⟩) x.length cp ∧ RowI w B g cp x.length x
theorem RwM.below {w w' : World} {B : Nat} {v : Value} {x : List Int} (h : RwM w B v x) (hb : Below w.heap.size w w') : RwM w' B v x := by
 rcases h with h | ⟨g, cp, h1, h2⟩
 ·exact .inl h
 ·exact .inr ⟨g, cp, h1, h2.below hb⟩
/-- a block of slices of the call's own -/
def OutM (w : World) (B go : Nat) (rows : List (List Int)) : Prop := ∃ cs : Array Value, w.heap[go]? = some (.cells cs 22 (0, 0)) ∧ cs.size = rows.length ∧ ∀ (j : Nat) (x : List Int), rows[j]? = some x → ∃ v, cs[j]? = some v ∧ RwM w B v x
theorem OutM.below {w w' : World} {B go : Nat} {rows : List (List Int)} (h : OutM w B go rows) (hb : Below w.heap.size w w') : OutM w' B go rows := by
 obtain ⟨cs, h1, h2, h3⟩ := h
 exact ⟨cs, blkb h1 hb, h2, fun j x hx => by obtain ⟨v, hv, hr⟩ := h3 j x hx; exact ⟨v, hv, hr.below hb⟩⟩
/-- one row made: its block new, the cell stored, then stores in new memory alone -/
theorem OutM.fill {wM wr : World} {B go k : Nat} {rows : List (List Int)} {o : Obj} {v : Value} {x : List Int} (h : OutM wM B go rows) (hk : k < rows.length) (hb : Below wM.heap.size ((wM.setCell ⟨go, k, none⟩ v).alloc o) wr) (hrow : RwM wr B v x) : OutM wr B go (rows.set k x) := by
 obtain ⟨cs, h1, h2, h3⟩ := h
 have hgo : go < wM.heap.size := (Array.getElem?_eq_some_iff.1 h1).1
 have hs : (wM.setCell ⟨go, k, none⟩ v).heap.size = wM.heap.size := by simp
 have hA : Below wM.heap.size (wM.setCell ⟨go, k, none⟩ v) ((wM.setCell ⟨go, k, none⟩ v).alloc o) := (Below.refl _ _).alloc (by rw [hs]; exact Nat.le_refl _) _
 have e2 : (wM.setCell ⟨go, k, none⟩ v).heap[go]? = some (.cells (cs.setIfInBounds k v) 22 (0, 0)) := set_blk (i := k) h1 v
 have e3 : wr.heap[go]? = some (.cells (cs.setIfInBounds k v) 22 (0, 0)) := ((hb.block go hgo).trans (hA.block go hgo)).trans e2
 refine ⟨cs.setIfInBounds k v, e3, by simp [h2], fun j y hy => ?_⟩
 by_cases hjk : k = j
 ·subst hjk
  have : x = y := by rw [List.getElem?_set] at hy; simpa [hk] using hy
  subst this
  exact ⟨v, by rw [Array.getElem?_setIfInBounds]; simp [h2, hk], hrow⟩
 ·have hy' : rows[j]? = some y := by rw [List.getElem?_set, if_neg hjk] at hy; exact hy
  obtain ⟨u, hu, hr⟩ := h3 j y hy'
  refine ⟨u, by rw [Array.getElem?_setIfInBounds, if_neg hjk]; exact hu, ?_⟩
  rcases hr with hr | ⟨g, cp, hr1, cs2, hr2, hr3⟩
  ·exact .inl hr
  ·have hg : g < wM.heap.size := (Array.getElem?_eq_some_iff.1 hr2).1
   have hne : g ≠ go := fun e => by rw [e, h1] at hr2; simp at hr2
   have f1 : (wM.setCell ⟨go, k, none⟩ v).heap[g]? = some (.cells cs2 3 (0, 0)) := (set_far (p := ⟨go, k, none⟩) v hne).trans hr2
   exact .inr ⟨g, cp, hr1, cs2, ((hb.block g hg).trans (hA.block g hg)).trans f1, hr3⟩
theorem OutM.lower {w : World} {B B' go : Nat} {rows : List (List Int)} (h : OutM w B go rows) (hb : B' ≤ B) : OutM w B' go rows := by
 obtain ⟨cs, h1, h2, h3⟩ := h
 refine ⟨cs, h1, h2, fun j x hx => ?_⟩
 obtain ⟨v, hv, hr⟩ := h3 j x hx
 refine ⟨v, hv, ?_⟩
 rcases hr with hr | ⟨g, cp, e, hr⟩
 ·exact .inl hr
 ·exact .inr ⟨g, cp, e, hr.lower hb⟩
theorem OutM.cell {w : World} {B go k : Nat} {rows : List (List Int)} (h : OutM w B go rows) (hk : k < rows.length) : ∃ v, w.cell? ⟨go, k, none⟩ = some v ∧ w.frozen? ⟨go, k, none⟩ = false := by
 obtain ⟨cs, h1, h2, h3⟩ := h
 obtain ⟨v, hv, _⟩ := h3 k rows[k] (List.getElem?_eq_getElem hk)
 exact ⟨v, cell_at h1 hv, free_at h1⟩
theorem OutM.lt {w : World} {B go : Nat} {rows : List (List Int)} (h : OutM w B go rows) : go < w.heap.size := by
 obtain ⟨cs, h1, _⟩ := h
 exact (Array.getElem?_eq_some_iff.1 h1).1
theorem OutM.rd {w : World} {B go n : Nat} {rows : List (List Int)} (h : OutM w B go rows) (hn : rows.length = n) : RdD w (some ⟨go, 0, none⟩) n rows := by
 obtain ⟨cs, h1, h2, h3⟩ := h
 refine ⟨cs.toList, RdS.of_block (cs := cs.toList) (by simpa using h1) (by simp [h2, hn]), hn, fun k x hx => ?_⟩
 obtain ⟨v, hv, hr⟩ := h3 k x hx
 rw [Array.getElem?_toList]
 rcases hr with ⟨rfl, rfl⟩ | ⟨g, cp, rfl, hr⟩
 ·exact ⟨none, 0, hv, ⟨rfl, fun h => absurd h (Nat.lt_irrefl _)⟩⟩
 ·exact ⟨some ⟨g, 0, none⟩, cp, hv, hr.rd⟩
theorem OutM.start {w : World} {go B np : Nat} {f : Nat → Value} {T : List (List Int)} (h : w.heap[go]? = some (.cells (fillA (.slice none 0 0) f np 0) 22 (0, 0))) (hT : T.length = np) : OutM w B go (Im.upto T 0) := by
 refine ⟨_, h, by rw [fillA_size, Im.upto_len, hT], fun j x hx => ?_⟩
 have hj : j < np := by
  by_cases h : j < np
  ·exact h
  ·rw [List.getElem?_eq_none (by rw [Im.upto_len]; omega)] at hx; cases hx
 refine ⟨.slice none 0 0, by rw [fillA_get _ _ _ _ _ hj, if_neg (Nat.not_lt_zero j)], .inl ⟨rfl, ?_⟩⟩
 rw [Im.upto_zero, List.getElem?_replicate] at hx
 split at hx
 ·exact (Option.some.inj hx).symm
 ·cases hx
/-- the trace of a pair, and all traces, of a model -/
noncomputable def trc (c : Nat) (l : List Int) (un : Int) (ln : Nat) (most : Int) (ms : List Int) (p : Pr) : List Int := if p.h = true then [] else Im.trace ln (dlp c l un ln most p) ms
noncomputable def trcs (c : Nat) (l : List Int) (un : Int) (ln : Nat) (most : Int) (ms : List Int) (ps : List Pr) : List (List Int) := ps.map (trc c l un ln most ms)
theorem dlp_len (c : Nat) (l : List Int) (un len most : Int) (p : Pr) : (dlp c l un len most p).length = l.length := by unfold dlp dlL; exact Im.delays_len _ _ _ _ _ _
theorem dlp_lt {c : Nat} {l : List Int} {un len most : Int} {p : Pr} {j : Nat} (hj : j < l.length) (h : 0 ≤ Im.at0 (dlp c l un len most p) j) : Im.at0 (dlp c l un len most p) j < len := by
 unfold dlp dlL at h ⊢
 rw [Im.delays_at hj] at h ⊢
 exact Im.dly_lt h
theorem c91 (c r : Nat) (A : Option Addr) (n cap : Nat) (l : List Int) (un : Int) (ln : Nat) (most : Int) (P : Option Addr) (np capp : Nat) (ps : List Pr) (M : Option Addr) (capm : Nat) (ms : List Int) (w : World) (g : Im.Gr c r l) (hc : c ≤ 16) (hr : r ≤ 16) (hu : 1 ≤ un ∧ un ≤ 1000) (hln : 1 ≤ ln ∧ ln ≤ 256) (hnp : np ≤ 16) (hcp : np ≤ capp) (hcells : ∀ p, p ∈ ps → (0 ≤ p.s ∧ p.s < (n : Int)) ∧ (0 ≤ p.r ∧ p.r < (n : Int))) (hms : ∀ k, k < n → -1000 ≤ Im.at0 ms k ∧ Im.at0 ms k ≤ 1000) (H : RdI w A n l) (HP : RdP w P np ps) (HM : RdI w M n ms) (hst : Steps w) :
  Calls Tryz.prog 91 #[.agg #[.int .i64 c, .int .i64 r, .slice A n cap], .agg #[.int .i64 un, .int .i64 (ln : Nat), .int .i64 most, .slice P np capp], .slice M n capm] w fun en w' => ∃ go, en = .returned (.slice (some ⟨go, 0, none⟩) np np) ∧ w.heap.size ≤ go ∧ OutM w' w.heap.size go (trcs c l un ln most ms ps) ∧ Below w.heap.size w w' := by
 have HPL := Lib.hid HP.len
 have HLN := Lib.hid H.len
 have HML := Lib.hid HM.len
 have hn0 : 0 < n := by
  have h1 := g.c1; have h2 := g.r1; have h3 := g.len
  have : 1 * 1 ≤ c * r := Nat.mul_le_mul h1 h2
  rw [← HLN.out]; omega
 have hn256 : n ≤ 256 := by
  have h3 := g.len
  have : c * r ≤ 16 * 16 := Nat.mul_le_mul hc hr
  rw [← HLN.out]; omega
 obtain ⟨i0, hi, hz0, hz1, hz2⟩ := info_parts info3
 obtain ⟨i1, hi1, hy0, hy1, hy2⟩ := info_parts infoSl
 have hmk1 := fun W => run_make_fill (P := Tryz.prog) 22 3 i0 (.int .i64 0) (fun _ => .int .i64 0) Tryz.underlying22 hi hz0 hz1 rfl ln (by omega) (by rw [hz2]; omega) W
 have hmk2 := fun W => run_make_fill (P := Tryz.prog) 31 22 i1 (.slice none 0 0) (fun _ => .slice none 0 0) Tryz.underlying31 hi1 hy0 hy1 rfl np (by omega) (by rw [hy2]; omega) W
 have HMK1 := Lib.hid hmk1
 clear hi hz0 hz1 hz2 hi1 hy0 hy1 hy2 hmk1
 have HMS := Lib.hid hms
 clear hms
 obtain ⟨TL, hTL⟩ : ∃ T, T = trcs c l un ln most ms ps := ⟨_, rfl⟩
 rw [← hTL]
 have HTL := Lib.hid hTL
 have HTN : Hid (TL.length = np) := Lib.hid (by rw [hTL]; simp [trcs, HPL.out])
 clear hTL
 obtain ⟨w0, hW⟩ : ∃ W, W = (w.alloc (Obj.cells #[.int .i64 c, .int .i64 r, .slice A n cap] 35)).alloc (Obj.cells #[.int .i64 un, .int .i64 (ln : Nat), .int .i64 most, .slice P np capp] 39) := ⟨_, rfl⟩
 have hT0 : w0.heap[w.heap.size]? = some (.cells #[.int .i64 c, .int .i64 r, .slice A n cap] 35 (0, 0)) := by rw [hW]; exact heap_old (by simp <;> omega) (heap_new (by simp))
 have hT1 : w0.heap[w.heap.size + 1]? = some (.cells #[.int .i64 un, .int .i64 (ln : Nat), .int .i64 most, .slice P np capp] 39 (0, 0)) := by rw [hW]; exact heap_new (by simp)
 have hB0 : Below w.heap.size w w0 := by rw [hW]; exact (((Below.refl _ _).alloc (by first | omega | (simp <;> omega)) _).alloc (by first | omega | (simp <;> omega)) _)
 replace H := H.below hB0
 replace HP := HP.below hB0
 replace HM := HM.below hB0
 replace hst := hst.below hB0
 go_enter Tryz.func91, Tryz.ntmps91
 have HS0 : w0.heap.size = w.heap.size + 1 + 1 := by rw [hW]; simp
 go_wp2_with fail
 rw [← hW]
 clear hW
 have qhT0_0 : w0.cell? ⟨w.heap.size, 0, none⟩ = some (.int .i64 c) := cell_at hT0 rfl
 have qhT0_1 : w0.cell? ⟨w.heap.size, 1, none⟩ = some (.int .i64 r) := cell_at hT0 rfl
 have qhT0_2 : w0.cell? ⟨w.heap.size, 2, none⟩ = some (.slice A n cap) := cell_at hT0 rfl
 have qhT1_0 : w0.cell? ⟨w.heap.size + 1, 0, none⟩ = some (.int .i64 un) := cell_at hT1 rfl
 have qhT1_1 : w0.cell? ⟨w.heap.size + 1, 1, none⟩ = some (.int .i64 (ln : Nat)) := cell_at hT1 rfl
 have qhT1_2 : w0.cell? ⟨w.heap.size + 1, 2, none⟩ = some (.int .i64 most) := cell_at hT1 rfl
 have qhT1_3 : w0.cell? ⟨w.heap.size + 1, 3, none⟩ = some (.slice P np capp) := cell_at hT1 rfl
 have z0 : w.heap.size < w0.heap.size := (Array.getElem?_eq_some_iff.1 hT0).1
 have z1 : w.heap.size + 1 < w0.heap.size := (Array.getElem?_eq_some_iff.1 hT1).1
 go_wp2_with fail
 obtain ⟨w1, hwn⟩ : ∃ V, V = w0.alloc (.cells (fillA (.slice none 0 0) (fun _ => .slice none 0 0) np 0) 22) := ⟨_, rfl⟩
 have hbn0 : Below w0.heap.size w0 w1 := by rw [hwn]; exact (Below.refl _ _).alloc (Nat.le_refl _) _
 obtain ⟨go, hgo'⟩ : ∃ b, b = w.heap.size + 1 + 1 := ⟨_, rfl⟩
 have hgo : go = w0.heap.size := by omega
 have ko : w1.heap[go]? = some (.cells (fillA (.slice none 0 0) (fun _ => .slice none 0 0) np 0) 22 (0, 0)) := by rw [hwn]; exact heap_new hgo
 have HGO : Hid (w0.heap.size ≤ go) := Lib.hid (by omega)
 have hom : OutM w1 w0.heap.size go (Im.upto TL 0) := OutM.start ko HTN.out
 rw [← hgo', ← hwn]
 clear hwn hgo hgo' HS0 hmk2 ko z0 z1
 have KH := Lib.hid H
 have KHP := Lib.hid HP
 have KHM := Lib.hid HM
 have Khst := Lib.hid hst
 have KhT0 := Lib.hid hT0
 have KhT1 := Lib.hid hT1
 have KB := Lib.hid hB0
 clear qhT0_0 qhT0_1 qhT0_2 qhT1_0 qhT1_1 qhT1_2 qhT1_3
 have hS := hbn0
 have hB1 := hB0.call hS rfl
 replace hT0 := blkb hT0 hS
 replace hT1 := blkb hT1 hS
 replace H := H.below hS
 replace HP := HP.below hS
 replace HM := HM.below hS
 replace hst := hst.below hS
 clear hS hB0
 have qhT0_0 : w1.cell? ⟨w.heap.size, 0, none⟩ = some (.int .i64 c) := cell_at hT0 rfl
 have qhT0_1 : w1.cell? ⟨w.heap.size, 1, none⟩ = some (.int .i64 r) := cell_at hT0 rfl
 have qhT0_2 : w1.cell? ⟨w.heap.size, 2, none⟩ = some (.slice A n cap) := cell_at hT0 rfl
 have qhT1_0 : w1.cell? ⟨w.heap.size + 1, 0, none⟩ = some (.int .i64 un) := cell_at hT1 rfl
 have qhT1_1 : w1.cell? ⟨w.heap.size + 1, 1, none⟩ = some (.int .i64 (ln : Nat)) := cell_at hT1 rfl
 have qhT1_2 : w1.cell? ⟨w.heap.size + 1, 2, none⟩ = some (.int .i64 most) := cell_at hT1 rfl
 have qhT1_3 : w1.cell? ⟨w.heap.size + 1, 3, none⟩ = some (.slice P np capp) := cell_at hT1 rfl
 have hbb := hbn0
 clear hbn0
 go_wp2_with fail
 have HOMLT := hom.lt
 refine (c108 c r A n cap l un ln most P np capp ps _ g hc hr hu hnp hcp hcells H HP hst).mono ?_
 rintro e w2 ⟨AL, capL, rfl, hall, hb⟩
 have HSZX := hb.size
 clear qhT0_0 qhT0_1 qhT0_2 qhT1_0 qhT1_1 qhT1_2 qhT1_3
 have hS := hb
 have hB2 := hB1.call hS rfl
 replace hT0 := blkb hT0 hS
 replace hT1 := blkb hT1 hS
 replace H := H.below hS
 replace HP := HP.below hS
 replace HM := HM.below hS
 replace hst := hst.below hS
 replace hom := hom.below hS
 replace hbb := hbb.call hS rfl
 clear hS hB1
 have qhT0_0 : w2.cell? ⟨w.heap.size, 0, none⟩ = some (.int .i64 c) := cell_at hT0 rfl
 have qhT0_1 : w2.cell? ⟨w.heap.size, 1, none⟩ = some (.int .i64 r) := cell_at hT0 rfl
 have qhT0_2 : w2.cell? ⟨w.heap.size, 2, none⟩ = some (.slice A n cap) := cell_at hT0 rfl
 have qhT1_0 : w2.cell? ⟨w.heap.size + 1, 0, none⟩ = some (.int .i64 un) := cell_at hT1 rfl
 have qhT1_1 : w2.cell? ⟨w.heap.size + 1, 1, none⟩ = some (.int .i64 (ln : Nat)) := cell_at hT1 rfl
 have qhT1_2 : w2.cell? ⟨w.heap.size + 1, 2, none⟩ = some (.int .i64 most) := cell_at hT1 rfl
 have qhT1_3 : w2.cell? ⟨w.heap.size + 1, 3, none⟩ = some (.slice P np capp) := cell_at hT1 rfl
 clear hb
 clear qhT0_0 qhT0_1 qhT0_2 qhT1_0 qhT1_1 qhT1_2 qhT1_3
 have HALL := Lib.hid hall
 have HSZ : Hid (go + 1 ≤ w1.heap.size ∧ w1.heap.size ≤ w2.heap.size) := Lib.hid ⟨HOMLT, HSZX⟩
 have HB1 : Hid (Below w0.heap.size w0 w2) := Lib.hid hbb
 have hom0 := Lib.hid hom
 have hgb0 : Hid (w2.grownBy w2 (some go)) := Lib.hid (grownBy_of_below (Below.refl _ _) _)
 clear hom hbb hall H HP HM hst hT0 hT1 hcells
 go_wp2_with fail
 go_loopw [20] (fun i wr => ∃ k : Nat, k ≤ np ∧ i = .int .i64 k ∧ Hid (OutM wr w0.heap.size go (Im.upto TL k)) ∧ Hid (w2.grownBy wr (some go))) (fun i _ => np - (intOf i).toNat)
 case atStart => exact ⟨0, Nat.zero_le _, rfl, hom0, hgb0⟩
 case round =>
  clear hom0 hgb0
  obtain ⟨k, hk, rfl, HOM, HGB⟩ := hrel
  obtain ⟨w3, hww⟩ : ∃ W, W = wr := ⟨_, rfl⟩
  subst hww
  have hbr : Below w0.heap.size w0 w3 := HB1.out.trans (gb_below HGB.out HB1.out.size HGO.out)
  have hB3 := KB.out.call hbr rfl
  have H := KH.out.below hbr
  have HP := KHP.out.below hbr
  have HM := KHM.out.below hbr
  have hst := Khst.out.below hbr
  have hT0 := blkb KhT0.out hbr
  have hT1 := blkb KhT1.out hbr
  have qhT0_0 : w3.cell? ⟨w.heap.size, 0, none⟩ = some (.int .i64 c) := cell_at hT0 rfl
  have qhT0_1 : w3.cell? ⟨w.heap.size, 1, none⟩ = some (.int .i64 r) := cell_at hT0 rfl
  have qhT0_2 : w3.cell? ⟨w.heap.size, 2, none⟩ = some (.slice A n cap) := cell_at hT0 rfl
  have qhT1_0 : w3.cell? ⟨w.heap.size + 1, 0, none⟩ = some (.int .i64 un) := cell_at hT1 rfl
  have qhT1_1 : w3.cell? ⟨w.heap.size + 1, 1, none⟩ = some (.int .i64 (ln : Nat)) := cell_at hT1 rfl
  have qhT1_2 : w3.cell? ⟨w.heap.size + 1, 2, none⟩ = some (.int .i64 most) := cell_at hT1 rfl
  have qhT1_3 : w3.cell? ⟨w.heap.size + 1, 3, none⟩ = some (.slice P np capp) := cell_at hT1 rfl
  have hall := HALL.out.keep HGB.out.size (fun b hb hl => HGB.out.block b hl (fun e => by have := HSZ.out; have e2 : b = go := Option.some.inj e; omega))
  have hwk : IntKind.i64.wrap ((k : Int) + 1) = ((k + 1 : Nat) : Int) := by rw [wrapI (by omega)]; simp
  by_cases hlt : k < np
  rotate_left
  ·obtain rfl : np = k := by omega
   have HF : Hid (OutM w3 w.heap.size go TL) := Lib.hid (by
    have h := HOM.out
    rw [← HTN.out, Im.upto_full] at h
    exact h.lower KB.out.size)
   have HGW : Hid (w.heap.size ≤ go) := Lib.hid (Nat.le_trans KB.out.size HGO.out)
   go_wp2
   go_ret
   exact ⟨go, rfl, HGW.out, HF.out, hB3⟩
  have hkm2 : (k : Int) < (np : Int) := by omega
  have hk02 : (0 : Int) ≤ (k : Int) := by omega
  obtain ⟨pb, poff, p, rfl, hpx, hpb, hp0, hp1, hp2⟩ := HP.at hlt
  obtain ⟨ab, aoff, x, gx, xc, rfl, hx, ⟨hab, habB⟩, ⟨hgx, hgxB⟩, hac, hrx⟩ := hall.at hlt
  have hxd : x = dlp c l un ln most p := by
   rw [List.getElem?_map, hpx] at hx
   simpa using hx.symm
  have hxl : x.length = n := by rw [hxd, dlp_len, HLN.out]
  have HXD := Lib.hid hxd
  have HXL := Lib.hid hxl
  have HPX := Lib.hid hpx
  have HTK : Hid (TL[k]? = some (trc c l un ln most ms p)) := Lib.hid (by rw [HTL.out]; unfold trcs; rw [List.getElem?_map, hpx]; rfl)
  rw [hxl] at hac hrx
  clear hx hxd hxl hpx hp0 hp1 hall
  obtain ⟨p0, p1, ph⟩ := p
  dsimp only at hp2
  have hgol := HOM.out.lt
  cases ph
  rotate_left
  ·have HOM2 : Hid (OutM w3 w0.heap.size go (Im.upto TL (k + 1))) := by
    rw [Im.upto_nil (by rw [HTK.out]; rfl)]; exact HOM
   go_wp2
   go_roundw
   case rel => exact ⟨k + 1, by omega, rfl, HOM2, HGB⟩
   case measure => simp [intOf]; omega
  obtain ⟨vo, hvo, hfo⟩ := HOM.out.cell (k := k) (by rw [Im.upto_len, HTN.out]; exact hlt)
  have hmk1 := HMK1.out
  have z1 : w.heap.size + 1 < w3.heap.size := (Array.getElem?_eq_some_iff.1 hT1).1
  go_wp2_with fail
  obtain ⟨oI, hoI⟩ : ∃ o, o = Obj.cells (fillA (.int .i64 0) (fun _ => .int .i64 0) ln 0) 3 := ⟨_, rfl⟩
  obtain ⟨wI, hwI⟩ : ∃ V, V = (w3.setCell ⟨go, k, none⟩ (.slice (some ⟨w3.heap.size, 0, none⟩) ln ln)).alloc oI := ⟨_, rfl⟩
  have hsI : (w3.setCell ⟨go, k, none⟩ (.slice (some ⟨w3.heap.size, 0, none⟩) ln ln)).heap.size = w3.heap.size := by simp
  obtain ⟨gt, hgt⟩ : ∃ b, b = w3.heap.size := ⟨_, rfl⟩
  have hAI : Below w3.heap.size (w3.setCell ⟨go, k, none⟩ (.slice (some ⟨w3.heap.size, 0, none⟩) ln ln)) ((w3.setCell ⟨go, k, none⟩ (.slice (some ⟨w3.heap.size, 0, none⟩) ln ln)).alloc oI) := (Below.refl _ _).alloc (by rw [hsI]; exact Nat.le_refl _) _
  have HGBI : Hid (w2.grownBy wI (some go)) := Lib.hid (by rw [hwI]; exact gb_call (gb_set HGB.out) (hAI.mono HGB.out.size))
  have hrowI : RowI wI w3.heap.size gt ln ln (Im.trk ln (dlp c l un ln most ⟨p0, p1, false⟩) ms 0) := by
   have h2 : wI.heap[gt]? = some (.cells (fillA (.int .i64 0) (fun _ => .int .i64 0) ln 0) 3 (0, 0)) := by rw [hwI, hoI]; exact heap_new (by rw [hsI]; exact hgt)
   refine ⟨_, h2, fillA_size _ _ _ _, Nat.le_refl _, by omega, by rw [Im.trk_len], ?_, by omega⟩
   rw [Im.trk_zero, List.take_of_length_le (by simp [fillA])]
   apply List.ext_getElem? 
   intro i
   simp [fillA, encI, List.getElem?_replicate, List.getElem?_range]
   by_cases h : i < ln <;> simp [h]
  have hcgo : wI.cell? ⟨go, k, none⟩ = some (.slice (some ⟨gt, 0, none⟩) ln ln) := by
   obtain ⟨cs, h1, h2, _⟩ := HOM.out
   have h3 := set_blk (i := k) h1 (.slice (some ⟨gt, 0, none⟩) ln ln)
   rw [hwI, ← hgt]
   rw [← hgt] at hAI
   refine cell_at (heap_old (Array.getElem?_eq_some_iff.1 h3).1 h3) ?_
   rw [Array.getElem?_setIfInBounds]
   have : k < cs.size := by rw [h2, Im.upto_len, HTN.out]; exact hlt
   simp [this]
  have hgxo : gx ≠ go := by have h1 := HSZ.out; omega
  have HG2 : Hid (w3.grownBy wI (some go)) := Lib.hid (by rw [hwI]; exact gb_call (gb_set (grownBy_of_below (Below.refl _ _) _)) hAI)
  have HWI := Lib.hid hwI
  rw [← hoI, ← hwI, ← hgt]
  have HGT : Hid (gt = w3.heap.size) := Lib.hid hgt
  obtain ⟨D, hD⟩ : ∃ D, D = dlp c l un ln most ⟨p0, p1, false⟩ := ⟨_, rfl⟩
  rw [← hD] at hrowI HXD
  obtain rfl : x = D := HXD.out
  have HD := Lib.hid hD
  have HDL : Hid (∀ j, j < n → 0 ≤ Im.at0 x j → Im.at0 x j < (ln : Int)) := Lib.hid (fun j hj h => by rw [hD] at h ⊢; exact dlp_lt (by rw [HLN.out]; exact hj) h)
  have hrow0 := Lib.hid hrowI
  have HRX := Lib.hid hrx
  have HCG := Lib.hid hcgo
  have HGOL := Lib.hid hgol
  have HGX := Lib.hid (show gx < w3.heap.size from hgx)
  clear hmk1 z1 hAI hsI hwI hgt hoI hrowI hcgo hvo hfo hrx hac hab habB hgx hgxB hp2 hgol hpb hD HXD
  go_loopw [39] (fun i wr => ∃ j : Nat, j ≤ n ∧ i = .int .i64 j ∧ Hid (RowI wr w3.heap.size gt ln ln (Im.trk ln x ms j)) ∧ Below w3.heap.size wI wr) (fun i _ => n - (intOf i).toNat)
  case atStart => exact ⟨0, Nat.zero_le _, rfl, hrow0, Below.refl _ _⟩
  case round =>
   clear hrow0
   obtain ⟨j, hj, rfl, HRW, hbq⟩ := hrel
   have HG5 : Hid (w2.grownBy wr (some go)) := Lib.hid (gb_call HGBI.out (hbq.mono HGB.out.size))
   have HBQ := Lib.hid hbq
   have HG6 : Hid (w3.grownBy wr (some go)) := Lib.hid (gb_call HG2.out hbq)
   clear hbr H HP HM hst hT0 hT1
   clear qhT0_0 qhT0_1 qhT0_2 qhT1_0 qhT1_1 qhT1_2 qhT1_3
   obtain ⟨w4, hww⟩ : ∃ W, W = wr := ⟨_, rfl⟩
   subst hww
   have hbr : Below w0.heap.size w0 w4 := HB1.out.trans (gb_below HG5.out HB1.out.size HGO.out)
   have hB4 := KB.out.call hbr rfl
   have H := KH.out.below hbr
   have HP := KHP.out.below hbr
   have HM := KHM.out.below hbr
   have hst := Khst.out.below hbr
   have hT0 := blkb KhT0.out hbr
   have hT1 := blkb KhT1.out hbr
   clear hbq
   have hwj : IntKind.i64.wrap ((j : Int) + 1) = ((j + 1 : Nat) : Int) := by rw [wrapI (by omega)]; simp
   by_cases hlt2 : j < n
   rotate_left
   ·obtain rfl : n = j := by omega
    have HOM3 : Hid (OutM w4 w0.heap.size go (Im.upto TL (k + 1))) := Lib.hid (by
     have e1 : Im.trk ln x ms n = Im.trace ln x ms := Im.trk_full HXL.out HML.out
     have h0 := HRW.out
     rw [e1] at h0
     have h := HOM.out.fill (wr := w4) (o := oI) (v := .slice (some ⟨w3.heap.size, 0, none⟩) ln ln) (x := Im.trace ln x ms) (by rw [Im.upto_len, HTN.out]; exact hlt) (by rw [← HWI.out]; exact HBQ.out) (.inr ⟨w3.heap.size, ln, by rw [Im.trace_len], by
      rw [Im.trace_len, ← HGT.out]; exact h0.lower (Nat.le_trans HB1.out.size HGB.out.size)⟩)
     rw [Im.upto_set (by rw [HTK.out, HD.out]; rfl)] at h
     exact h)
    go_wp2
    go_roundw
    case rel => exact ⟨k + 1, by omega, rfl, HOM3, HG5⟩
    case measure => simp [intOf]; omega
   have hjn2 : (j : Int) < (n : Int) := by omega
   have hj02 : (0 : Int) ≤ (j : Int) := by omega
   have hdc : w4.cell? ⟨gx, j, none⟩ = some (.int .i64 (Im.at0 x j)) := by
    have h := (HRX.out.gb HG6.out hgxo).get hlt2
    rwa [Nat.zero_add] at h
   have hgx5 : gx < w4.heap.size := Nat.lt_of_lt_of_le HGX.out HG6.out.size
   have HDJ := Lib.hid (HDL.out j hlt2)
   have HTS : Hid (Im.trk ln x ms (j + 1) = Im.addAt (Im.trk ln x ms j) (Im.at0 x j) (Im.at0 ms j)) := Lib.hid (Im.trk_succ (by rw [HXL.out]; exact hlt2) (by rw [HML.out]; exact hlt2))
   generalize hdj : Im.at0 x j = dj at hdc HDJ HTS
   clear hdj
   by_cases hd0 : 0 ≤ dj
   rotate_left
   ·have hdd : decide ((0 : Int) ≤ dj) = false := by simpa using hd0
    have HRW2 : Hid (RowI w4 w3.heap.size gt ln ln (Im.trk ln x ms (j + 1))) := Lib.hid (by
     rw [HTS.out]
     unfold Im.addAt
     rw [if_neg hd0]
     exact HRW.out)
    clear hd0
    go_wp2
    go_roundw
    case rel => exact ⟨j + 1, by omega, rfl, HRW2, HBQ.out⟩
    case measure => simp [intOf]; omega
   have hdl := HDJ.out hd0
   obtain ⟨q, rfl⟩ : ∃ q : Nat, dj = q := ⟨dj.toNat, by omega⟩
   have hq : q < ln := by omega
   have hdd : decide ((0 : Int) ≤ (q : Int)) = true := by simp
   have hql : (q : Int) < (ln : Int) := by omega
   obtain ⟨mb, moff, mx, rfl, hmx, hmb, hmc⟩ := HM.at hlt2
   have hmx2 : Im.at0 ms j = mx := by simp [Im.at0, List.getD_eq_getElem?_getD, hmx]
   have hmr := HMS.out j hlt2
   rw [hmx2] at hmr HTS
   have htl := Im.trk_le (len := ln) (ds := x) (ms := ms) (B := 1000) (by omega) (fun k hk => HMS.out k (by rw [← HML.out]; exact hk)) (by rw [HXL.out, HML.out]) j (by rw [HXL.out]; exact hj) q
   have hrc := (HRW.out.cell hq).1
   have hrf := (HRW.out.cell hq).2.1
   have hgtl := (HRW.out.cell hq).2.2
   generalize hyv : Im.at0 (Im.trk ln x ms j) q = yv at hrc htl
   have HYV := Lib.hid hyv
   have hwy : IntKind.i64.wrap (yv + mx) = yv + mx := wrapI (by omega)
   have hcg5 : w4.cell? ⟨go, k, none⟩ = some (.slice (some ⟨gt, 0, none⟩) ln ln) := (HBQ.out.cell (p := ⟨go, k, none⟩) HGOL.out).trans HCG.out
   have hgo5 : go < w4.heap.size := Nat.lt_of_lt_of_le HGOL.out HG6.out.size
   have HMR := Lib.hid hmr
   clear hmr htl hmx hmx2 hyv hd0 hdl
   have hbq := HBQ.out
   go_wp2
   refine wp_region_splitG 13 (by kernel_rfl) (by kernel_rfl) ?_
   simp only [List.take_succ_cons, List.take_zero, List.drop_succ_cons, List.drop_zero]
   repeat (go_big_quiet_step ((first | fail)))
   refine wpQuiet_nil (gw_out ?_)
   intro wq hbw
   have hrow2 := HRW.out.below hbw
   have hbq2 := hbq.trans (hbw.mono HG6.out.size)
   have qc := (hrow2.cell hq).1
   have qf := (hrow2.cell hq).2.1
   rw [HYV.out] at qc
   have HRW2 : Hid (RowI (wq.setCell ⟨gt, q, none⟩ (.int .i64 (yv + mx))) w3.heap.size gt ln ln (Im.trk ln x ms (j + 1))) := Lib.hid (by
    rw [HTS.out]
    unfold Im.addAt
    rw [if_pos (Int.natCast_nonneg q), Int.toNat_natCast, HYV.out]
    exact hrow2.set q (yv + mx))
   have HBQ2 : Hid (Below w3.heap.size wI (wq.setCell ⟨gt, q, none⟩ (.int .i64 (yv + mx)))) := Lib.hid (hbq2.setCell (p := ⟨gt, q, none⟩) (by show _ ≤ gt; rw [HGT.out]; exact Nat.le_refl _) _)
   clear hrow2 hbq2 hbq hrc hrf hdc hcg5 hmc
   go_wp2
   go_roundw
   case rel => exact ⟨j + 1, by omega, rfl, HRW2, HBQ2.out⟩
   case measure => simp [intOf]; omega
end Go.Proofs.YtdimmlljjmmdbaaGreatDoor
namespace Go.Proofs.YtdimmlljjmmdbaaGreatDoor
open Go.RowKit
set_option maxHeartbeats 4000000
set_option maxRecDepth 20000
theorem dlp_hole {c : Nat} {l : List Int} {un len most : Int} {p : Pr} (h : p.h = true) {j : Nat} (hj : j < l.length) : Im.at0 (dlp c l un len most p) j = -1 := by
 unfold dlp dlL
 rw [h, Im.delays_at hj]
 exact Im.dly_hole _ _ _ _ _ _
theorem c104 (c r : Nat) (A : Option Addr) (n cap : Nat) (l : List Int) (un : Int) (ln : Nat) (most : Int) (P : Option Addr) (np capp : Nat) (ps : List Pr) (D : Option Addr) (capd : Nat) (d : List (List Int)) (w : World) (g : Im.Gr c r l) (hc : c ≤ 16) (hr : r ≤ 16) (hu : 1 ≤ un ∧ un ≤ 1000) (hln : 1 ≤ ln ∧ ln ≤ 256) (hnp : np ≤ 16) (hcp : np ≤ capp) (hcells : ∀ p, p ∈ ps → (0 ≤ p.s ∧ p.s < (n : Int)) ∧ (0 ≤ p.r ∧ p.r < (n : Int))) (hshp : Mo.Shp (ln : Int) ps d) (hdv : ∀ x, x ∈ d → ∀ y, y ∈ x → -1048576 ≤ y ∧ y ≤ 1048576) (H : RdI w A n l) (HP : RdP w P np ps) (HD : RdD w D np d) (hst : Steps w) :
  Calls Tryz.prog 104 #[.agg #[.int .i64 c, .int .i64 r, .slice A n cap], .agg #[.int .i64 un, .int .i64 (ln : Nat), .int .i64 most, .slice P np capp], .slice D np capd] w fun en w' => ∃ v, en = .returned v ∧ w'.ownsRow w.heap.size 3 1 v n (encI (Im.image n (ps.map (dlp c l un ln most)) d)) ∧ Below w.heap.size w w' := by
 have HPL := Lib.hid HP.len
 have HLN := Lib.hid H.len
 have HDN := Lib.hid HD.len
 have hn0 : 0 < n := by
  have h1 := g.c1; have h2 := g.r1; have h3 := g.len
  have : 1 * 1 ≤ c * r := Nat.mul_le_mul h1 h2
  rw [← HLN.out]; omega
 have hn256 : n ≤ 256 := by
  have h3 := g.len
  have : c * r ≤ 16 * 16 := Nat.mul_le_mul hc hr
  rw [← HLN.out]; omega
 obtain ⟨i0, hi, hz0, hz1, hz2⟩ := info_parts info3
 have hmk2 := fun W => run_make_fill (P := Tryz.prog) 22 3 i0 (.int .i64 0) (fun _ => .int .i64 0) Tryz.underlying22 hi hz0 hz1 rfl n (by omega) (by rw [hz2]; omega) W
 clear hi hz0 hz1 hz2
 have HSH := Lib.hid hshp
 have HDV := Lib.hid hdv
 clear hshp hdv
 obtain ⟨DS, hDS⟩ : ∃ T, T = ps.map (dlp c l un ln most) := ⟨_, rfl⟩
 have hDN : ∀ ds, ds ∈ DS → ds.length = n := by
  intro ds hds
  rw [hDS] at hds
  obtain ⟨p, _, rfl⟩ := List.mem_map.1 hds
  rw [dlp_len, HLN.out]
 have hDL : DS.length = np := by rw [hDS]; simp [HPL.out]
 have HFIN : Hid (Im.imgN n DS d np = Im.image n (ps.map (dlp c l un ln most)) d) := Lib.hid (by
  rw [← hDS, ← hDL]
  exact Im.imgN_full (by rw [hDL, HDN.out]))
 rw [← HFIN.out]
 have HDS := Lib.hid hDS
 have HIL := Lib.hid (fun i => Im.imgN_len (data := d) hDN i)
 have HSU : Hid (∀ i, i < np → ∀ k, k < n → Im.at0 (Im.imgN n DS d (i + 1)) k = Im.at0 (Im.imgN n DS d i) k + Im.pick (d.getD i []) (Im.at0 (DS.getD i []) k)) := Lib.hid (fun i hi k hk => by
  rw [Im.imgN_succ (by rw [hDL]; exact hi) (by rw [HDN.out]; exact hi)]
  refine Im.imgFold_at ?_ (by rw [Im.imgN_len hDN]; exact hk)
  rw [Im.imgN_len hDN, List.getD_eq_getElem?_getD, List.getElem?_eq_getElem (by rw [hDL]; exact hi)]
  exact hDN _ (List.getElem_mem _))
 have HBD := Lib.hid (Im.imgN_le (n := n) (dss := DS) (data := d) (B := 1048576) (by omega) hDN HDV.out (by rw [hDL, HDN.out]))
 have HDL2 := Lib.hid hDL
 clear hDS hDN hDL
 obtain ⟨w0, hW⟩ : ∃ W, W = (w.alloc (Obj.cells #[.int .i64 c, .int .i64 r, .slice A n cap] 35)).alloc (Obj.cells #[.int .i64 un, .int .i64 (ln : Nat), .int .i64 most, .slice P np capp] 39) := ⟨_, rfl⟩
 have hT0 : w0.heap[w.heap.size]? = some (.cells #[.int .i64 c, .int .i64 r, .slice A n cap] 35 (0, 0)) := by rw [hW]; exact heap_old (by simp <;> omega) (heap_new (by simp))
 have hT1 : w0.heap[w.heap.size + 1]? = some (.cells #[.int .i64 un, .int .i64 (ln : Nat), .int .i64 most, .slice P np capp] 39 (0, 0)) := by rw [hW]; exact heap_new (by simp)
 have hB0 : Below w.heap.size w w0 := by rw [hW]; exact (((Below.refl _ _).alloc (by first | omega | (simp <;> omega)) _).alloc (by first | omega | (simp <;> omega)) _)
 replace H := H.below hB0
 replace HP := HP.below hB0
 replace HD := HD.below hB0
 replace hst := hst.below hB0
 go_enter Tryz.func104, Tryz.ntmps104
 have HS0 : w0.heap.size = w.heap.size + 1 + 1 := by rw [hW]; simp
 go_wp2_with fail
 rw [← hW]
 clear hW
 have qhT0_0 : w0.cell? ⟨w.heap.size, 0, none⟩ = some (.int .i64 c) := cell_at hT0 rfl
 have qhT0_1 : w0.cell? ⟨w.heap.size, 1, none⟩ = some (.int .i64 r) := cell_at hT0 rfl
 have qhT0_2 : w0.cell? ⟨w.heap.size, 2, none⟩ = some (.slice A n cap) := cell_at hT0 rfl
 have qhT1_0 : w0.cell? ⟨w.heap.size + 1, 0, none⟩ = some (.int .i64 un) := cell_at hT1 rfl
 have qhT1_1 : w0.cell? ⟨w.heap.size + 1, 1, none⟩ = some (.int .i64 (ln : Nat)) := cell_at hT1 rfl
 have qhT1_2 : w0.cell? ⟨w.heap.size + 1, 2, none⟩ = some (.int .i64 most) := cell_at hT1 rfl
 have qhT1_3 : w0.cell? ⟨w.heap.size + 1, 3, none⟩ = some (.slice P np capp) := cell_at hT1 rfl
 go_wp2_with fail
 obtain ⟨w1, hwn⟩ : ∃ V, V = w0.alloc (.cells (fillA (.int .i64 0) (fun _ => .int .i64 0) n 0) 3) := ⟨_, rfl⟩
 have hbn0 : Below w0.heap.size w0 w1 := by rw [hwn]; exact (Below.refl _ _).alloc (Nat.le_refl _) _
 obtain ⟨go, hgo'⟩ : ∃ b, b = w.heap.size + 1 + 1 := ⟨_, rfl⟩
 have hgo : go = w0.heap.size := by omega
 have ko : w1.heap[go]? = some (.cells (fillA (.int .i64 0) (fun _ => .int .i64 0) n 0) 3 (0, 0)) := by rw [hwn]; exact heap_new hgo
 have HGO : Hid (w0.heap.size ≤ go) := Lib.hid (by omega)
 have hom : RowI w1 w0.heap.size go n n (Im.imgN n DS d 0) := by
  refine ⟨_, ko, fillA_size _ _ _ _, Nat.le_refl _, by omega, by rw [Im.imgN_zero]; simp, ?_, by omega⟩
  rw [Im.imgN_zero, List.take_of_length_le (by simp [fillA])]
  apply List.ext_getElem?
  intro i
  simp [fillA, encI, List.getElem?_replicate]
  by_cases h : i < n <;> simp [h]
 rw [← hgo', ← hwn]
 clear hwn hgo hgo' HS0 hmk2 ko
 have KH := Lib.hid H
 have KHP := Lib.hid HP
 have KHD := Lib.hid HD
 have Khst := Lib.hid hst
 have KhT0 := Lib.hid hT0
 have KhT1 := Lib.hid hT1
 have KB := Lib.hid hB0
 clear qhT0_0 qhT0_1 qhT0_2 qhT1_0 qhT1_1 qhT1_2 qhT1_3
 have hS := hbn0
 have hB1 := hB0.call hS rfl
 replace hT0 := blkb hT0 hS
 replace hT1 := blkb hT1 hS
 replace H := H.below hS
 replace HP := HP.below hS
 replace HD := HD.below hS
 replace hst := hst.below hS
 clear hS hB0
 have qhT0_0 : w1.cell? ⟨w.heap.size, 0, none⟩ = some (.int .i64 c) := cell_at hT0 rfl
 have qhT0_1 : w1.cell? ⟨w.heap.size, 1, none⟩ = some (.int .i64 r) := cell_at hT0 rfl
 have qhT0_2 : w1.cell? ⟨w.heap.size, 2, none⟩ = some (.slice A n cap) := cell_at hT0 rfl
 have qhT1_0 : w1.cell? ⟨w.heap.size + 1, 0, none⟩ = some (.int .i64 un) := cell_at hT1 rfl
 have qhT1_1 : w1.cell? ⟨w.heap.size + 1, 1, none⟩ = some (.int .i64 (ln : Nat)) := cell_at hT1 rfl
 have qhT1_2 : w1.cell? ⟨w.heap.size + 1, 2, none⟩ = some (.int .i64 most) := cell_at hT1 rfl
 have qhT1_3 : w1.cell? ⟨w.heap.size + 1, 3, none⟩ = some (.slice P np capp) := cell_at hT1 rfl
 have hbb := hbn0
 clear hbn0
 have HOMLT : go + 1 ≤ w1.heap.size := by obtain ⟨cs, h1, _⟩ := hom; exact (Array.getElem?_eq_some_iff.1 h1).1
 go_wp2_with fail
 refine (c108 c r A n cap l un ln most P np capp ps _ g hc hr hu hnp hcp hcells H HP hst).mono ?_
 rintro e w2 ⟨AL, capL, rfl, hall, hb⟩
 have HSZX := hb.size
 clear qhT0_0 qhT0_1 qhT0_2 qhT1_0 qhT1_1 qhT1_2 qhT1_3
 have hS := hb
 have hB2 := hB1.call hS rfl
 replace hT0 := blkb hT0 hS
 replace hT1 := blkb hT1 hS
 replace H := H.below hS
 replace HP := HP.below hS
 replace HD := HD.below hS
 replace hst := hst.below hS
 replace hom := hom.below hS
 replace hbb := hbb.call hS rfl
 clear hS hB1
 have qhT0_0 : w2.cell? ⟨w.heap.size, 0, none⟩ = some (.int .i64 c) := cell_at hT0 rfl
 have qhT0_1 : w2.cell? ⟨w.heap.size, 1, none⟩ = some (.int .i64 r) := cell_at hT0 rfl
 have qhT0_2 : w2.cell? ⟨w.heap.size, 2, none⟩ = some (.slice A n cap) := cell_at hT0 rfl
 have qhT1_0 : w2.cell? ⟨w.heap.size + 1, 0, none⟩ = some (.int .i64 un) := cell_at hT1 rfl
 have qhT1_1 : w2.cell? ⟨w.heap.size + 1, 1, none⟩ = some (.int .i64 (ln : Nat)) := cell_at hT1 rfl
 have qhT1_2 : w2.cell? ⟨w.heap.size + 1, 2, none⟩ = some (.int .i64 most) := cell_at hT1 rfl
 have qhT1_3 : w2.cell? ⟨w.heap.size + 1, 3, none⟩ = some (.slice P np capp) := cell_at hT1 rfl
 clear hb
 clear qhT0_0 qhT0_1 qhT0_2 qhT1_0 qhT1_1 qhT1_2 qhT1_3
 have HALL := Lib.hid hall
 have HSZ : Hid (go + 1 ≤ w1.heap.size ∧ w1.heap.size ≤ w2.heap.size) := Lib.hid ⟨HOMLT, HSZX⟩
 have HB1 : Hid (Below w0.heap.size w0 w2) := Lib.hid hbb
 have hom0 := Lib.hid hom
 have hgb0 : Hid (w2.grownBy w2 (some go)) := Lib.hid (grownBy_of_below (Below.refl _ _) _)
 clear hom hbb hall H HP HD hst hT0 hT1 hcells HOMLT HSZX
 go_wp2_with fail
 go_loopw [20] (fun i wr => ∃ k : Nat, k ≤ np ∧ i = .int .i64 k ∧ Hid (RowI wr w0.heap.size go n n (Im.imgN n DS d k)) ∧ Hid (w2.grownBy wr (some go))) (fun i _ => np - (intOf i).toNat)
 case atStart => exact ⟨0, Nat.zero_le _, rfl, hom0, hgb0⟩
 case round =>
  clear hom0 hgb0
  obtain ⟨k, hk, rfl, HOM, HGB⟩ := hrel
  obtain ⟨w3, hww⟩ : ∃ W, W = wr := ⟨_, rfl⟩
  subst hww
  have hbr : Below w0.heap.size w0 w3 := HB1.out.trans (gb_below HGB.out HB1.out.size HGO.out)
  have hB3 := KB.out.call hbr rfl
  have H := KH.out.below hbr
  have HP := KHP.out.below hbr
  have HD := KHD.out.below hbr
  have hst := Khst.out.below hbr
  have hT0 := blkb KhT0.out hbr
  have hT1 := blkb KhT1.out hbr
  have qhT0_0 : w3.cell? ⟨w.heap.size, 0, none⟩ = some (.int .i64 c) := cell_at hT0 rfl
  have qhT0_1 : w3.cell? ⟨w.heap.size, 1, none⟩ = some (.int .i64 r) := cell_at hT0 rfl
  have qhT0_2 : w3.cell? ⟨w.heap.size, 2, none⟩ = some (.slice A n cap) := cell_at hT0 rfl
  have qhT1_0 : w3.cell? ⟨w.heap.size + 1, 0, none⟩ = some (.int .i64 un) := cell_at hT1 rfl
  have qhT1_1 : w3.cell? ⟨w.heap.size + 1, 1, none⟩ = some (.int .i64 (ln : Nat)) := cell_at hT1 rfl
  have qhT1_2 : w3.cell? ⟨w.heap.size + 1, 2, none⟩ = some (.int .i64 most) := cell_at hT1 rfl
  have qhT1_3 : w3.cell? ⟨w.heap.size + 1, 3, none⟩ = some (.slice P np capp) := cell_at hT1 rfl
  have hall := HALL.out.keep HGB.out.size (fun b hb hl => HGB.out.block b hl (fun e => by have := HSZ.out; have e2 : b = go := Option.some.inj e; omega))
  have hwk : IntKind.i64.wrap ((k : Int) + 1) = ((k + 1 : Nat) : Int) := by rw [wrapI (by omega)]; simp
  by_cases hlt : k < np
  rotate_left
  ·obtain rfl : np = k := by omega
   have HF := Lib.hid ((HOM.out.lower (show w.heap.size ≤ w0.heap.size from KB.out.size)).own)
   go_wp2
   go_ret
   exact ⟨_, rfl, HF.out, hB3⟩
  have hkm2 : (k : Int) < (np : Int) := by omega
  have hk02 : (0 : Int) ≤ (k : Int) := by omega
  obtain ⟨ab, aoff, x, gx, xc, rfl, hx, ⟨hab, habB⟩, ⟨hgx, hgxB⟩, hac, hrx⟩ := hall.at hlt
  obtain ⟨p, hpx⟩ : ∃ p, ps[k]? = some p := ⟨_, List.getElem?_eq_getElem (by rw [HPL.out]; exact hlt)⟩
  have hxd : x = dlp c l un ln most p := by
   rw [List.getElem?_map, hpx] at hx
   simpa using hx.symm
  have hxl : x.length = n := by rw [hxd, dlp_len, HLN.out]
  have HXG : Hid (DS.getD k [] = x) := Lib.hid (by rw [HDS.out, List.getD_eq_getElem?_getD, hx]; rfl)
  have HXD := Lib.hid hxd
  have HXL := Lib.hid hxl
  have HPX := Lib.hid hpx
  rw [hxl] at hac hrx
  have hgxo : gx ≠ go := by have h1 := HSZ.out; omega
  have HRX := Lib.hid hrx
  have HGX := Lib.hid (show gx < w3.heap.size from hgx)
  obtain ⟨db, doff, y, ya, yc, rfl, hy, hdb, hdc, hry⟩ := HD.at hlt
  have HYG : Hid (d.getD k [] = y) := Lib.hid (by rw [List.getD_eq_getElem?_getD, hy]; rfl)
  have HYX := Lib.hid hy
  have HSHK := Lib.hid (HSH.out k p y hpx hy)
  have HYV := Lib.hid (HDV.out y (List.mem_of_getElem? hy))
  have hrow0 : Hid (RowI w3 w0.heap.size go n n (Im.mix (Im.imgN n DS d k) (Im.imgN n DS d (k + 1)) 0)) := by rw [Im.mix_zero]; exact HOM
  have HSUK := Lib.hid (HSU.out k hlt)
  rw [HXG.out, HYG.out] at HSUK
  have HBK := Lib.hid (HBD.out k (by rw [HDL2.out]; omega))
  clear hrx hab habB hgx hgxB hx hxd hxl hpx hall hy hdb hdc hry
  go_wp2_with fail
  go_loopw [27] (fun i wr => ∃ j : Nat, j ≤ n ∧ i = .int .i64 j ∧ Hid (RowI wr w0.heap.size go n n (Im.mix (Im.imgN n DS d k) (Im.imgN n DS d (k + 1)) j)) ∧ Hid (w2.grownBy wr (some go)) ∧ Hid (w3.grownBy wr (some go))) (fun i _ => n - (intOf i).toNat)
  case atStart => exact ⟨0, Nat.zero_le _, rfl, hrow0, HGB, Lib.hid (grownBy_of_below (Below.refl _ _) _)⟩
  case round =>
   clear hrow0
   obtain ⟨j, hj, rfl, HRW, HG5, HG6⟩ := hrel
   clear hbr H HP HD hst hT0 hT1
   clear qhT0_0 qhT0_1 qhT0_2 qhT1_0 qhT1_1 qhT1_2 qhT1_3
   obtain ⟨w4, hww⟩ : ∃ W, W = wr := ⟨_, rfl⟩
   subst hww
   have hbr : Below w0.heap.size w0 w4 := HB1.out.trans (gb_below HG5.out HB1.out.size HGO.out)
   have hB4 := KB.out.call hbr rfl
   have H := KH.out.below hbr
   have HP := KHP.out.below hbr
   have HD := KHD.out.below hbr
   have hst := Khst.out.below hbr
   have hT0 := blkb KhT0.out hbr
   have hT1 := blkb KhT1.out hbr
   have hwj : IntKind.i64.wrap ((j : Int) + 1) = ((j + 1 : Nat) : Int) := by rw [wrapI (by omega)]; simp
   by_cases hlt2 : j < n
   rotate_left
   ·obtain rfl : n = j := by omega
    have HOM3 : Hid (RowI w4 w0.heap.size go n n (Im.imgN n DS d (k + 1))) := Lib.hid (by
     have h := HRW.out
     have e : Im.mix (Im.imgN n DS d k) (Im.imgN n DS d (k + 1)) n = Im.imgN n DS d (k + 1) := by
      have h1 := Im.mix_full (a := Im.imgN n DS d k) (b := Im.imgN n DS d (k + 1)) (by rw [HIL.out, HIL.out])
      rwa [HIL.out] at h1
     rw [e] at h
     exact h)
    go_wp2
    go_roundw
    case rel => exact ⟨k + 1, by omega, rfl, HOM3, HG5⟩
    case measure => simp [intOf]; omega
   have hjn2 : (j : Int) < (n : Int) := by omega
   have hj02 : (0 : Int) ≤ (j : Int) := by omega
   have hdc : w4.cell? ⟨gx, j, none⟩ = some (.int .i64 (Im.at0 x j)) := by
    have h := (HRX.out.gb HG6.out hgxo).get hlt2
    rwa [Nat.zero_add] at h
   have hgx5 : gx < w4.heap.size := Nat.lt_of_lt_of_le HGX.out HG6.out.size
   have HDJ : Hid (0 ≤ Im.at0 x j → Im.at0 x j < (ln : Int)) := Lib.hid (fun h => by rw [HXD.out] at h ⊢; exact dlp_lt (by rw [HLN.out]; exact hlt2) h)
   have HHJ : Hid (p.h = true → Im.at0 x j = -1) := Lib.hid (fun h => by rw [HXD.out]; exact dlp_hole h (by rw [HLN.out]; exact hlt2))
   have HSJ := Lib.hid (HSUK.out j hlt2)
   have hbj := HBK.out j hlt2
   have HMG : Hid (Im.at0 (Im.mix (Im.imgN n DS d k) (Im.imgN n DS d (k + 1)) j) j = Im.at0 (Im.imgN n DS d k) j) := Lib.hid (by rw [Im.mix_get (by rw [HIL.out]; exact hlt2), if_neg (Nat.lt_irrefl j)])
   generalize hdj : Im.at0 x j = dj at hdc HDJ HSJ HHJ
   clear hdj
   by_cases hd0 : 0 ≤ dj
   rotate_left
   ·have hdd : decide ((0 : Int) ≤ dj) = false := by simpa using hd0
    have HRW2 : Hid (RowI w4 w0.heap.size go n n (Im.mix (Im.imgN n DS d k) (Im.imgN n DS d (k + 1)) (j + 1))) := Lib.hid (by
     rw [Im.mix_keep (by rw [HSJ.out]; unfold Im.pick; rw [if_neg hd0]; omega)]
     exact HRW.out)
    clear hd0
    go_wp2
    go_roundw
    case rel => exact ⟨j + 1, by omega, rfl, HRW2, HG5, HG6⟩
    case measure => simp [intOf]; omega
   have hdl := HDJ.out hd0
   obtain ⟨q, rfl⟩ : ∃ q : Nat, dj = q := ⟨dj.toNat, by omega⟩
   have hq : q < ln := by omega
   have hyl : y.length = ln := by
    have h := HSHK.out
    unfold Mo.okT at h
    cases hph : p.h
    ·rw [hph] at h; simp at h; omega
    ·have := HHJ.out hph; omega
   have hdd : decide ((0 : Int) ≤ (q : Int)) = true := by simp
   have hql : (q : Int) < (ln : Int) := by omega
   have hq02 : (0 : Int) ≤ (q : Int) := by omega
   obtain ⟨db', doff', y', ya, yc, he, hy', hdb, hyc, hry⟩ := HD.at hlt
   cases he
   obtain rfl : y = y' := by rw [HYX.out] at hy'; exact Option.some.inj hy'
   rw [hyl] at hyc hry
   obtain ⟨mb, moff, mx, rfl, hmx, hmb, hmc⟩ := hry.at hq
   have hmx2 : Im.at0 y q = mx := by simp [Im.at0, List.getD_eq_getElem?_getD, hmx]
   have hmr := HYV.out mx (List.mem_of_getElem? hmx)
   have hpk : Im.pick y (q : Int) = mx := by unfold Im.pick; rw [if_pos (Int.natCast_nonneg q), Int.toNat_natCast, hmx2]
   rw [hpk] at HSJ
   have hrc := (HRW.out.cell hlt2).1
   have hrf := (HRW.out.cell hlt2).2.1
   have hgtl := (HRW.out.cell hlt2).2.2
   rw [HMG.out] at hrc
   generalize hyv : Im.at0 (Im.imgN n DS d k) j = yv at hrc hbj HSJ
   have HYW := Lib.hid hyv
   have hk16 : (k : Int) * 1048576 ≤ 16 * 1048576 := Int.mul_le_mul_of_nonneg_right (by omega) (by omega)
   have hwy : IntKind.i64.wrap (yv + mx) = yv + mx := wrapI (by omega)
   clear hmr hmx hmx2 hyv hd0 hdl hbj hpk hk16 hy'
   go_wp2
   refine wp_region_splitG 13 (by kernel_rfl) (by kernel_rfl) ?_
   simp only [List.take_succ_cons, List.take_zero, List.drop_succ_cons, List.drop_zero]
   repeat (go_big_quiet_step ((first | fail)))
   refine wpQuiet_nil (gw_out ?_)
   intro wq hbw
   have hrow2 := HRW.out.below hbw
   have qc := (hrow2.cell hlt2).1
   have qf := (hrow2.cell hlt2).2.1
   rw [HMG.out, HYW.out] at qc
   have HRW2 : Hid (RowI (wq.setCell ⟨go, j, none⟩ (.int .i64 (yv + mx))) w0.heap.size go n n (Im.mix (Im.imgN n DS d k) (Im.imgN n DS d (k + 1)) (j + 1))) := Lib.hid (by
    have h := hrow2.set j (yv + mx)
    have e := Im.mix_set (a := Im.imgN n DS d k) (b := Im.imgN n DS d (k + 1)) (j := j) (by rw [HIL.out]; exact hlt2)
    rw [HSJ.out] at e
    rw [e] at h
    exact h)
   have HG7 : Hid (w2.grownBy (wq.setCell ⟨go, j, none⟩ (.int .i64 (yv + mx))) (some go)) := Lib.hid (gb_set (gb_call HG5.out (hbw.mono HG5.out.size)))
   have HG8 : Hid (w3.grownBy (wq.setCell ⟨go, j, none⟩ (.int .i64 (yv + mx))) (some go)) := Lib.hid (gb_set (gb_call HG6.out (hbw.mono HG6.out.size)))
   clear hrow2 hrc hrf hdc hmc hyc hry
   go_wp2
   go_roundw
   case rel => exact ⟨j + 1, by omega, rfl, HRW2, HG7, HG8⟩
   case measure => simp [intOf]; omega
end Go.Proofs.YtdimmlljjmmdbaaGreatDoor
namespace Go.Proofs.YtdimmlljjmmdbaaGreatDoor
open Go.RowKit
set_option maxHeartbeats 4000000
set_option maxRecDepth 20000
namespace Mo
/-- what is wrong with a model, and with traces -/
def mdl (c r : Int) (l : List Int) (un len most : Int) (ps : List Pr) (ms : List Int) : Int := first [surv c r l un len most ps, first [when ((ms.length : Int) != (l.length : Int)) 2, allw ms (-1000) 1000]]
noncomputable def dta (c r : Int) (l : List Int) (un len most : Int) (ps : List Pr) (d : List (List Int)) : Int := first [surv c r l un len most ps, dat len ps d]
theorem mdl_zero {c r : Int} {l : List Int} {un len most : Int} {ps : List Pr} {ms : List Int} (h : mdl c r l un len most ps ms = 0) : surv c r l un len most ps = 0 ∧ ms.length = l.length ∧ ∀ k, k < ms.length → -1000 ≤ Im.at0 ms k ∧ Im.at0 ms k ≤ 1000 := by
 have h1 := first_zero h
 have h2 := first_zero (h1 (first [when ((ms.length : Int) != (l.length : Int)) 2, allw ms (-1000) 1000]) (by simp))
 have h3 := (when_zero (by decide)).1 (h2 (when ((ms.length : Int) != (l.length : Int)) 2) (by simp))
 have h4 := allw_ok.1 (h2 (allw ms (-1000) 1000) (by simp))
 refine ⟨h1 _ List.mem_cons_self, ?_, fun k hk => ?_⟩
 ·have : (ms.length : Int) = (l.length : Int) := by simpa using h3
  omega
 ·have := h4 (Im.at0 ms k) (by simp [Im.at0, List.getD_eq_getElem?_getD, hk])
  omega
theorem dta_zero {c r : Int} {l : List Int} {un len most : Int} {ps : List Pr} {d : List (List Int)} (h : dta c r l un len most ps d = 0) : surv c r l un len most ps = 0 ∧ d.length = ps.length ∧ Shp len ps d ∧ ∀ x, x ∈ d → ∀ y, y ∈ x → -1048576 ≤ y ∧ y ≤ 1048576 := by
 have h1 := first_zero h
 exact ⟨h1 _ List.mem_cons_self, dat_zero (h1 (dat len ps d) (by simp))⟩
end Mo
theorem c19_ok (c r : Nat) (A : Option Addr) (n cap : Nat) (l : List Int) (un : Int) (ln : Nat) (most : Int) (P : Option Addr) (np capp : Nat) (ps : List Pr) (M : Option Addr) (capm : Nat) (ms : List Int) (w : World) (g : Im.Gr c r l) (hc : c ≤ 16) (hr : r ≤ 16) (hcp : np ≤ capp) (H : RdI w A n l) (HP : RdP w P np ps) (HM : RdI w M n ms) (hst : Steps w) (hE : Mo.mdl c r l un ln most ps ms = 0) :
  Calls Tryz.prog 19 #[.agg #[.int .i64 c, .int .i64 r, .slice A n cap], .agg #[.int .i64 un, .int .i64 (ln : Nat), .int .i64 most, .slice P np capp], .slice M n capm] w fun en w' => ∃ go, en = .returned (.tuple #[.slice (some ⟨go, 0, none⟩) np np, .int .i64 0]) ∧ w.heap.size ≤ go ∧ OutM w' w.heap.size go (trcs c l un ln most ms ps) ∧ Below w.heap.size w w' := by
 obtain ⟨hS, hml, hmb⟩ := Mo.mdl_zero hE
 obtain ⟨_, hu, hln1, _, hnp, hcl⟩ := surv_ok hS
 have hl : n ≤ 1000000 := by have h1 := H.len; have := g.len; have : c * r ≤ 16 * 16 := Nat.mul_le_mul hc hr; omega
 have hpl := HP.len
 have hp : np ≤ 1000000 := by omega
 have hm := hl
 have HLN := Lib.hid H.len
 have HCL : Hid (∀ p, p ∈ ps → (0 ≤ p.s ∧ p.s < (n : Int)) ∧ (0 ≤ p.r ∧ p.r < (n : Int))) := Lib.hid (fun p hp => by have := hcl p hp; rw [H.len] at this; exact this)
 have HMB : Hid (∀ k, k < n → -1000 ≤ Im.at0 ms k ∧ Im.at0 ms k ≤ 1000) := Lib.hid (fun k hk => hmb k (by rw [HM.len]; exact hk))
 have hn16 : np ≤ 16 := by omega
 have hl256 : 1 ≤ ln ∧ ln ≤ 256 := by omega
 have HE : Hid (Mo.first [Mo.surv c r l un ln most ps, Mo.first [Mo.when false 2, Mo.allw ms (-1000) 1000]] = 0) := Lib.hid (by have h := hE; unfold Mo.mdl at h; rw [H.len, HM.len] at h; simpa using h)
 clear hE hS hml hmb hcl hpl hnp
 obtain ⟨w0, hW⟩ : ∃ W, W = (w.alloc (Obj.cells #[.int .i64 c, .int .i64 r, .slice A n cap] 35)).alloc (Obj.cells #[.int .i64 un, .int .i64 (ln : Nat), .int .i64 most, .slice P np capp] 39) := ⟨_, rfl⟩
 have hT0 : w0.heap[w.heap.size]? = some (.cells #[.int .i64 c, .int .i64 r, .slice A n cap] 35 (0, 0)) := by rw [hW]; exact heap_old (by simp <;> omega) (heap_new (by simp))
 have hT1 : w0.heap[w.heap.size + 1]? = some (.cells #[.int .i64 un, .int .i64 (ln : Nat), .int .i64 most, .slice P np capp] 39 (0, 0)) := by rw [hW]; exact heap_new (by simp)
 have hB0 : Below w.heap.size w w0 := by rw [hW]; exact (((Below.refl _ _).alloc (by first | omega | (simp <;> omega)) _).alloc (by first | omega | (simp <;> omega)) _)
 replace H := H.below hB0
 replace HP := HP.below hB0
 replace HM := HM.below hB0
 replace hst := hst.below hB0
 go_enter Tryz.func19, Tryz.ntmps19
 go_wp2_with fail
 rw [← hW]
 clear hW
 have qhT0_0 : w0.cell? ⟨w.heap.size, 0, none⟩ = some (.int .i64 c) := cell_at hT0 rfl
 have qhT0_1 : w0.cell? ⟨w.heap.size, 1, none⟩ = some (.int .i64 r) := cell_at hT0 rfl
 have qhT0_2 : w0.cell? ⟨w.heap.size, 2, none⟩ = some (.slice A n cap) := cell_at hT0 rfl
 have qhT1_0 : w0.cell? ⟨w.heap.size + 1, 0, none⟩ = some (.int .i64 un) := cell_at hT1 rfl
 have qhT1_1 : w0.cell? ⟨w.heap.size + 1, 1, none⟩ = some (.int .i64 (ln : Nat)) := cell_at hT1 rfl
 have qhT1_2 : w0.cell? ⟨w.heap.size + 1, 2, none⟩ = some (.int .i64 most) := cell_at hT1 rfl
 have qhT1_3 : w0.cell? ⟨w.heap.size + 1, 3, none⟩ = some (.slice P np capp) := cell_at hT1 rfl
 refine wp_region_plan [(0, true), (1, true), (3, true), (4, true), (2, false), (5, false), (6, false), (7, false), (8, true)] w0.heap.size (by kernel_rfl) (by kernel_rfl) (Nat.le_refl _) (fun _ _ d _ _ h => by cases d <;> exact h) ?_
 have hC : Below w0.heap.size w0 w0 := Below.refl _ _
 have zhT0 : w.heap.size < w0.heap.size := (Array.getElem?_eq_some_iff.1 hT0).1
 have zhT1 : w.heap.size + 1 < w0.heap.size := (Array.getElem?_eq_some_iff.1 hT1).1
 repeat (first | (refine wpPlanA_skip _ rfl (by rfl) ?_; simp only [Act.put, List.setIfInBounds_toArray, List.set_cons_zero, List.set_cons_succ]) | (refine wpPlanA_soft _ ?_ rfl (by rfl) ?_ ?_; rotate_left; (intro wq hq hcq; go_simp; first | exact rfl | exact ⟨rfl, rfl⟩); simp only [Act.put, List.setIfInBounds_toArray, List.set_cons_zero, List.set_cons_succ]))
 refine wpPlanA_hard _ rfl (by rfl) (fun w1 hS K hK => ?_)
 have hB1 := hB0.call hS rfl
 replace hC := hC.call hS rfl
 replace hT0 := blkb hT0 hS
 replace hT1 := blkb hT1 hS
 replace H := H.below hS
 replace HP := HP.below hS
 replace HM := HM.below hS
 replace hst := hst.below hS
 clear hS hB0
 go_simp
 refine (c25 c r A n cap l un ln most P np capp ps _ hl hp H HP).mono ?_
 rintro e w2 ⟨rfl, hb⟩
 have hB2 := hB1.call hb rfl
 replace hC := hC.call hb rfl
 replace hT0 := blkb hT0 hb
 replace hT1 := blkb hT1 hb
 replace H := H.below hb
 replace HP := HP.below hb
 replace HM := HM.below hb
 replace hst := hst.below hb
 clear hb hB1
 refine hK _ _ hC ?_
 clear hK K
 try simp only [Act.put, List.setIfInBounds_toArray, List.set_cons_zero, List.set_cons_succ]
 refine wpPlanA_hard _ rfl (by rfl) (fun w3 hS K hK => ?_)
 have hB3 := hB2.call hS rfl
 replace hC := hC.call hS rfl
 replace hT0 := blkb hT0 hS
 replace hT1 := blkb hT1 hS
 replace H := H.below hS
 replace HP := HP.below hS
 replace HM := HM.below hS
 replace hst := hst.below hS
 clear hS hB2
 go_simp
 refine (c90 c r A n cap M n capm ms _ hm HM).mono ?_
 rintro e w4 ⟨rfl, hb⟩
 have hB4 := hB3.call hb rfl
 replace hC := hC.call hb rfl
 replace hT0 := blkb hT0 hb
 replace hT1 := blkb hT1 hb
 replace H := H.below hb
 replace HP := HP.below hb
 replace HM := HM.below hb
 replace hst := hst.below hb
 clear hb hB3
 refine hK _ _ hC ?_
 clear hK K
 try simp only [Act.put, List.setIfInBounds_toArray, List.set_cons_zero, List.set_cons_succ]
 refine wpPlanA_hard _ rfl (by rfl) (fun w5 hS K hK => ?_)
 have hB5 := hB4.call hS rfl
 replace hC := hC.call hS rfl
 replace hT0 := blkb hT0 hS
 replace hT1 := blkb hT1 hS
 replace H := H.below hS
 replace HP := HP.below hS
 replace HM := HM.below hS
 replace hst := hst.below hS
 clear hS hB4
 go_simp
 have hb : Below w5.heap.size w5 (w5.alloc (Obj.cells #[.int .i64 (Mo.surv c r l un ln most ps), .int .i64 (Mo.first [Mo.when false 2, Mo.allw ms (-1000) 1000])] 32)) := (Below.refl _ _).alloc (Nat.le_refl _) _
 have k1 : (w5.alloc (Obj.cells #[.int .i64 (Mo.surv c r l un ln most ps), .int .i64 (Mo.first [Mo.when false 2, Mo.allw ms (-1000) 1000])] 32)).heap[w5.heap.size]? = some (Obj.cells #[.int .i64 (Mo.surv c r l un ln most ps), .int .i64 (Mo.first [Mo.when false 2, Mo.allw ms (-1000) 1000])] 32) := heap_new rfl
 refine hK _ _ (hC.alloc hC.size _) ?_
 clear hK K
 replace hC := hC.call hb rfl
 have hB6 := hB5.call hb rfl
 replace hT0 := blkb hT0 hb
 replace hT1 := blkb hT1 hb
 replace H := H.below hb
 replace HP := HP.below hb
 replace HM := HM.below hb
 replace hst := hst.below hb
 clear hb hB5
 generalize hWn : w5.alloc (Obj.cells #[.int .i64 (Mo.surv c r l un ln most ps), .int .i64 (Mo.first [Mo.when false 2, Mo.allw ms (-1000) 1000])] 32) = w6 at k1 hC hB6 hT0 hT1 H HP HM hst ⊢
 clear hWn
 generalize hWn : w5.heap.size = bk1 at k1 ⊢
 clear hWn
 try simp only [Act.put, List.setIfInBounds_toArray, List.set_cons_zero, List.set_cons_succ]
 refine wpPlanA_hard _ rfl (by rfl) (fun w7 hS K hK => ?_)
 have hB7 := hB6.call hS rfl
 replace hC := hC.call hS rfl
 replace hT0 := blkb hT0 hS
 replace hT1 := blkb hT1 hS
 replace H := H.below hS
 replace HP := HP.below hS
 replace HM := HM.below hS
 replace hst := hst.below hS
 replace k1 := blkb k1 hS
 clear hS hB6
 go_simp
 refine (c89 _ 2 2 [Mo.surv c r l un ln most ps, Mo.first [Mo.when false 2, Mo.allw ms (-1000) 1000]] _ rfl (by omega) (RdS.of_block (cs := encI [Mo.surv c r l un ln most ps, Mo.first [Mo.when false 2, Mo.allw ms (-1000) 1000]]) k1 rfl)).mono ?_
 rintro e w' ⟨rfl, rfl⟩
 refine hK _ _ hC ?_
 clear hK K
 try simp only [Act.put, List.setIfInBounds_toArray, List.set_cons_zero, List.set_cons_succ]
 repeat (first | (refine wpPlanA_skip _ rfl (by rfl) ?_; simp only [Act.put, List.setIfInBounds_toArray, List.set_cons_zero, List.set_cons_succ]) | (refine wpPlanA_soft _ ?_ rfl (by rfl) ?_ ?_; rotate_left; (intro wq hq hcq; go_simp; first | exact rfl | exact ⟨rfl, rfl⟩); simp only [Act.put, List.setIfInBounds_toArray, List.set_cons_zero, List.set_cons_succ]))
 clear k1
 clear qhT0_0 qhT0_1 qhT0_2 qhT1_0 qhT1_1 qhT1_2 qhT1_3
 refine wpPlanA_nil (fun w8 hS => ?_)
 clear hC zhT0 zhT1
 have hB8 := hB7.call hS rfl
 replace hT0 := blkb hT0 hS
 replace hT1 := blkb hT1 hS
 replace H := H.below hS
 replace HP := HP.below hS
 replace HM := HM.below hS
 replace hst := hst.below hS
 clear hS hB7
 have qhT0_0 : w8.cell? ⟨w.heap.size, 0, none⟩ = some (.int .i64 c) := cell_at hT0 rfl
 have qhT0_1 : w8.cell? ⟨w.heap.size, 1, none⟩ = some (.int .i64 r) := cell_at hT0 rfl
 have qhT0_2 : w8.cell? ⟨w.heap.size, 2, none⟩ = some (.slice A n cap) := cell_at hT0 rfl
 have qhT1_0 : w8.cell? ⟨w.heap.size + 1, 0, none⟩ = some (.int .i64 un) := cell_at hT1 rfl
 have qhT1_1 : w8.cell? ⟨w.heap.size + 1, 1, none⟩ = some (.int .i64 (ln : Nat)) := cell_at hT1 rfl
 have qhT1_2 : w8.cell? ⟨w.heap.size + 1, 2, none⟩ = some (.int .i64 most) := cell_at hT1 rfl
 have qhT1_3 : w8.cell? ⟨w.heap.size + 1, 3, none⟩ = some (.slice P np capp) := cell_at hT1 rfl
 rw [HE.out]
 go_wp2_with fail
 go_wp2_with fail
 have hBq := hB8.size
 refine (c91 c r A n cap l un ln most P np capp ps M capm ms _ g hc hr hu hl256 hn16 hcp HCL.out HMB.out H HP HM hst).mono ?_
 rintro e w9 ⟨go, rfl, hgo, hro, hb⟩
 clear qhT0_0 qhT0_1 qhT0_2 qhT1_0 qhT1_1 qhT1_2 qhT1_3
 have hS := hb
 have hB9 := hB8.call hS rfl
 replace hT0 := blkb hT0 hS
 replace hT1 := blkb hT1 hS
 replace H := H.below hS
 replace HP := HP.below hS
 replace HM := HM.below hS
 replace hst := hst.below hS
 clear hS hB8
 have qhT0_0 : w9.cell? ⟨w.heap.size, 0, none⟩ = some (.int .i64 c) := cell_at hT0 rfl
 have qhT0_1 : w9.cell? ⟨w.heap.size, 1, none⟩ = some (.int .i64 r) := cell_at hT0 rfl
 have qhT0_2 : w9.cell? ⟨w.heap.size, 2, none⟩ = some (.slice A n cap) := cell_at hT0 rfl
 have qhT1_0 : w9.cell? ⟨w.heap.size + 1, 0, none⟩ = some (.int .i64 un) := cell_at hT1 rfl
 have qhT1_1 : w9.cell? ⟨w.heap.size + 1, 1, none⟩ = some (.int .i64 (ln : Nat)) := cell_at hT1 rfl
 have qhT1_2 : w9.cell? ⟨w.heap.size + 1, 2, none⟩ = some (.int .i64 most) := cell_at hT1 rfl
 have qhT1_3 : w9.cell? ⟨w.heap.size + 1, 3, none⟩ = some (.slice P np capp) := cell_at hT1 rfl
 clear hb
 have HRO := Lib.hid (hro.lower hBq)
 have HGO := Lib.hid (Nat.le_trans hBq hgo)
 clear hro
 go_wp2
 go_ret2
 exact ⟨go, rfl, HGO.out, HRO.out, hB9⟩
theorem c50_ok (c r : Nat) (A : Option Addr) (n cap : Nat) (l : List Int) (un : Int) (ln : Nat) (most : Int) (P : Option Addr) (np capp : Nat) (ps : List Pr) (D : Option Addr) (capd : Nat) (d : List (List Int)) (w : World) (g : Im.Gr c r l) (hc : c ≤ 16) (hr : r ≤ 16) (hcp : np ≤ capp) (H : RdI w A n l) (HP : RdP w P np ps) (HD : RdD w D np d) (hst : Steps w) (hE : Mo.dta c r l un ln most ps d = 0) :
  Calls Tryz.prog 50 #[.agg #[.int .i64 c, .int .i64 r, .slice A n cap], .agg #[.int .i64 un, .int .i64 (ln : Nat), .int .i64 most, .slice P np capp], .slice D np capd] w fun en w' => ∃ v, en = .returned (.tuple #[v, .int .i64 0]) ∧ w'.ownsRow w.heap.size 3 1 v n (encI (Im.image n (ps.map (dlp c l un ln most)) d)) ∧ Below w.heap.size w w' := by
 obtain ⟨hS, hml, hsh, hdv⟩ := Mo.dta_zero hE
 obtain ⟨_, hu, hln1, _, hnp, hcl⟩ := surv_ok hS
 have hl : n ≤ 1000000 := by have h1 := H.len; have := g.len; have : c * r ≤ 16 * 16 := Nat.mul_le_mul hc hr; omega
 have hpl := HP.len
 have hp : np ≤ 1000000 := by omega
 have HCL : Hid (∀ p, p ∈ ps → (0 ≤ p.s ∧ p.s < (n : Int)) ∧ (0 ≤ p.r ∧ p.r < (n : Int))) := Lib.hid (fun p hp => by have := hcl p hp; rw [H.len] at this; exact this)
 have hn16 : np ≤ 16 := by omega
 have hl256 : 1 ≤ ln ∧ ln ≤ 256 := by omega
 have hlens : ∀ x, x ∈ d → x.length ≤ 1000000 := fun x hx => by
  obtain ⟨j, hj, hxj⟩ := List.getElem_of_mem hx
  have hjp : j < ps.length := by omega
  have h := hsh j ps[j] x (List.getElem?_eq_getElem hjp) (by rw [← hxj]; exact List.getElem?_eq_getElem hj)
  unfold Mo.okT at h
  split at h <;> omega
 have HLE := Lib.hid hlens
 have HSH := Lib.hid hsh
 have HDV := Lib.hid hdv
 have HE : Hid (Mo.first [Mo.surv c r l un ln most ps, Mo.dat ln ps d] = 0) := Lib.hid hE
 clear hE hS hml hsh hdv hcl hpl hnp hlens
 obtain ⟨w0, hW⟩ : ∃ W, W = (w.alloc (Obj.cells #[.int .i64 c, .int .i64 r, .slice A n cap] 35)).alloc (Obj.cells #[.int .i64 un, .int .i64 (ln : Nat), .int .i64 most, .slice P np capp] 39) := ⟨_, rfl⟩
 have hT0 : w0.heap[w.heap.size]? = some (.cells #[.int .i64 c, .int .i64 r, .slice A n cap] 35 (0, 0)) := by rw [hW]; exact heap_old (by simp <;> omega) (heap_new (by simp))
 have hT1 : w0.heap[w.heap.size + 1]? = some (.cells #[.int .i64 un, .int .i64 (ln : Nat), .int .i64 most, .slice P np capp] 39 (0, 0)) := by rw [hW]; exact heap_new (by simp)
 have hB0 : Below w.heap.size w w0 := by rw [hW]; exact (((Below.refl _ _).alloc (by first | omega | (simp <;> omega)) _).alloc (by first | omega | (simp <;> omega)) _)
 replace H := H.below hB0
 replace HP := HP.below hB0
 replace HD := HD.below hB0
 replace hst := hst.below hB0
 go_enter Tryz.func50, Tryz.ntmps50
 go_wp2_with fail
 rw [← hW]
 clear hW
 have qhT0_0 : w0.cell? ⟨w.heap.size, 0, none⟩ = some (.int .i64 c) := cell_at hT0 rfl
 have qhT0_1 : w0.cell? ⟨w.heap.size, 1, none⟩ = some (.int .i64 r) := cell_at hT0 rfl
 have qhT0_2 : w0.cell? ⟨w.heap.size, 2, none⟩ = some (.slice A n cap) := cell_at hT0 rfl
 have qhT1_0 : w0.cell? ⟨w.heap.size + 1, 0, none⟩ = some (.int .i64 un) := cell_at hT1 rfl
 have qhT1_1 : w0.cell? ⟨w.heap.size + 1, 1, none⟩ = some (.int .i64 (ln : Nat)) := cell_at hT1 rfl
 have qhT1_2 : w0.cell? ⟨w.heap.size + 1, 2, none⟩ = some (.int .i64 most) := cell_at hT1 rfl
 have qhT1_3 : w0.cell? ⟨w.heap.size + 1, 3, none⟩ = some (.slice P np capp) := cell_at hT1 rfl
 go_wp2_with fail
 refine (c102 c r A n cap l un ln most P np capp ps D np capd d _ hl hp hp HLE.out HP HD H).mono ?_
 rintro e w1 ⟨rfl, hb⟩
 clear qhT0_0 qhT0_1 qhT0_2 qhT1_0 qhT1_1 qhT1_2 qhT1_3
 have hS := hb
 have hB1 := hB0.call hS rfl
 replace hT0 := blkb hT0 hS
 replace hT1 := blkb hT1 hS
 replace H := H.below hS
 replace HP := HP.below hS
 replace HD := HD.below hS
 replace hst := hst.below hS
 clear hS hB0
 have qhT0_0 : w1.cell? ⟨w.heap.size, 0, none⟩ = some (.int .i64 c) := cell_at hT0 rfl
 have qhT0_1 : w1.cell? ⟨w.heap.size, 1, none⟩ = some (.int .i64 r) := cell_at hT0 rfl
 have qhT0_2 : w1.cell? ⟨w.heap.size, 2, none⟩ = some (.slice A n cap) := cell_at hT0 rfl
 have qhT1_0 : w1.cell? ⟨w.heap.size + 1, 0, none⟩ = some (.int .i64 un) := cell_at hT1 rfl
 have qhT1_1 : w1.cell? ⟨w.heap.size + 1, 1, none⟩ = some (.int .i64 (ln : Nat)) := cell_at hT1 rfl
 have qhT1_2 : w1.cell? ⟨w.heap.size + 1, 2, none⟩ = some (.int .i64 most) := cell_at hT1 rfl
 have qhT1_3 : w1.cell? ⟨w.heap.size + 1, 3, none⟩ = some (.slice P np capp) := cell_at hT1 rfl
 clear hb
 rw [HE.out]
 go_wp2_with fail
 go_wp2_with fail
 have hBq := hB1.size
 refine (c104 c r A n cap l un ln most P np capp ps D capd d _ g hc hr hu hl256 hn16 hcp HCL.out HSH.out HDV.out H HP HD hst).mono ?_
 rintro e w2 ⟨vo, rfl, hro, hb⟩
 clear qhT0_0 qhT0_1 qhT0_2 qhT1_0 qhT1_1 qhT1_2 qhT1_3
 have hS := hb
 have hB2 := hB1.call hS rfl
 replace hT0 := blkb hT0 hS
 replace hT1 := blkb hT1 hS
 replace H := H.below hS
 replace HP := HP.below hS
 replace HD := HD.below hS
 replace hst := hst.below hS
 clear hS hB1
 have qhT0_0 : w2.cell? ⟨w.heap.size, 0, none⟩ = some (.int .i64 c) := cell_at hT0 rfl
 have qhT0_1 : w2.cell? ⟨w.heap.size, 1, none⟩ = some (.int .i64 r) := cell_at hT0 rfl
 have qhT0_2 : w2.cell? ⟨w.heap.size, 2, none⟩ = some (.slice A n cap) := cell_at hT0 rfl
 have qhT1_0 : w2.cell? ⟨w.heap.size + 1, 0, none⟩ = some (.int .i64 un) := cell_at hT1 rfl
 have qhT1_1 : w2.cell? ⟨w.heap.size + 1, 1, none⟩ = some (.int .i64 (ln : Nat)) := cell_at hT1 rfl
 have qhT1_2 : w2.cell? ⟨w.heap.size + 1, 2, none⟩ = some (.int .i64 most) := cell_at hT1 rfl
 have qhT1_3 : w2.cell? ⟨w.heap.size + 1, 3, none⟩ = some (.slice P np capp) := cell_at hT1 rfl
 clear hb
 have HRO := Lib.hid (own_lower hro hBq)
 clear hro
 go_wp2
 go_ret2
 exact ⟨vo, rfl, HRO.out, hB2⟩
end Go.Proofs.YtdimmlljjmmdbaaGreatDoor
namespace Go.Proofs.YtdimmlljjmmdbaaGreatDoor
open Go.RowKit
set_option maxHeartbeats 4000000
set_option maxRecDepth 20000
namespace Mo
theorem first_app {E : Int} (h : E ≠ 0) (ys : List Int) : ∀ xs : List Int, first xs = E → first (xs ++ ys) = E
 | [], e => absurd e.symm h
 | x :: xs, e => by
  rw [first_cons] at e
  rw [List.cons_append, first_cons]
  by_cases hx : x = 0
  ·rw [if_neg (by simp [hx])] at e ⊢
   exact first_app h ys xs e
  ·rw [if_pos (by simpa using hx)] at e ⊢
   exact e
theorem surv_a {c r : Int} {l : List Int} {un len most : Int} {ps : List Pr} {E : Int} (hE : first [ground c r l, range un 1 1000, range len 1 256, range most 0 256] = E) (h : E ≠ 0) : surv c r l un len most ps = E := by
 have e : surv0 c r l un len most ps.length = E := first_app h [when (decide (16 < (ps.length : Int))) 5] _ hE
 unfold surv
 rw [e, first_nz h]
theorem surv_b {c r : Int} {l : List Int} {un len most : Int} {ps : List Pr} (hE : first [ground c r l, range un 1 1000, range len 1 256, range most 0 256] = 0) (h : 16 < ps.length) : surv c r l un len most ps = 5 := by
 have h1 := first_zero hE
 have e1 := h1 (ground c r l) (by simp)
 have e2 := h1 (range un 1 1000) (by simp)
 have e3 := h1 (range len 1 256) (by simp)
 have e4 := h1 (range most 0 256) (by simp)
 have e5 : decide (16 < (ps.length : Int)) = true := by simp; omega
 unfold surv surv0
 rw [e1, e2, e3, e4, e5]; rfl
theorem surv_c {c r : Int} {l : List Int} {un len most : Int} {ps : List Pr} (hE : first [ground c r l, range un 1 1000, range len 1 256, range most 0 256] = 0) (h : ¬ 16 < ps.length) : surv c r l un len most ps = first (ps.map (pair l.length)) := by
 have h1 := first_zero hE
 have e1 := h1 (ground c r l) (by simp)
 have e2 := h1 (range un 1 1000) (by simp)
 have e3 := h1 (range len 1 256) (by simp)
 have e4 := h1 (range most 0 256) (by simp)
 have e5 : decide (16 < (ps.length : Int)) = false := by simp; omega
 unfold surv surv0
 rw [e1, e2, e3, e4, e5]
 have : first [0, 0, 0, 0, when false 5] = 0 := rfl
 rw [this, first_z rfl, first_one]
end Mo
def ShP (Q : Prop) (e : Ending) : Prop := ∃ b : Bool, e = .returned (.bool b) ∧ (b = true → Q)
theorem c16 (c r : Int) (A : Option Addr) (n cap : Nat) (w : World) :
  Calls Tryz.prog 16 #[.agg #[.int .i64 c, .int .i64 r, .slice A n cap]] w fun en w' => ShP (n ≤ 30) en ∧ Below w.heap.size w w' := by
 have hB : Below w.heap.size w (w.alloc (Obj.cells #[.int .i64 c, .int .i64 r, .slice A n cap] 24)) := (Below.refl _ _).alloc (Nat.le_refl _) _
 go_enter Tryz.func16, Tryz.ntmps16
 go_wp2
 all_goals go_ret
 all_goals exact ⟨⟨_, rfl, by simp <;> omega⟩, hB⟩
theorem c17 (un len most : Int) (P : Option Addr) (np capp : Nat) (w : World) :
  Calls Tryz.prog 17 #[.agg #[.int .i64 un, .int .i64 len, .int .i64 most, .slice P np capp]] w fun en w' => ShP (np ≤ 17) en ∧ Below w.heap.size w w' := by
 have hB : Below w.heap.size w (w.alloc (Obj.cells #[.int .i64 un, .int .i64 len, .int .i64 most, .slice P np capp] 27)) := (Below.refl _ _).alloc (Nat.le_refl _) _
 go_enter Tryz.func17, Tryz.ntmps17
 go_wp2
 all_goals go_ret
 all_goals exact ⟨⟨_, rfl, by simp <;> omega⟩, hB⟩
theorem c48 (D : Option Addr) (m capd : Nat) (d : List (List Int)) (w : World) (hd : m ≤ 9223372036854775807) (HD : RdD w D m d) :
  Calls Tryz.prog 48 #[.slice D m capd] w fun en w' => ShP (m ≤ 17 ∧ ∀ x, x ∈ d → x.length ≤ 45) en ∧ Below w.heap.size w w' := by
 have HDN := Lib.hid HD.len
 go_enter Tryz.func48, Tryz.ntmps48
 go_wp2
 go_loopw [3] (fun i wr => ∃ k : Nat, k ≤ m ∧ i = .int .i64 k ∧ Hid (∀ (j : Nat) (x : List Int), j < k → d[j]? = some x → x.length ≤ 45) ∧ Below w.heap.size w wr) (fun i _ => m - (intOf i).toNat)
 case atStart => exact ⟨0, Nat.zero_le _, rfl, Lib.hid (fun j _ h => absurd h (Nat.not_lt_zero j)), Below.refl _ _⟩
 case round =>
  obtain ⟨k, hk, rfl, HC, hB⟩ := hrel
  by_cases hlt : k < m
  ·have hwk : IntKind.i64.wrap ((k : Int) + 1) = ((k + 1 : Nat) : Int) := by rw [wrapI (by omega)]; simp
   have hkm2 : (k : Int) < (m : Int) := by omega
   have hk02 : (0 : Int) ≤ (k : Int) := by omega
   obtain ⟨db, doff, x, xa, xc, rfl, hx, hdb, hdc, hrx⟩ := (HD.below hB).at hlt
   have HX := Lib.hid hx
   clear hx hrx
   by_cases hx45 : x.length ≤ 45
   ·have hd1 : decide ((45 : Int) < (x.length : Int)) = false := by simp; omega
    have HC2 : Hid (∀ (j : Nat) (y : List Int), j < k + 1 → d[j]? = some y → y.length ≤ 45) := Lib.hid (fun j y hj hy => by
     by_cases h : j = k
     ·subst h; rw [HX.out] at hy; cases hy; exact hx45
     ·exact HC.out j y (by omega) hy)
    go_wp2
    go_roundw
    case rel => exact ⟨k + 1, by omega, rfl, HC2, hB⟩
    case measure => simp [intOf]; omega
   ·have hd1 : decide ((45 : Int) < (x.length : Int)) = true := by simp; omega
    go_wp2
    go_ret
    exact ⟨⟨false, rfl, fun h => by cases h⟩, hB⟩
  ·obtain rfl : m = k := by omega
   have HA : Hid (∀ x, x ∈ d → x.length ≤ 45) := Lib.hid (fun x hx => by
    obtain ⟨j, hj, hxj⟩ := List.getElem_of_mem hx
    exact HC.out j x (by rw [← HDN.out]; exact hj) (by rw [← hxj]; exact List.getElem?_eq_getElem hj))
   go_wp2
   all_goals go_ret
   all_goals exact ⟨⟨_, rfl, fun h => ⟨by simp at h; omega, HA.out⟩⟩, hB⟩
theorem c26 (c r : Int) (A : Option Addr) (n cap : Nat) (l : List Int) (un len most : Int) (P : Option Addr) (np capp : Nat) (ps : List Pr) (w : World) (hl : n ≤ 1000000) (hp : np ≤ 1000000) (H : RdI w A n l) (HP : RdP w P np ps) :
  Calls Tryz.prog 26 #[.agg #[.int .i64 c, .int .i64 r, .slice A n cap], .agg #[.int .i64 un, .int .i64 len, .int .i64 most, .slice P np capp]] w fun en w' => en = .returned (.int .i64 (Mo.surv c r l un len most ps)) ∧ Below w.heap.size w w' := by
 have HLN := Lib.hid H.len
 have HPN := Lib.hid HP.len
 obtain ⟨E, hE⟩ : ∃ E, E = Mo.first [Mo.ground c r l, Mo.range un 1 1000, Mo.range len 1 256, Mo.range most 0 256] := ⟨_, rfl⟩
 obtain ⟨V, hV⟩ : ∃ V, V = Mo.surv c r l un len most ps := ⟨_, rfl⟩
 have HE := Lib.hid hE
 have HA : Hid (E ≠ 0 → V = E) := Lib.hid (fun h => by rw [hV, Mo.surv_a hE.symm h])
 have HC1 : Hid (E = 0 → 16 < np → V = 5) := Lib.hid (fun h h2 => by rw [hV, Mo.surv_b (by rw [← hE, h]) (by rw [HPN.out]; exact h2)])
 have HC2 : Hid (E = 0 → ¬ 16 < np → V = Mo.first (ps.map (Mo.pair n))) := Lib.hid (fun h h2 => by rw [hV, Mo.surv_c (by rw [← hE, h]) (by rw [HPN.out]; exact h2), HLN.out])
 rw [← hV]
 clear hE hV
 obtain ⟨w0, hW⟩ : ∃ W, W = (w.alloc (Obj.cells #[.int .i64 c, .int .i64 r, .slice A n cap] 24)).alloc (Obj.cells #[.int .i64 un, .int .i64 len, .int .i64 most, .slice P np capp] 27) := ⟨_, rfl⟩
 have hT0 : w0.heap[w.heap.size]? = some (.cells #[.int .i64 c, .int .i64 r, .slice A n cap] 24 (0, 0)) := by rw [hW]; exact heap_old (by simp <;> omega) (heap_new (by simp))
 have hT1 : w0.heap[w.heap.size + 1]? = some (.cells #[.int .i64 un, .int .i64 len, .int .i64 most, .slice P np capp] 27 (0, 0)) := by rw [hW]; exact heap_new (by simp)
 have hB0 : Below w.heap.size w w0 := by rw [hW]; exact (((Below.refl _ _).alloc (by first | omega | (simp <;> omega)) _).alloc (by first | omega | (simp <;> omega)) _)
 replace H := H.below hB0
 replace HP := HP.below hB0
 go_enter Tryz.func26, Tryz.ntmps26
 go_wp2_with fail
 rw [← hW]
 clear hW
 have qhT0_0 : w0.cell? ⟨w.heap.size, 0, none⟩ = some (.int .i64 c) := cell_at hT0 rfl
 have qhT0_1 : w0.cell? ⟨w.heap.size, 1, none⟩ = some (.int .i64 r) := cell_at hT0 rfl
 have qhT0_2 : w0.cell? ⟨w.heap.size, 2, none⟩ = some (.slice A n cap) := cell_at hT0 rfl
 have qhT1_0 : w0.cell? ⟨w.heap.size + 1, 0, none⟩ = some (.int .i64 un) := cell_at hT1 rfl
 have qhT1_1 : w0.cell? ⟨w.heap.size + 1, 1, none⟩ = some (.int .i64 len) := cell_at hT1 rfl
 have qhT1_2 : w0.cell? ⟨w.heap.size + 1, 2, none⟩ = some (.int .i64 most) := cell_at hT1 rfl
 have qhT1_3 : w0.cell? ⟨w.heap.size + 1, 3, none⟩ = some (.slice P np capp) := cell_at hT1 rfl
 refine wp_region_plan [(0, true), (2, true), (3, true), (5, true), (6, true), (8, true), (9, true), (1, false), (4, false), (7, false), (10, false), (11, false), (12, false), (13, true)] w0.heap.size (by kernel_rfl) (by kernel_rfl) (Nat.le_refl _) (fun _ _ d _ _ h => by cases d <;> exact h) ?_
 have hC : Below w0.heap.size w0 w0 := Below.refl _ _
 have zhT0 : w.heap.size < w0.heap.size := (Array.getElem?_eq_some_iff.1 hT0).1
 have zhT1 : w.heap.size + 1 < w0.heap.size := (Array.getElem?_eq_some_iff.1 hT1).1
 repeat (first | (refine wpPlanA_skip _ rfl (by rfl) ?_; simp only [Act.put, List.setIfInBounds_toArray, List.set_cons_zero, List.set_cons_succ]) | (refine wpPlanA_soft _ ?_ rfl (by rfl) ?_ ?_; rotate_left; (intro wq hq hcq; go_simp; first | exact rfl | exact ⟨rfl, rfl⟩); simp only [Act.put, List.setIfInBounds_toArray, List.set_cons_zero, List.set_cons_succ]))
 refine wpPlanA_hard _ rfl (by rfl) (fun w1 hS K hK => ?_)
 have hB1 := hB0.call hS rfl
 replace hC := hC.call hS rfl
 replace hT0 := blkb hT0 hS
 replace hT1 := blkb hT1 hS
 replace H := H.below hS
 replace HP := HP.below hS
 clear hS hB0
 go_simp
 refine (c65 c r A n cap l _ hl H).mono ?_
 rintro e w2 ⟨rfl, hb⟩
 have hB2 := hB1.call hb rfl
 replace hC := hC.call hb rfl
 replace hT0 := blkb hT0 hb
 replace hT1 := blkb hT1 hb
 replace H := H.below hb
 replace HP := HP.below hb
 clear hb hB1
 refine hK _ _ hC ?_
 clear hK K
 try simp only [Act.put, List.setIfInBounds_toArray, List.set_cons_zero, List.set_cons_succ]
 refine wpPlanA_hard _ rfl (by rfl) (fun w3 hS K hK => ?_)
 have hB3 := hB2.call hS rfl
 replace hC := hC.call hS rfl
 replace hT0 := blkb hT0 hS
 replace hT1 := blkb hT1 hS
 replace H := H.below hS
 replace HP := HP.below hS
 clear hS hB2
 go_simp
 refine (c42 un 1 1000 _).mono ?_
 rintro e w' ⟨rfl, rfl⟩
 refine hK _ _ hC ?_
 clear hK K
 try simp only [Act.put, List.setIfInBounds_toArray, List.set_cons_zero, List.set_cons_succ]
 refine wpPlanA_hard _ rfl (by rfl) (fun w4 hS K hK => ?_)
 have hB4 := hB3.call hS rfl
 replace hC := hC.call hS rfl
 replace hT0 := blkb hT0 hS
 replace hT1 := blkb hT1 hS
 replace H := H.below hS
 replace HP := HP.below hS
 clear hS hB3
 go_simp
 refine (c42 len 1 256 _).mono ?_
 rintro e w' ⟨rfl, rfl⟩
 refine hK _ _ hC ?_
 clear hK K
 try simp only [Act.put, List.setIfInBounds_toArray, List.set_cons_zero, List.set_cons_succ]
 refine wpPlanA_hard _ rfl (by rfl) (fun w5 hS K hK => ?_)
 have hB5 := hB4.call hS rfl
 replace hC := hC.call hS rfl
 replace hT0 := blkb hT0 hS
 replace hT1 := blkb hT1 hS
 replace H := H.below hS
 replace HP := HP.below hS
 clear hS hB4
 go_simp
 refine (c42 most 0 256 _).mono ?_
 rintro e w' ⟨rfl, rfl⟩
 refine hK _ _ hC ?_
 clear hK K
 try simp only [Act.put, List.setIfInBounds_toArray, List.set_cons_zero, List.set_cons_succ]
 refine wpPlanA_hard _ rfl (by rfl) (fun w6 hS K hK => ?_)
 have hB6 := hB5.call hS rfl
 replace hC := hC.call hS rfl
 replace hT0 := blkb hT0 hS
 replace hT1 := blkb hT1 hS
 replace H := H.below hS
 replace HP := HP.below hS
 clear hS hB5
 go_simp
 have hb : Below w6.heap.size w6 (w6.alloc (Obj.cells #[.int .i64 (Mo.ground c r l), .int .i64 (Mo.range un 1 1000), .int .i64 (Mo.range len 1 256), .int .i64 (Mo.range most 0 256)] 3)) := (Below.refl _ _).alloc (Nat.le_refl _) _
 have k1 : (w6.alloc (Obj.cells #[.int .i64 (Mo.ground c r l), .int .i64 (Mo.range un 1 1000), .int .i64 (Mo.range len 1 256), .int .i64 (Mo.range most 0 256)] 3)).heap[w6.heap.size]? = some (Obj.cells #[.int .i64 (Mo.ground c r l), .int .i64 (Mo.range un 1 1000), .int .i64 (Mo.range len 1 256), .int .i64 (Mo.range most 0 256)] 3) := heap_new rfl
 refine hK _ _ (hC.alloc hC.size _) ?_
 clear hK K
 replace hC := hC.call hb rfl
 have hB7 := hB6.call hb rfl
 replace hT0 := blkb hT0 hb
 replace hT1 := blkb hT1 hb
 replace H := H.below hb
 replace HP := HP.below hb
 clear hb hB6
 generalize hWn : w6.alloc (Obj.cells #[.int .i64 (Mo.ground c r l), .int .i64 (Mo.range un 1 1000), .int .i64 (Mo.range len 1 256), .int .i64 (Mo.range most 0 256)] 3) = w7 at k1 hC hB7 hT0 hT1 H HP ⊢
 clear hWn
 generalize hWn : w6.heap.size = bk1 at k1 ⊢
 clear hWn
 try simp only [Act.put, List.setIfInBounds_toArray, List.set_cons_zero, List.set_cons_succ]
 refine wpPlanA_hard _ rfl (by rfl) (fun w8 hS K hK => ?_)
 have hB8 := hB7.call hS rfl
 replace hC := hC.call hS rfl
 replace hT0 := blkb hT0 hS
 replace hT1 := blkb hT1 hS
 replace H := H.below hS
 replace HP := HP.below hS
 replace k1 := blkb k1 hS
 clear hS hB7
 go_simp
 refine (c98 _ 4 4 [Mo.ground c r l, Mo.range un 1 1000, Mo.range len 1 256, Mo.range most 0 256] _ rfl (by omega) (RdS.of_block (cs := encI [Mo.ground c r l, Mo.range un 1 1000, Mo.range len 1 256, Mo.range most 0 256]) k1 rfl)).mono ?_
 rintro e w' ⟨rfl, rfl⟩
 refine hK _ _ hC ?_
 clear hK K
 try simp only [Act.put, List.setIfInBounds_toArray, List.set_cons_zero, List.set_cons_succ]
 repeat (first | (refine wpPlanA_skip _ rfl (by rfl) ?_; simp only [Act.put, List.setIfInBounds_toArray, List.set_cons_zero, List.set_cons_succ]) | (refine wpPlanA_soft _ ?_ rfl (by rfl) ?_ ?_; rotate_left; (intro wq hq hcq; go_simp; first | exact rfl | exact ⟨rfl, rfl⟩); simp only [Act.put, List.setIfInBounds_toArray, List.set_cons_zero, List.set_cons_succ]))
 clear k1
 clear qhT0_0 qhT0_1 qhT0_2 qhT1_0 qhT1_1 qhT1_2 qhT1_3
 refine wpPlanA_nil (fun w9 hS => ?_)
 clear hC zhT0 zhT1
 have hB9 := hB8.call hS rfl
 replace hT0 := blkb hT0 hS
 replace hT1 := blkb hT1 hS
 replace H := H.below hS
 replace HP := HP.below hS
 clear hS hB8
 have qhT0_0 : w9.cell? ⟨w.heap.size, 0, none⟩ = some (.int .i64 c) := cell_at hT0 rfl
 have qhT0_1 : w9.cell? ⟨w.heap.size, 1, none⟩ = some (.int .i64 r) := cell_at hT0 rfl
 have qhT0_2 : w9.cell? ⟨w.heap.size, 2, none⟩ = some (.slice A n cap) := cell_at hT0 rfl
 have qhT1_0 : w9.cell? ⟨w.heap.size + 1, 0, none⟩ = some (.int .i64 un) := cell_at hT1 rfl
 have qhT1_1 : w9.cell? ⟨w.heap.size + 1, 1, none⟩ = some (.int .i64 len) := cell_at hT1 rfl
 have qhT1_2 : w9.cell? ⟨w.heap.size + 1, 2, none⟩ = some (.int .i64 most) := cell_at hT1 rfl
 have qhT1_3 : w9.cell? ⟨w.heap.size + 1, 3, none⟩ = some (.slice P np capp) := cell_at hT1 rfl
 rw [← HE.out]
 by_cases hE0 : E = 0
 rotate_left
 ·
   have hef : (E != 0) = true := by simpa using hE0
   have HAE := Lib.hid (HA.out hE0)
   clear hE0
   go_wp2
   go_ret
   exact ⟨ret_int HAE.out.symm, hB9⟩
 have hef : (E != 0) = false := by simp [hE0]
 by_cases h16 : 16 < np
 ·
   have hd16 : decide ((16 : Int) < (np : Int)) = true := by simp; omega
   have HAE := Lib.hid (HC1.out hE0 h16)
   clear hE0
   go_wp2
   go_ret
   exact ⟨ret_int HAE.out.symm, hB9⟩
 have hd16 : decide ((16 : Int) < (np : Int)) = false := by simp; omega
 have HV := Lib.hid (HC2.out hE0 h16)
 clear hE0
 have hst0 : Hid (V = Mo.first ((ps.map (Mo.pair n)).drop 0)) := Lib.hid HV.out
 go_wp2_with fail
 go_loopw [6] (fun i wr => ∃ k : Nat, k ≤ np ∧ i = .int .i64 k ∧ Hid (V = Mo.first ((ps.map (Mo.pair n)).drop k)) ∧ Below w9.heap.size w9 wr) (fun i _ => np - (intOf i).toNat)
 case atStart => exact ⟨0, Nat.zero_le _, rfl, hst0, Below.refl _ _⟩
 case round =>
  clear hst0
  obtain ⟨k, hk, rfl, HVK, hbr⟩ := hrel
  obtain ⟨w10, hww⟩ : ∃ W, W = wr := ⟨_, rfl⟩
  subst hww
  have hB10 := hB9.call hbr rfl
  replace hT0 := blkb hT0 hbr
  replace hT1 := blkb hT1 hbr
  replace H := H.below hbr
  replace HP := HP.below hbr
  clear hB9
  have qhT0_0 : w10.cell? ⟨w.heap.size, 0, none⟩ = some (.int .i64 c) := cell_at hT0 rfl
  have qhT0_1 : w10.cell? ⟨w.heap.size, 1, none⟩ = some (.int .i64 r) := cell_at hT0 rfl
  have qhT0_2 : w10.cell? ⟨w.heap.size, 2, none⟩ = some (.slice A n cap) := cell_at hT0 rfl
  have qhT1_0 : w10.cell? ⟨w.heap.size + 1, 0, none⟩ = some (.int .i64 un) := cell_at hT1 rfl
  have qhT1_1 : w10.cell? ⟨w.heap.size + 1, 1, none⟩ = some (.int .i64 len) := cell_at hT1 rfl
  have qhT1_2 : w10.cell? ⟨w.heap.size + 1, 2, none⟩ = some (.int .i64 most) := cell_at hT1 rfl
  have qhT1_3 : w10.cell? ⟨w.heap.size + 1, 3, none⟩ = some (.slice P np capp) := cell_at hT1 rfl
  have hwk : IntKind.i64.wrap ((k : Int) + 1) = ((k + 1 : Nat) : Int) := by rw [wrapI (by omega)]; simp
  by_cases hlt : k < np
  rotate_left
  ·
    obtain rfl : np = k := by omega
    have HV0 : Hid (V = 0) := Lib.hid (by
     rw [HVK.out, List.drop_of_length_le (by rw [List.length_map, HPN.out]; exact Nat.le_refl _)]; rfl)
    go_wp2
    go_ret
    exact ⟨ret_int HV0.out.symm, hB10⟩
  have hkm2 : (k : Int) < (np : Int) := by omega
  have hk02 : (0 : Int) ≤ (k : Int) := by omega
  obtain ⟨pb, poff, p, rfl, hpx, hpb, hp0, hp1, hp2⟩ := HP.at hlt
  have HPX := Lib.hid hpx
  have HST : Hid (V = if Mo.pair n p ≠ 0 then Mo.pair n p else Mo.first ((ps.map (Mo.pair n)).drop (k + 1))) := Lib.hid (by
   rw [HVK.out, Mo.first_drop _ k (by rw [List.length_map, HPN.out]; exact hlt)]
   have : (ps.map (Mo.pair n))[k]'(by rw [List.length_map, HPN.out]; exact hlt) = Mo.pair n p := by
    have h := List.getElem?_eq_some_iff.1 hpx
    obtain ⟨h1, h2⟩ := h
    simp [h2]
   rw [this])
  clear hpx hp2
  go_wp2_with fail
  refine wp_region_plan [(0, true), (1, true), (2, true), (3, true), (4, true), (5, true), (6, true), (8, true), (9, true), (10, true), (11, true), (12, true), (13, true), (14, true), (7, false), (15, false), (16, false), (17, false), (18, true)] w10.heap.size (by kernel_rfl) (by kernel_rfl) (Nat.le_refl _) (fun _ _ d _ _ h => by cases d <;> exact h) ?_
  have hC : Below w10.heap.size w10 w10 := Below.refl _ _
  have zhT0 : w.heap.size < w10.heap.size := (Array.getElem?_eq_some_iff.1 hT0).1
  have zhT1 : w.heap.size + 1 < w10.heap.size := (Array.getElem?_eq_some_iff.1 hT1).1
  repeat (first | (refine wpPlanA_skip _ rfl (by rfl) ?_; simp only [Act.put, List.setIfInBounds_toArray, List.set_cons_zero, List.set_cons_succ]) | (refine wpPlanA_soft _ ?_ rfl (by rfl) ?_ ?_; rotate_left; (intro wq hq hcq; go_simp; first | exact rfl | exact ⟨rfl, rfl⟩); simp only [Act.put, List.setIfInBounds_toArray, List.set_cons_zero, List.set_cons_succ]))
  refine wpPlanA_hard _ rfl (by rfl) (fun w11 hS K hK => ?_)
  have hB11 := hB10.call hS rfl
  replace hC := hC.call hS rfl
  replace hT0 := blkb hT0 hS
  replace hT1 := blkb hT1 hS
  replace H := H.below hS
  replace HP := HP.below hS
  replace hbr := hbr.call hS rfl
  clear hS hB10
  go_simp
  refine (c47 c r A n cap p.s _).mono ?_
  rintro e w12 ⟨rfl, hb⟩
  have hB12 := hB11.call hb rfl
  replace hC := hC.call hb rfl
  replace hT0 := blkb hT0 hb
  replace hT1 := blkb hT1 hb
  replace H := H.below hb
  replace HP := HP.below hb
  replace hbr := hbr.call hb rfl
  clear hb hB11
  refine hK _ _ hC ?_
  clear hK K
  try simp only [Act.put, List.setIfInBounds_toArray, List.set_cons_zero, List.set_cons_succ]
  refine wpPlanA_hard _ rfl (by rfl) (fun w13 hS K hK => ?_)
  have hB13 := hB12.call hS rfl
  replace hC := hC.call hS rfl
  replace hT0 := blkb hT0 hS
  replace hT1 := blkb hT1 hS
  replace H := H.below hS
  replace HP := HP.below hS
  replace hbr := hbr.call hS rfl
  clear hS hB12
  go_simp
  refine (c47 c r A n cap p.r _).mono ?_
  rintro e w14 ⟨rfl, hb⟩
  have hB14 := hB13.call hb rfl
  replace hC := hC.call hb rfl
  replace hT0 := blkb hT0 hb
  replace hT1 := blkb hT1 hb
  replace H := H.below hb
  replace HP := HP.below hb
  replace hbr := hbr.call hb rfl
  clear hb hB13
  refine hK _ _ hC ?_
  clear hK K
  try simp only [Act.put, List.setIfInBounds_toArray, List.set_cons_zero, List.set_cons_succ]
  refine wpPlanA_hard _ rfl (by rfl) (fun w15 hS K hK => ?_)
  have hB15 := hB14.call hS rfl
  replace hC := hC.call hS rfl
  replace hT0 := blkb hT0 hS
  replace hT1 := blkb hT1 hS
  replace H := H.below hS
  replace HP := HP.below hS
  replace hbr := hbr.call hS rfl
  clear hS hB14
  go_simp
  have hb : Below w15.heap.size w15 (w15.alloc (Obj.cells #[.int .i64 (Mo.cell n p.s), .int .i64 (Mo.cell n p.r)] 3)) := (Below.refl _ _).alloc (Nat.le_refl _) _
  have k1 : (w15.alloc (Obj.cells #[.int .i64 (Mo.cell n p.s), .int .i64 (Mo.cell n p.r)] 3)).heap[w15.heap.size]? = some (Obj.cells #[.int .i64 (Mo.cell n p.s), .int .i64 (Mo.cell n p.r)] 3) := heap_new rfl
  refine hK _ _ (hC.alloc hC.size _) ?_
  clear hK K
  replace hC := hC.call hb rfl
  have hB16 := hB15.call hb rfl
  replace hT0 := blkb hT0 hb
  replace hT1 := blkb hT1 hb
  replace H := H.below hb
  replace HP := HP.below hb
  replace hbr := hbr.call hb rfl
  clear hb hB15
  generalize hWn : w15.alloc (Obj.cells #[.int .i64 (Mo.cell n p.s), .int .i64 (Mo.cell n p.r)] 3) = w16 at k1 hC hB16 hT0 hT1 H HP hbr ⊢
  clear hWn
  generalize hWn : w15.heap.size = bk1 at k1 ⊢
  clear hWn
  try simp only [Act.put, List.setIfInBounds_toArray, List.set_cons_zero, List.set_cons_succ]
  refine wpPlanA_hard _ rfl (by rfl) (fun w17 hS K hK => ?_)
  have hB17 := hB16.call hS rfl
  replace hC := hC.call hS rfl
  replace hT0 := blkb hT0 hS
  replace hT1 := blkb hT1 hS
  replace H := H.below hS
  replace HP := HP.below hS
  replace hbr := hbr.call hS rfl
  replace k1 := blkb k1 hS
  clear hS hB16
  go_simp
  refine (c98 _ 2 2 [Mo.cell n p.s, Mo.cell n p.r] _ rfl (by omega) (RdS.of_block (cs := encI [Mo.cell n p.s, Mo.cell n p.r]) k1 rfl)).mono ?_
  rintro e w' ⟨rfl, rfl⟩
  refine hK _ _ hC ?_
  clear hK K
  try simp only [Act.put, List.setIfInBounds_toArray, List.set_cons_zero, List.set_cons_succ]
  repeat (first | (refine wpPlanA_skip _ rfl (by rfl) ?_; simp only [Act.put, List.setIfInBounds_toArray, List.set_cons_zero, List.set_cons_succ]) | (refine wpPlanA_soft _ ?_ rfl (by rfl) ?_ ?_; rotate_left; (intro wq hq hcq; go_simp; first | exact rfl | exact ⟨rfl, rfl⟩); simp only [Act.put, List.setIfInBounds_toArray, List.set_cons_zero, List.set_cons_succ]))
  clear k1
  clear hp0 hp1
  clear qhT0_0 qhT0_1 qhT0_2 qhT1_0 qhT1_1 qhT1_2 qhT1_3
  refine wpPlanA_nil (fun w18 hS => ?_)
  clear hC zhT0 zhT1
  have hB18 := hB17.call hS rfl
  replace hT0 := blkb hT0 hS
  replace hT1 := blkb hT1 hS
  replace H := H.below hS
  replace HP := HP.below hS
  replace hbr := hbr.call hS rfl
  clear hS hB17
  have qhT0_0 : w18.cell? ⟨w.heap.size, 0, none⟩ = some (.int .i64 c) := cell_at hT0 rfl
  have qhT0_1 : w18.cell? ⟨w.heap.size, 1, none⟩ = some (.int .i64 r) := cell_at hT0 rfl
  have qhT0_2 : w18.cell? ⟨w.heap.size, 2, none⟩ = some (.slice A n cap) := cell_at hT0 rfl
  have qhT1_0 : w18.cell? ⟨w.heap.size + 1, 0, none⟩ = some (.int .i64 un) := cell_at hT1 rfl
  have qhT1_1 : w18.cell? ⟨w.heap.size + 1, 1, none⟩ = some (.int .i64 len) := cell_at hT1 rfl
  have qhT1_2 : w18.cell? ⟨w.heap.size + 1, 2, none⟩ = some (.int .i64 most) := cell_at hT1 rfl
  have qhT1_3 : w18.cell? ⟨w.heap.size + 1, 3, none⟩ = some (.slice (some ⟨pb, poff, none⟩) np capp) := cell_at hT1 rfl
  have hpr : Mo.first [Mo.cell n p.s, Mo.cell n p.r] = Mo.pair n p := rfl
  rw [hpr]
  clear hpr
  generalize Mo.pair (n : Int) p = e at HST ⊢
  have HN := Lib.hid hbr
  by_cases he0 : e = 0
  ·
    have hef : (e != 0) = false := by simp [he0]
    have HV2 : Hid (V = Mo.first ((ps.map (Mo.pair n)).drop (k + 1))) := Lib.hid (by rw [HST.out, if_neg (by simp [he0])])
    clear hbr
    go_wp2
    go_roundw
    case rel => exact ⟨k + 1, by omega, rfl, HV2, HN.out⟩
    case measure => simp [intOf]; omega
  have hef2 : (e != 0) = true := by simpa using he0
  have HV2 : Hid (V = e) := Lib.hid (by rw [HST.out, if_pos he0])
  go_wp2
  go_ret
  exact ⟨ret_int HV2.out.symm, hB18⟩
theorem c110_ne (un len most : Int) (P : Option Addr) (np capp : Nat) (ps : List Pr) (D : Option Addr) (m capd : Nat) (d : List (List Int)) (w : World) (hmm : ¬ m = np) (hp : np ≤ 1000000) (hd : m ≤ 1000000) (hdl : ∀ x, x ∈ d → x.length ≤ 1000000) (HP : RdP w P np ps) (HD : RdD w D m d) :
  Calls Tryz.prog 110 #[.agg #[.int .i64 un, .int .i64 len, .int .i64 most, .slice P np capp], .slice D m capd] w fun en w' => en = .returned (.int .i64 (Mo.dat len ps d)) ∧ Below w.heap.size w w' := by
 have HPL := Lib.hid HP.len
 have HDL := Lib.hid HD.len
 have Hdl := Lib.hid hdl
 clear hdl
 obtain ⟨V, hV⟩ : ∃ V, V = Mo.dat len ps d := ⟨_, rfl⟩
 rw [← hV]
 have HV := Lib.hid hV
 clear hV
 have hne : ((m : Int) != (np : Int)) = true := by simp; omega
 have HV2 : Hid (V = 2) := Lib.hid (by rw [HV.out]; exact Mo.dat_len (by rw [HPL.out, HDL.out]; exact hmm))
 clear hmm
 obtain ⟨w0, hW⟩ : ∃ W, W = w.alloc (Obj.cells #[.int .i64 un, .int .i64 len, .int .i64 most, .slice P np capp] 27) := ⟨_, rfl⟩
 have hT0 : w0.heap[w.heap.size]? = some (.cells #[.int .i64 un, .int .i64 len, .int .i64 most, .slice P np capp] 27 (0, 0)) := by rw [hW]; exact heap_new (by simp)
 have hB0 : Below w.heap.size w w0 := by rw [hW]; exact ((Below.refl _ _).alloc (by first | omega | (simp <;> omega)) _)
 replace HP := HP.below hB0
 replace HD := HD.below hB0
 go_enter Tryz.func110, Tryz.ntmps110
 go_wp2_with fail
 rw [← hW]
 clear hW
 have qhT0_0 : w0.cell? ⟨w.heap.size, 0, none⟩ = some (.int .i64 un) := cell_at hT0 rfl
 have qhT0_1 : w0.cell? ⟨w.heap.size, 1, none⟩ = some (.int .i64 len) := cell_at hT0 rfl
 have qhT0_2 : w0.cell? ⟨w.heap.size, 2, none⟩ = some (.int .i64 most) := cell_at hT0 rfl
 have qhT0_3 : w0.cell? ⟨w.heap.size, 3, none⟩ = some (.slice P np capp) := cell_at hT0 rfl
 go_wp2
 go_ret
 exact ⟨ret_int HV2.out.symm, hB0⟩
theorem c110_eq (un len most : Int) (P : Option Addr) (m capp : Nat) (ps : List Pr) (D : Option Addr) (capd : Nat) (d : List (List Int)) (w : World) (hd : m ≤ 1000000) (hdl : ∀ x, x ∈ d → x.length ≤ 1000000) (HP : RdP w P m ps) (HD : RdD w D m d) :
  Calls Tryz.prog 110 #[.agg #[.int .i64 un, .int .i64 len, .int .i64 most, .slice P m capp], .slice D m capd] w fun en w' => en = .returned (.int .i64 (Mo.dat len ps d)) ∧ Below w.heap.size w w' := by
 have HPL := Lib.hid HP.len
 have HDL := Lib.hid HD.len
 have Hdl := Lib.hid hdl
 clear hdl
 obtain ⟨V, hV⟩ : ∃ V, V = Mo.dat len ps d := ⟨_, rfl⟩
 rw [← hV]
 have HV := Lib.hid hV
 clear hV
 have hne : ((m : Int) != (m : Int)) = false := by simp
 obtain ⟨w0, hW⟩ : ∃ W, W = w.alloc (Obj.cells #[.int .i64 un, .int .i64 len, .int .i64 most, .slice P m capp] 27) := ⟨_, rfl⟩
 have hT0 : w0.heap[w.heap.size]? = some (.cells #[.int .i64 un, .int .i64 len, .int .i64 most, .slice P m capp] 27 (0, 0)) := by rw [hW]; exact heap_new (by simp)
 have hB0 : Below w.heap.size w w0 := by rw [hW]; exact ((Below.refl _ _).alloc (by first | omega | (simp <;> omega)) _)
 replace HP := HP.below hB0
 replace HD := HD.below hB0
 go_enter Tryz.func110, Tryz.ntmps110
 go_wp2_with fail
 rw [← hW]
 clear hW
 have qhT0_0 : w0.cell? ⟨w.heap.size, 0, none⟩ = some (.int .i64 un) := cell_at hT0 rfl
 have qhT0_1 : w0.cell? ⟨w.heap.size, 1, none⟩ = some (.int .i64 len) := cell_at hT0 rfl
 have qhT0_2 : w0.cell? ⟨w.heap.size, 2, none⟩ = some (.int .i64 most) := cell_at hT0 rfl
 have qhT0_3 : w0.cell? ⟨w.heap.size, 3, none⟩ = some (.slice P m capp) := cell_at hT0 rfl
 have hst0 : Hid (∀ (j : Nat) (p : Pr) (x : List Int), j < 0 → ps[j]? = some p → d[j]? = some x → Mo.okT len p x) := Lib.hid (fun j _ _ h => absurd h (Nat.not_lt_zero j))
 go_loopw [5] (fun i wr => ∃ k : Nat, k ≤ m ∧ i = .int .i64 k ∧ Hid (∀ (j : Nat) (p : Pr) (x : List Int), j < k → ps[j]? = some p → d[j]? = some x → Mo.okT len p x) ∧ Below w0.heap.size w0 wr) (fun i _ => m - (intOf i).toNat)
 case atStart => exact ⟨0, Nat.zero_le _, rfl, hst0, Below.refl _ _⟩
 case round =>
  clear hst0
  obtain ⟨k, hk, rfl, HC, hbr⟩ := hrel
  obtain ⟨w1, hww⟩ : ∃ W, W = wr := ⟨_, rfl⟩
  subst hww
  have hB1 := hB0.call hbr rfl
  replace hT0 := blkb hT0 hbr
  replace HP := HP.below hbr
  replace HD := HD.below hbr
  clear hB0
  have qhT0_0 : w1.cell? ⟨w.heap.size, 0, none⟩ = some (.int .i64 un) := cell_at hT0 rfl
  have qhT0_1 : w1.cell? ⟨w.heap.size, 1, none⟩ = some (.int .i64 len) := cell_at hT0 rfl
  have qhT0_2 : w1.cell? ⟨w.heap.size, 2, none⟩ = some (.int .i64 most) := cell_at hT0 rfl
  have qhT0_3 : w1.cell? ⟨w.heap.size, 3, none⟩ = some (.slice P m capp) := cell_at hT0 rfl
  have hwk : IntKind.i64.wrap ((k : Int) + 1) = ((k + 1 : Nat) : Int) := by rw [wrapI (by omega)]; simp
  by_cases hlt : k < m
  rotate_left
  ·
    obtain rfl : m = k := by omega
    have HVF : Hid (V = Mo.first (d.map fun x => Mo.allw x (-1048576) 1048576)) := Lib.hid (by
     rw [HV.out]
     refine Mo.dat_ok (by rw [HPL.out, HDL.out]) (fun j p x hp hx => HC.out j p x ?_ hp hx)
     have : j < d.length := by
      by_cases h : j < d.length
      ·exact h
      ·rw [List.getElem?_eq_none (by omega)] at hx; cases hx
     rw [HDL.out] at this; exact this)
    have hst1 : Hid (V = Mo.first ((d.map fun x => Mo.allw x (-1048576) 1048576).drop 0)) := Lib.hid HVF.out
    clear hwk hlt hk
    go_wp2_with fail
    go_loopw [7] (fun i wr => ∃ k : Nat, k ≤ m ∧ i = .int .i64 k ∧ Hid (V = Mo.first ((d.map fun x => Mo.allw x (-1048576) 1048576).drop k)) ∧ Below w1.heap.size w1 wr) (fun i _ => m - (intOf i).toNat)
    case atStart => exact ⟨0, Nat.zero_le _, rfl, hst1, Below.refl _ _⟩
    case round =>
     clear hst1
     obtain ⟨k, hk, rfl, HVK, hbr2⟩ := hrel
     obtain ⟨w2, hww⟩ : ∃ W, W = wr := ⟨_, rfl⟩
     subst hww
     have hB2 := hB1.call hbr2 rfl
     replace hT0 := blkb hT0 hbr2
     replace HP := HP.below hbr2
     replace HD := HD.below hbr2
     replace hbr := hbr.call hbr2 rfl
     clear hB1
     have qhT0_0 : w2.cell? ⟨w.heap.size, 0, none⟩ = some (.int .i64 un) := cell_at hT0 rfl
     have qhT0_1 : w2.cell? ⟨w.heap.size, 1, none⟩ = some (.int .i64 len) := cell_at hT0 rfl
     have qhT0_2 : w2.cell? ⟨w.heap.size, 2, none⟩ = some (.int .i64 most) := cell_at hT0 rfl
     have qhT0_3 : w2.cell? ⟨w.heap.size, 3, none⟩ = some (.slice P m capp) := cell_at hT0 rfl
     have hwk : IntKind.i64.wrap ((k : Int) + 1) = ((k + 1 : Nat) : Int) := by rw [wrapI (by omega)]; simp
     by_cases hlt : k < m
     rotate_left
     ·
       obtain rfl : m = k := by omega
       have HV0 : Hid (V = 0) := Lib.hid (by
        rw [HVK.out, List.drop_of_length_le (by rw [List.length_map, HDL.out]; exact Nat.le_refl _)]; rfl)
       go_wp2
       go_ret
       exact ⟨ret_int HV0.out.symm, hB2⟩
     have hkm2 : (k : Int) < (m : Int) := by omega
     have hk02 : (0 : Int) ≤ (k : Int) := by omega
     obtain ⟨db, doff, x, xa, xc, rfl, hx, hdb, hdc, hrx⟩ := HD.at hlt
     have HST : Hid (V = if Mo.allw x (-1048576) 1048576 ≠ 0 then Mo.allw x (-1048576) 1048576 else Mo.first ((d.map fun x => Mo.allw x (-1048576) 1048576).drop (k + 1))) := Lib.hid (by
      rw [HVK.out, Mo.first_drop _ k (by rw [List.length_map, HDL.out]; exact hlt)]
      have : (d.map fun x => Mo.allw x (-1048576) 1048576)[k]'(by rw [List.length_map, HDL.out]; exact hlt) = Mo.allw x (-1048576) 1048576 := by
       obtain ⟨h1, h2⟩ := List.getElem?_eq_some_iff.1 hx
       simp [h2]
      rw [this])
     have hxl := Hdl.out x (List.mem_of_getElem? hx)
     clear hx
     go_wp2_with fail
     refine (c92 xa x.length xc x _ _ _ hxl hrx).mono ?_
     rintro e w' ⟨rfl, rfl⟩
     generalize Mo.allw x (-1048576) 1048576 = e at HST ⊢
     have HN := Lib.hid hbr2
     by_cases he0 : e = 0
     ·
       have hef : (e != 0) = false := by simp [he0]
       have HV2 : Hid (V = Mo.first ((d.map fun x => Mo.allw x (-1048576) 1048576).drop (k + 1))) := Lib.hid (by rw [HST.out, if_neg (by simp [he0])])
       clear hbr2
       go_wp2
       go_roundw
       case rel => exact ⟨k + 1, by omega, rfl, HV2, HN.out⟩
       case measure => simp [intOf]; omega
     have hef2 : (e != 0) = true := by simpa using he0
     have HV2 : Hid (V = e) := Lib.hid (by rw [HST.out, if_pos he0])
     go_wp2
     go_ret
     exact ⟨ret_int HV2.out.symm, hB2⟩
  have hkm2 : (k : Int) < (m : Int) := by omega
  have hk02 : (0 : Int) ≤ (k : Int) := by omega
  obtain ⟨db, doff, x, xa, xc, rfl, hx, hdb, hdc, hrx⟩ := HD.at hlt
  obtain ⟨pb, poff, p, rfl, hpx, hpb, hp0, hp1, hp2⟩ := HP.at hlt
  obtain ⟨p0, p1, ph⟩ := p
  have HX := Lib.hid hx
  have HPX := Lib.hid hpx
  clear hx hpx hrx hp0 hp1
  have HN := Lib.hid hbr
  clear hbr
  cases ph
  ·
    by_cases hxl : (x.length : Int) = len
    ·
      have hx1 : ((x.length : Int) != len) = false := by simp [hxl]
      have HXL := Lib.hid hxl
      clear hxl
      have HC2 : Hid (∀ (j : Nat) (p : Pr) (y : List Int), j < k + 1 → ps[j]? = some p → d[j]? = some y → Mo.okT len p y) := Lib.hid (fun j p y hj hp hy => by
       by_cases h : j = k
       ·subst h
        rw [HX.out] at hy; rw [HPX.out] at hp
        cases hy; cases hp
        simp [Mo.okT]; exact HXL.out
       ·exact HC.out j p y (by omega) hp hy)
      go_wp2
      go_roundw
      case rel => exact ⟨k + 1, by omega, rfl, HC2, HN.out⟩
      case measure => simp [intOf]; omega
    ·
      have hx1 : ((x.length : Int) != len) = true := by simpa using hxl
      have HXL := Lib.hid hxl
      clear hxl
      have HV2 : Hid (V = 2) := Lib.hid (by rw [HV.out]; exact Mo.dat_bad HPX.out HX.out (by simp [Mo.okT]; exact HXL.out))
      go_wp2
      go_ret
      exact ⟨ret_int HV2.out.symm, hB1⟩
  ·
    by_cases hxl : x.length = 0
    ·
      have hx1 : ((x.length : Int) != 0) = false := by rw [hxl]; rfl
      have HXL := Lib.hid hxl
      clear hxl
      have HC2 : Hid (∀ (j : Nat) (p : Pr) (y : List Int), j < k + 1 → ps[j]? = some p → d[j]? = some y → Mo.okT len p y) := Lib.hid (fun j p y hj hp hy => by
       by_cases h : j = k
       ·subst h
        rw [HX.out] at hy; rw [HPX.out] at hp
        cases hy; cases hp
        simp only [Mo.okT, if_true]; exact HXL.out
       ·exact HC.out j p y (by omega) hp hy)
      go_wp2
      go_roundw
      case rel => exact ⟨k + 1, by omega, rfl, HC2, HN.out⟩
      case measure => simp [intOf]; omega
    ·
      have hx1 : ((x.length : Int) != 0) = true := by rw [bne_iff_ne]; omega
      have HXL := Lib.hid hxl
      clear hxl
      have HV2 : Hid (V = 2) := Lib.hid (by rw [HV.out]; exact Mo.dat_bad HPX.out HX.out (by simp only [Mo.okT, if_true]; exact HXL.out))
      go_wp2
      go_ret
      exact ⟨ret_int HV2.out.symm, hB1⟩
theorem c110 (un len most : Int) (P : Option Addr) (np capp : Nat) (ps : List Pr) (D : Option Addr) (m capd : Nat) (d : List (List Int)) (w : World) (hp : np ≤ 1000000) (hd : m ≤ 1000000) (hdl : ∀ x, x ∈ d → x.length ≤ 1000000) (HP : RdP w P np ps) (HD : RdD w D m d) : Calls Tryz.prog 110 #[.agg #[.int .i64 un, .int .i64 len, .int .i64 most, .slice P np capp], .slice D m capd] w fun en w' => en = .returned (.int .i64 (Mo.dat len ps d)) ∧ Below w.heap.size w w' := by
 by_cases hmm : m = np
 ·subst hmm
  exact c110_eq un len most P m capp ps D capd d w hd hdl HP HD
 ·exact c110_ne un len most P np capp ps D m capd d w hmm hp hd hdl HP HD
theorem c52 (c r : Int) (A : Option Addr) (n cap : Nat) (l : List Int) (un len most : Int) (P : Option Addr) (np capp : Nat) (ps : List Pr) (D : Option Addr) (m capd : Nat) (d : List (List Int)) (w : World) (hl : n ≤ 1000000) (hp : np ≤ 1000000) (hd : m ≤ 1000000) (hdl : ∀ x, x ∈ d → x.length ≤ 1000000) (HP : RdP w P np ps) (HD : RdD w D m d) (H : RdI w A n l) :
  Calls Tryz.prog 52 #[.agg #[.int .i64 c, .int .i64 r, .slice A n cap], .agg #[.int .i64 un, .int .i64 len, .int .i64 most, .slice P np capp], .slice D m capd] w fun en w' => en = .returned (.int .i64 (Mo.dta c r l un len most ps d)) ∧ Below w.heap.size w w' := by
 obtain ⟨E, hE⟩ : ∃ E, E = Mo.surv c r l un len most ps := ⟨_, rfl⟩
 obtain ⟨V, hV⟩ : ∃ V, V = Mo.dta c r l un len most ps d := ⟨_, rfl⟩
 have HE := Lib.hid hE
 have HA : Hid (E ≠ 0 → V = E) := Lib.hid (fun h => by rw [hV]; unfold Mo.dta; rw [← hE, Mo.first_nz h])
 have HC : Hid (E = 0 → V = Mo.dat len ps d) := Lib.hid (fun h => by rw [hV]; unfold Mo.dta; rw [← hE, Mo.first_z h, Mo.first_one])
 rw [← hV]
 clear hE hV
 obtain ⟨w0, hW⟩ : ∃ W, W = (w.alloc (Obj.cells #[.int .i64 c, .int .i64 r, .slice A n cap] 24)).alloc (Obj.cells #[.int .i64 un, .int .i64 len, .int .i64 most, .slice P np capp] 27) := ⟨_, rfl⟩
 have hT0 : w0.heap[w.heap.size]? = some (.cells #[.int .i64 c, .int .i64 r, .slice A n cap] 24 (0, 0)) := by rw [hW]; exact heap_old (by simp <;> omega) (heap_new (by simp))
 have hT1 : w0.heap[w.heap.size + 1]? = some (.cells #[.int .i64 un, .int .i64 len, .int .i64 most, .slice P np capp] 27 (0, 0)) := by rw [hW]; exact heap_new (by simp)
 have hB0 : Below w.heap.size w w0 := by rw [hW]; exact (((Below.refl _ _).alloc (by first | omega | (simp <;> omega)) _).alloc (by first | omega | (simp <;> omega)) _)
 replace H := H.below hB0
 replace HP := HP.below hB0
 replace HD := HD.below hB0
 go_enter Tryz.func52, Tryz.ntmps52
 go_wp2_with fail
 rw [← hW]
 clear hW
 have qhT0_0 : w0.cell? ⟨w.heap.size, 0, none⟩ = some (.int .i64 c) := cell_at hT0 rfl
 have qhT0_1 : w0.cell? ⟨w.heap.size, 1, none⟩ = some (.int .i64 r) := cell_at hT0 rfl
 have qhT0_2 : w0.cell? ⟨w.heap.size, 2, none⟩ = some (.slice A n cap) := cell_at hT0 rfl
 have qhT1_0 : w0.cell? ⟨w.heap.size + 1, 0, none⟩ = some (.int .i64 un) := cell_at hT1 rfl
 have qhT1_1 : w0.cell? ⟨w.heap.size + 1, 1, none⟩ = some (.int .i64 len) := cell_at hT1 rfl
 have qhT1_2 : w0.cell? ⟨w.heap.size + 1, 2, none⟩ = some (.int .i64 most) := cell_at hT1 rfl
 have qhT1_3 : w0.cell? ⟨w.heap.size + 1, 3, none⟩ = some (.slice P np capp) := cell_at hT1 rfl
 go_wp2_with fail
 refine (c26 c r A n cap l un len most P np capp ps _ hl hp H HP).mono ?_
 rintro e w1 ⟨rfl, hb⟩
 clear qhT0_0 qhT0_1 qhT0_2 qhT1_0 qhT1_1 qhT1_2 qhT1_3
 have hS := hb
 have hB1 := hB0.call hS rfl
 replace hT0 := blkb hT0 hS
 replace hT1 := blkb hT1 hS
 replace H := H.below hS
 replace HP := HP.below hS
 replace HD := HD.below hS
 clear hS hB0
 have qhT0_0 : w1.cell? ⟨w.heap.size, 0, none⟩ = some (.int .i64 c) := cell_at hT0 rfl
 have qhT0_1 : w1.cell? ⟨w.heap.size, 1, none⟩ = some (.int .i64 r) := cell_at hT0 rfl
 have qhT0_2 : w1.cell? ⟨w.heap.size, 2, none⟩ = some (.slice A n cap) := cell_at hT0 rfl
 have qhT1_0 : w1.cell? ⟨w.heap.size + 1, 0, none⟩ = some (.int .i64 un) := cell_at hT1 rfl
 have qhT1_1 : w1.cell? ⟨w.heap.size + 1, 1, none⟩ = some (.int .i64 len) := cell_at hT1 rfl
 have qhT1_2 : w1.cell? ⟨w.heap.size + 1, 2, none⟩ = some (.int .i64 most) := cell_at hT1 rfl
 have qhT1_3 : w1.cell? ⟨w.heap.size + 1, 3, none⟩ = some (.slice P np capp) := cell_at hT1 rfl
 clear hb
 rw [← HE.out]
 by_cases hE0 : E = 0
 rotate_left
 ·
   have hef : (E != 0) = true := by simpa using hE0
   have HAE := Lib.hid (HA.out hE0)
   clear hE0
   go_wp2
   go_ret
   exact ⟨ret_int HAE.out.symm, hB1⟩
 have hef : (E != 0) = false := by simp [hE0]
 have HCE := Lib.hid (HC.out hE0)
 clear hE0
 go_wp2_with fail
 refine (c110 un len most P np capp ps D m capd d _ hp hd hdl HP HD).mono ?_
 rintro e w2 ⟨rfl, hb⟩
 clear qhT0_0 qhT0_1 qhT0_2 qhT1_0 qhT1_1 qhT1_2 qhT1_3
 have hS := hb
 have hB2 := hB1.call hS rfl
 replace hT0 := blkb hT0 hS
 replace hT1 := blkb hT1 hS
 replace H := H.below hS
 replace HP := HP.below hS
 replace HD := HD.below hS
 clear hS hB1
 have qhT0_0 : w2.cell? ⟨w.heap.size, 0, none⟩ = some (.int .i64 c) := cell_at hT0 rfl
 have qhT0_1 : w2.cell? ⟨w.heap.size, 1, none⟩ = some (.int .i64 r) := cell_at hT0 rfl
 have qhT0_2 : w2.cell? ⟨w.heap.size, 2, none⟩ = some (.slice A n cap) := cell_at hT0 rfl
 have qhT1_0 : w2.cell? ⟨w.heap.size + 1, 0, none⟩ = some (.int .i64 un) := cell_at hT1 rfl
 have qhT1_1 : w2.cell? ⟨w.heap.size + 1, 1, none⟩ = some (.int .i64 len) := cell_at hT1 rfl
 have qhT1_2 : w2.cell? ⟨w.heap.size + 1, 2, none⟩ = some (.int .i64 most) := cell_at hT1 rfl
 have qhT1_3 : w2.cell? ⟨w.heap.size + 1, 3, none⟩ = some (.slice P np capp) := cell_at hT1 rfl
 clear hb
 go_wp2
 go_ret
 exact ⟨ret_int HCE.out.symm, hB2⟩
end Go.Proofs.YtdimmlljjmmdbaaGreatDoor
/- A struct stored whole into a block of its own, and loaded whole out of it, whatever its number of cells. -/
namespace Go
open Go.RowKit
theorem setCells_grown (b : Nat) : ∀ (vs : List Value) (o : Nat) (w : World), w.grownBy (w.setCells b o vs) (some b) ∧ (w.setCells b o vs).heap.size = w.heap.size ∧
  ∀ c t f, w.heap[b]? = some (.cells c t f) → ∃ c' : Array Value, (w.setCells b o vs).heap[b]? = some (.cells c' t f) ∧ c'.size = c.size
 | [], o, w => ⟨World.grownBy.refl w _, rfl, fun c t f h => ⟨c, h, rfl⟩⟩
 | v :: r, o, w => by
  obtain ⟨h1, h2, h3⟩ := setCells_grown b r (o + 1) (w.setCell ⟨b, o, none⟩ v)
  have hsz : (w.setCell ⟨b, o, none⟩ v).heap.size = w.heap.size := by simp [World.setCell]
  have hg : w.grownBy (w.setCell ⟨b, o, none⟩ v) (some b) := ⟨rfl, rfl, rfl, by rw [hsz]; exact Nat.le_refl _, fun k _ hk => Below.heap_setCell w ⟨b, o, none⟩ v k (fun e => hk (by rw [e]))⟩
  refine ⟨⟨h1.os.trans hg.os, h1.tape.trans hg.tape, h1.output.trans hg.output, Nat.le_trans hg.size h1.size, fun k hk hne => (h1.block k (by rw [hsz]; exact hk) hne).trans (hg.block k hk hne)⟩, h2.trans hsz, fun c t f hc => ?_⟩
  have : (w.setCell ⟨b, o, none⟩ v).heap[b]? = some (.cells (c.setIfInBounds o v) t f) := by
   simp [World.setCell, Array.getElem?_modify, hc]
  obtain ⟨c', hc', hs'⟩ := h3 _ _ _ this
  exact ⟨c', hc', by rw [hs']; simp⟩
theorem setCells_blk {w : World} {g : Nat} {cs : Array Value} {old : Array Value} {t : TypeId} (hh : w.heap[g]? = some (.cells old t (0, 0))) (hsz : old.size = cs.size) :
  (w.setCells g 0 cs.toList).heap[g]? = some (.cells cs t (0, 0)) := by
 obtain ⟨c', hc', hs'⟩ := (setCells_grown g cs.toList 0 w).2.2 _ _ _ hh
 rw [hc']
 have ht : w.there g 0 cs.toList.length := fun j hj => by
  have hj' : j < old.size := by rw [hsz]; simpa using hj
  constructor
  ·simp [World.cell?, hh, hj']
  ·simp [World.frozen?, hh]
 have hr := World.rangeAt_setCells_same w g 0 cs.toList ht
 have : c' = cs := by
  apply Array.ext_getElem?
  intro j
  rcases Nat.lt_or_ge j cs.size with hj | hj
  ·have := hr j cs[j] (by simp [hj])
   rw [Nat.zero_add] at this
   simp only [World.cell?, hc'] at this
   simpa [hj] using this
  ·rw [Array.getElem?_eq_none hj, Array.getElem?_eq_none (by rw [hs', hsz]; exact hj)]
 rw [this]
section
variable {P : Program}
theorem wp_store_blk {op : Oper} {a : Act} {w : World} {K : Act → World → Prop} {Q : Exit → Act → World → Prop} (ty : TypeId) (x y : Operand) (ho : op.op = .store ty x y)
  (g : Nat) (cs : Array Value) (hx : a.eval x = .pointer (some ⟨g, 0, none⟩)) (hy : a.eval y = .agg cs) {old : Array Value} {t : TypeId} (hh : w.heap[g]? = some (.cells old t (0, 0)))
  (hsz : old.size = cs.size) (hi : (P.info? ty).map (·.size) = some cs.size) (h1 : cs.all (·.oneCell') = true)
  (h : ∀ w', w'.heap[g]? = some (.cells cs t (0, 0)) → w.grownBy w' (some g) → w'.heap.size = w.heap.size → K (a.put op.dst undef) w') : op.wp P a w K Q :=
 wp_store_mid ty x y ho g 0 cs hx hy (fun j hj => by
  have hj' : j < old.size := by rw [hsz]; exact hj
  constructor
  ·simp [World.cell?, hh, hj']
  ·simp [World.frozen?, hh]) hi h1 (h _ (setCells_blk hh hsz) (setCells_grown g _ 0 w).1 (setCells_grown g _ 0 w).2.1)
theorem rangeAt_blk {w : World} {g : Nat} {cs : Array Value} {t : TypeId} {f : Nat × Nat} (hh : w.heap[g]? = some (.cells cs t f)) : w.rangeAt g 0 cs.toList := fun j v hv => by
 simp only [World.cell?, hh, Nat.zero_add]
 simpa using hv
/-- a struct result in a cell of a block -/
theorem run_loadVar_blk {w : World} {g : Nat} {cs : Array Value} {t : TypeId} {f : Nat × Nat} (hh : w.heap[g]? = some (.cells cs t f)) (ty : TypeId) (d : TypeDesc) (hu : P.underlying ty = some d) (hd : d.isRow = true) (hi : (P.info? ty).map (·.size) = some cs.size) :
  (loadVar ty ⟨g, 0, none⟩).run P w = .ok (.agg cs) w := by
 have := run_loadVar_mid (P := P) w g 0 ty cs.toList d (rangeAt_blk hh) hu hd (by simpa using hi)
 simpa using this
theorem results_blk {fn : Func} {a : Tmp} {T : TypeId} (h : fn.results = #[.cell a T]) {tmps : Array Value} {w : World} {g : Nat} {cs : Array Value} {t : TypeId} {f : Nat × Nat} (ha : tmps.getD a undef = .pointer (some ⟨g, 0, none⟩)) (hh : w.heap[g]? = some (.cells cs t f))
  (d : TypeDesc) (hu : P.underlying T = some d) (hd : d.isRow = true) (hi : (P.info? T).map (·.size) = some cs.size) : (results fn tmps).run P w = .ok (.agg cs) w := by
 have hl := run_loadVar_blk (P := P) hh T d hu hd hi
 have ha' : tmps[a]?.getD undef = .pointer (some ⟨g, 0, none⟩) := by simpa using ha
 simp [results, h, ha', asAddr, hl]
theorem results_blk_tmp {fn : Func} {a u : Tmp} {T : TypeId} (h : fn.results = #[.cell a T, .tmp u]) {tmps : Array Value} {w : World} {g : Nat} {cs : Array Value} {t : TypeId} {f : Nat × Nat} (ha : tmps.getD a undef = .pointer (some ⟨g, 0, none⟩)) (hh : w.heap[g]? = some (.cells cs t f))
  (d : TypeDesc) (hu : P.underlying T = some d) (hd : d.isRow = true) (hi : (P.info? T).map (·.size) = some cs.size) : (results fn tmps).run P w = .ok (.tuple #[.agg cs, tmps.getD u undef]) w := by
 have hl := run_loadVar_blk (P := P) hh T d hu hd hi
 have ha' : tmps[a]?.getD undef = .pointer (some ⟨g, 0, none⟩) := by simpa using ha
 simp [results, h, ha', asAddr, hl]
end
end Go
