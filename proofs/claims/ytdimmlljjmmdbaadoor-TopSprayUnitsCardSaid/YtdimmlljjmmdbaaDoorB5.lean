/- A part of the proofs about chapter 7 (image): contracts of functions and plain laws (E1, E2, D6). -/
import Derived.Test.YtdimmlljjmmdbaaDoorB4
import Derived.Test.YtdimmlljjmmdbaaDoorA4
import Derived.Test.YtdimmlljjmmdbaaDoorB3
set_option linter.all false
namespace Go.Proofs.YtdimmlljjmmdbaaDoor
open Go.RowKit
set_option maxHeartbeats 8000000
set_option maxRecDepth 20000

theorem RwM.of_len {w : World} {B g n : Nat} {x : List Int} (hx : x.length = n) (h : RowI w B g n n x) : RwM w B (.slice (some ⟨g, 0, none⟩) n n) x := .inr ⟨g, n, by rw [hx], by rw [hx]; exact h⟩
theorem row_zeros {w : World} {B g n : Nat} (hg : g = w.heap.size) (hB : B ≤ g) (hn : n ≤ 256 := by omega) : RowI (w.alloc (Obj.cells (fillA (.int .i64 0) (fun _ => .int .i64 0) n 0) 3)) B g n n (List.replicate n 0) := by
  refine ⟨_, heap_new hg, fillA_size _ _ _ _, Nat.le_refl _, by omega, by simp, ?_, hB⟩
  rw [List.take_of_length_le (by simp [fillA])]
  apply List.ext_getElem?
  intro i
  simp [fillA, encI, List.getElem?_replicate]
  by_cases h : i < n <;> simp [h]
theorem row_unit {w : World} {B g n a : Nat} (hg : g = w.heap.size) (hB : B ≤ g) (hn : n ≤ 256 := by omega) : RowI (w.alloc (Obj.cells ((fillA (.int .i64 0) (fun _ => .int .i64 0) n 0).setIfInBounds a (.int .i64 1)) 3)) B g n n (Im.unit n a) := by
  obtain ⟨cs, h1, h2, h3, h4, h5, h6, h7⟩ := row_zeros (w := w) (B := B) (g := g) (n := n) hg hB hn
  have e : cs = fillA (.int .i64 0) (fun _ => .int .i64 0) n 0 := by
    rw [heap_new hg] at h1
    simp only [Option.some.injEq, Obj.cells.injEq] at h1
    exact h1.1.symm
  subst e
  refine ⟨_, heap_new hg, by simp [fillA_size], h3, h4, Im.unit_len _ _, ?_, h7⟩
  rw [Array.toList_setIfInBounds, List.take_set, h6]
  unfold Im.unit
  simp [encI, List.map_set]

theorem d18 (un : Int) (ln : Nat) (most : Int) (P : Option Addr) (np capp : Nat) (ps : List Pr) (i a gs : Nat) (w : World) (hnp : np ≤ 16) (hln : 1 ≤ ln ∧ ln ≤ 256) (hi0 : i < np) (ha : a < ln) (hh : (ps.map (·.h)).getD i false = false) (hgs : w.heap[gs]? = some (.cells #[.int .i64 un, .int .i64 (ln : Nat), .int .i64 most, .slice P np capp] 45 (0, 0))) (HP : RdP w P np ps) :
   Calls Tryd.prog 18 #[.int .i64 (i : Nat), .int .i64 (a : Nat), .pointer (some ⟨gs, 0, none⟩)] w fun en w' => ∃ A' cap', en = .returned (.slice A' np cap') ∧ RdD w' A' np (Im.unitsD ln (ps.map (·.h)) i a) ∧ Below w.heap.size w w' := by
  have HPL := Lib.hid HP.len
  obtain ⟨i0, hi, hz0, hz1, hz2⟩ := info_parts info3
  have hmk1 := fun W => run_make_fill (P := Tryd.prog) 22 3 i0 (.int .i64 0) (fun _ => .int .i64 0) Tryd.underlying22 hi hz0 hz1 rfl ln (by omega) (by rw [hz2]; omega) W
  have HMK1 := Lib.hid hmk1
  clear hi hz0 hz1 hz2 hmk1
  obtain ⟨i1, hi, hz0, hz1, hz2⟩ := info_parts infoSl
  obtain ⟨U, hU⟩ : ∃ U, U = Im.unitsD ln (ps.map (·.h)) i a := ⟨_, rfl⟩
  have HUL : Hid (U.length = np) := Lib.hid (by rw [hU, Im.unitsD_len, List.length_map, HPL.out])
  have HU : Hid (∀ (k : Nat) (p : Pr), ps[k]? = some p → U[k]? = some (if p.h = true then [] else if k = i then Im.unit ln a else List.replicate ln 0)) := Lib.hid (fun k p hp => by
    have hk : k < ps.length := by
      by_cases h : k < ps.length
      · exact h
      · rw [List.getElem?_eq_none (by omega)] at hp; cases hp
    rw [hU]
    unfold Im.unitsD
    rw [List.getElem?_map, List.getElem?_range (by simpa using hk)]
    simp [List.getD_eq_getElem?_getD, hp])
  rw [← hU]
  clear hU
  have HHI := Lib.hid hh
  clear hh
  go_enter Tryd.func18, Tryd.ntmps18
  obtain ⟨w0, hw0⟩ : ∃ W, W = w := ⟨_, rfl⟩
  subst hw0
  have qhgs_0 : w0.cell? ⟨gs, 0, none⟩ = some (.int .i64 un) := cell_at hgs rfl
  have qhgs_1 : w0.cell? ⟨gs, 1, none⟩ = some (.int .i64 (ln : Nat)) := cell_at hgs rfl
  have qhgs_2 : w0.cell? ⟨gs, 2, none⟩ = some (.int .i64 most) := cell_at hgs rfl
  have qhgs_3 : w0.cell? ⟨gs, 3, none⟩ = some (.slice P np capp) := cell_at hgs rfl
  have hB0 : Below w0.heap.size w0 w0 := Below.refl _ _
  go_wp2_with fail
  have hst0 : Hid (VR w0 w0.heap.size U [] 0) := Lib.hid ⟨rfl, fun j _ h => absurd h (Nat.not_lt_zero j)⟩
  go_loopw [6, 13] (fun x k wr => ∃ (k' : Nat) (vs : List Value), k' ≤ np ∧ k = .int .i64 k' ∧ OwnD wr w0.heap.size x k' vs ∧ Hid (VR wr w0.heap.size U vs k') ∧ Below w0.heap.size w0 wr) (fun _ k _ => np - (intOf k).toNat)
  case atStart => exact ⟨0, [], Nat.zero_le _, rfl, World.ownsRow_nil _ _ _ _, hst0, Below.refl _ _⟩
  case round =>
    clear hst0
    obtain ⟨k, vs, hk, rfl, hown, HVD, hbr⟩ := hrel
    have hvd := HVD.out
    clear HVD
    obtain ⟨w1, hww⟩ : ∃ W, W = wr := ⟨_, rfl⟩
    subst hww
    have hB1 := hB0.call hbr rfl
    replace HP := HP.below hbr
    replace hgs := blkb hgs hbr
    clear hB0
    have qhgs_0 : w1.cell? ⟨gs, 0, none⟩ = some (.int .i64 un) := cell_at hgs rfl
    have qhgs_1 : w1.cell? ⟨gs, 1, none⟩ = some (.int .i64 (ln : Nat)) := cell_at hgs rfl
    have qhgs_2 : w1.cell? ⟨gs, 2, none⟩ = some (.int .i64 most) := cell_at hgs rfl
    have qhgs_3 : w1.cell? ⟨gs, 3, none⟩ = some (.slice P np capp) := cell_at hgs rfl
    have hwk : IntKind.i64.wrap ((k : Int) + 1) = ((k + 1 : Nat) : Int) := by rw [wrapI (by omega)]; simp
    by_cases hlt : k < np
    rotate_left
    ·
        obtain rfl : np = k := by omega
        obtain ⟨A', cap', rfl, hrd⟩ := Sl.of_own hown
        have HF : Hid (RdD w1 A' np U) := Lib.hid (by
          have e := HUL.out
          subst e
          exact hvd.rd hrd)
        go_wp2
        go_ret
        exact ⟨A', cap', rfl, HF.out, hB1⟩
    have hkm2 : (k : Int) < (np : Int) := by omega
    have hk02 : (0 : Int) ≤ (k : Int) := by omega
    obtain ⟨pb, poff, p, rfl, hpx, hpb, hp0, hp1, hp2⟩ := HP.at hlt
    have HPX := Lib.hid hpx
    have HUK := Lib.hid (HU.out k p hpx)
    clear hpx
    obtain ⟨p0, p1, ph⟩ := p
    dsimp only at hp0 hp1 hp2
    have zg : gs < w1.heap.size := (Array.getElem?_eq_some_iff.1 hgs).1
    have hszn : w0.heap.size ≤ w1.heap.size := hbr.size
    have HBN : Hid (Below w0.heap.size w0 w1) := Lib.hid hbr
    have HVD := Lib.hid hvd
    have hown' : w1.ownsRow w0.heap.size 22 1 u6 k vs := hown
    clear hvd hbr
    cases ph
    ·
        have hmk1 := HMK1.out
        by_cases hki : k = i
        ·
            subst hki
            have hkk : ((k : Int) == (k : Int)) = true := by simp
            have han : (a : Int) < (ln : Int) := by omega
            have hfa : (fillA (.int .i64 0) (fun _ => .int .i64 0) ln 0)[a]? = some (.int .i64 0) := by rw [fillA_get _ _ _ _ _ ha, if_neg (Nat.not_lt_zero a)]
            have ha0 : (0 : Int) ≤ (a : Int) := by omega
            go_wp2_with (at_builtin; refine wpList_append_own _ rfl _ _ 36 rfl w0.heap.size 22 i1 (.slice none 0 0) 1 24 Tryd.underlying36 hi hz0 hz1 hz2 rfl (by decide) _ _ _ rfl (((hown'.alloc _).alloc _).alloc _) ⟨w1.heap.size + 1 + 1, 0, none⟩ 1 1 [.slice (some ⟨w1.heap.size + 1, 0, none⟩) ln ln] rfl rfl (news_one _ _ (by simp)) (fun x hx => by rw [List.mem_singleton.1 hx]; rfl) (by unfold maxLen; omega) (by omega) (by simp; omega) ?_)

            intro x' wz hown3 hg3 _
            have hbc : Below w1.heap.size w1 ((w1.alloc (Obj.cells #[.int .i64 p0, .int .i64 p1, .bool false] 50)).alloc (Obj.cells ((fillA (.int .i64 0) (fun _ => .int .i64 0) ln 0).setIfInBounds a (.int .i64 1)) 3)) := (((Below.refl _ _).alloc (by first | exact Nat.le_refl _ | (simp <;> omega)) _).alloc (by first | exact Nat.le_refl _ | (simp <;> omega)) _)
            have hrow : RwM ((w1.alloc (Obj.cells #[.int .i64 p0, .int .i64 p1, .bool false] 50)).alloc (Obj.cells ((fillA (.int .i64 0) (fun _ => .int .i64 0) ln 0).setIfInBounds a (.int .i64 1)) 3)) w0.heap.size (.slice (some ⟨w1.heap.size + 1, 0, none⟩) ln ln) (Im.unit ln a) := RwM.of_len (Im.unit_len ln a) (row_unit (by simp) (by omega) (by omega))
            obtain ⟨wc, hwc⟩ : ∃ V, V = ((w1.alloc (Obj.cells #[.int .i64 p0, .int .i64 p1, .bool false] 50)).alloc (Obj.cells ((fillA (.int .i64 0) (fun _ => .int .i64 0) ln 0).setIfInBounds a (.int .i64 1)) 3)) := ⟨_, rfl⟩
            rw [← hwc] at hg3 hbc hrow
            clear hwc
            have hal : Below wc.heap.size wc (wc.alloc (Obj.cells #[.slice (some ⟨w1.heap.size + 1, 0, none⟩) ln ln] 22)) := (Below.refl _ _).alloc (Nat.le_refl _) _
            have hszc : w0.heap.size ≤ wc.heap.size := Nat.le_trans hszn hbc.size
            have hownc : wc.ownsRow w0.heap.size 22 1 u6 k vs := OwnD.below hown hbc
            have hbw := HBN.out.trans (hbc.mono hszn)
            have HB3 : Hid (Below w0.heap.size w0 wz) := Lib.hid ((hbw.alloc hszc _).grown hg3 (by simp; omega) (fun g hg => (hownc.lt g hg).1))
            have HVD3 : Hid (VR wz w0.heap.size U (vs ++ [.slice (some ⟨w1.heap.size + 1, 0, none⟩) ln ln]) (k + 1)) := Lib.hid (((HVD.out.below hbc).below hal).push (hownc.alloc _) hg3 (y := Im.unit ln a) (by rw [HUK.out]; simp) (RwM.below hrow hal))
            have HO : Hid (OwnD wz w0.heap.size x' (k + 1) (vs ++ [.slice (some ⟨w1.heap.size + 1, 0, none⟩) ln ln])) := Lib.hid hown3
            clear hown3 hg3 hal hownc hszc hszn hbw hrow hbc hown hown'
            go_wp2
            go_roundw
            case rel => exact ⟨k + 1, vs ++ [.slice (some ⟨w1.heap.size + 1, 0, none⟩) ln ln], by omega, by go_num, HO.out, HVD3, HB3.out⟩
            case measure => simp [intOf]; omega
        ·
            have hkk : ((k : Int) == (i : Int)) = false := by simp; omega
            go_wp2_with (at_builtin; refine wpList_append_own _ rfl _ _ 36 rfl w0.heap.size 22 i1 (.slice none 0 0) 1 24 Tryd.underlying36 hi hz0 hz1 hz2 rfl (by decide) _ _ _ rfl (((hown'.alloc _).alloc _).alloc _) ⟨w1.heap.size + 1 + 1, 0, none⟩ 1 1 [.slice (some ⟨w1.heap.size + 1, 0, none⟩) ln ln] rfl rfl (news_one _ _ (by simp)) (fun x hx => by rw [List.mem_singleton.1 hx]; rfl) (by unfold maxLen; omega) (by omega) (by simp; omega) ?_)

            intro x' wz hown3 hg3 _
            have hbc : Below w1.heap.size w1 ((w1.alloc (Obj.cells #[.int .i64 p0, .int .i64 p1, .bool false] 50)).alloc (Obj.cells (fillA (.int .i64 0) (fun _ => .int .i64 0) ln 0) 3)) := (((Below.refl _ _).alloc (by first | exact Nat.le_refl _ | (simp <;> omega)) _).alloc (by first | exact Nat.le_refl _ | (simp <;> omega)) _)
            have hrow : RwM ((w1.alloc (Obj.cells #[.int .i64 p0, .int .i64 p1, .bool false] 50)).alloc (Obj.cells (fillA (.int .i64 0) (fun _ => .int .i64 0) ln 0) 3)) w0.heap.size (.slice (some ⟨w1.heap.size + 1, 0, none⟩) ln ln) (List.replicate ln 0) := RwM.of_len (List.length_replicate ..) (row_zeros (by simp) (by omega) (by omega))
            obtain ⟨wc, hwc⟩ : ∃ V, V = ((w1.alloc (Obj.cells #[.int .i64 p0, .int .i64 p1, .bool false] 50)).alloc (Obj.cells (fillA (.int .i64 0) (fun _ => .int .i64 0) ln 0) 3)) := ⟨_, rfl⟩
            rw [← hwc] at hg3 hbc hrow
            clear hwc
            have hal : Below wc.heap.size wc (wc.alloc (Obj.cells #[.slice (some ⟨w1.heap.size + 1, 0, none⟩) ln ln] 22)) := (Below.refl _ _).alloc (Nat.le_refl _) _
            have hszc : w0.heap.size ≤ wc.heap.size := Nat.le_trans hszn hbc.size
            have hownc : wc.ownsRow w0.heap.size 22 1 u6 k vs := OwnD.below hown hbc
            have hbw := HBN.out.trans (hbc.mono hszn)
            have HB3 : Hid (Below w0.heap.size w0 wz) := Lib.hid ((hbw.alloc hszc _).grown hg3 (by simp; omega) (fun g hg => (hownc.lt g hg).1))
            have HVD3 : Hid (VR wz w0.heap.size U (vs ++ [.slice (some ⟨w1.heap.size + 1, 0, none⟩) ln ln]) (k + 1)) := Lib.hid (((HVD.out.below hbc).below hal).push (hownc.alloc _) hg3 (y := List.replicate ln 0) (by rw [HUK.out]; simp [hki]) (RwM.below hrow hal))
            have HO : Hid (OwnD wz w0.heap.size x' (k + 1) (vs ++ [.slice (some ⟨w1.heap.size + 1, 0, none⟩) ln ln])) := Lib.hid hown3
            clear hown3 hg3 hal hownc hszc hszn hbw hrow hbc hown hown'
            go_wp2
            go_roundw
            case rel => exact ⟨k + 1, vs ++ [.slice (some ⟨w1.heap.size + 1, 0, none⟩) ln ln], by omega, by go_num, HO.out, HVD3, HB3.out⟩
            case measure => simp [intOf]; omega
    ·
        have hki : ¬ k = i := fun e => by
          subst e
          have h1 := HHI.out
          rw [List.getD_eq_getElem?_getD, List.getElem?_map, HPX.out] at h1
          cases h1
        have hkk : ((k : Int) == (i : Int)) = false := by simp; omega
        go_wp2_with (at_builtin; refine wpList_append_own _ rfl _ _ 36 rfl w0.heap.size 22 i1 (.slice none 0 0) 1 24 Tryd.underlying36 hi hz0 hz1 hz2 rfl (by decide) _ _ _ rfl ((hown'.alloc _).alloc _) ⟨w1.heap.size + 1, 0, none⟩ 1 1 [.slice none 0 0] rfl rfl (news_one _ _ (by simp)) (fun x hx => by rw [List.mem_singleton.1 hx]; rfl) (by unfold maxLen; omega) (by omega) (by simp; omega) ?_)

        intro x' wz hown3 hg3 _
        have hbc : Below w1.heap.size w1 (w1.alloc (Obj.cells #[.int .i64 p0, .int .i64 p1, .bool true] 50)) := ((Below.refl _ _).alloc (by first | exact Nat.le_refl _ | (simp <;> omega)) _)
        have hrow : RwM (w1.alloc (Obj.cells #[.int .i64 p0, .int .i64 p1, .bool true] 50)) w0.heap.size (.slice none 0 0) ([]) := .inl ⟨rfl, rfl⟩
        obtain ⟨wc, hwc⟩ : ∃ V, V = (w1.alloc (Obj.cells #[.int .i64 p0, .int .i64 p1, .bool true] 50)) := ⟨_, rfl⟩
        rw [← hwc] at hg3 hbc hrow
        clear hwc
        have hal : Below wc.heap.size wc (wc.alloc (Obj.cells #[.slice none 0 0] 22)) := (Below.refl _ _).alloc (Nat.le_refl _) _
        have hszc : w0.heap.size ≤ wc.heap.size := Nat.le_trans hszn hbc.size
        have hownc : wc.ownsRow w0.heap.size 22 1 u6 k vs := OwnD.below hown hbc
        have hbw := HBN.out.trans (hbc.mono hszn)
        have HB3 : Hid (Below w0.heap.size w0 wz) := Lib.hid ((hbw.alloc hszc _).grown hg3 (by simp; omega) (fun g hg => (hownc.lt g hg).1))
        have HVD3 : Hid (VR wz w0.heap.size U (vs ++ [.slice none 0 0]) (k + 1)) := Lib.hid (((HVD.out.below hbc).below hal).push (hownc.alloc _) hg3 (y := []) (by rw [HUK.out]; rfl) (RwM.below hrow hal))
        have HO : Hid (OwnD wz w0.heap.size x' (k + 1) (vs ++ [.slice none 0 0])) := Lib.hid hown3
        clear hown3 hg3 hal hownc hszc hszn hbw hrow hbc hown hown'
        go_wp2
        go_roundw
        case rel => exact ⟨k + 1, vs ++ [.slice none 0 0], by omega, by go_num, HO.out, HVD3, HB3.out⟩
        case measure => simp [intOf]; omega

end Go.Proofs.YtdimmlljjmmdbaaDoor
namespace Go.Proofs.YtdimmlljjmmdbaaDoor
open Go.RowKit
set_option maxHeartbeats 16000000
set_option maxRecDepth 20000
namespace Mo
theorem first_all0 : ∀ {xs : List Int}, (∀ x, x ∈ xs → x = 0) → first xs = 0
  | [], _ => rfl
  | x :: xs, h => by
    rw [first_cons, h x List.mem_cons_self]
    exact first_all0 (fun y hy => h y (List.mem_cons_of_mem _ hy))
theorem mdl_unit {c r : Int} {l : List Int} {un len most : Int} {ps : List Pr} {k : Nat} (h : surv c r l un len most ps = 0) : mdl c r l un len most ps (Im.unit l.length k) = 0 := by
  unfold mdl
  rw [h, Im.unit_len]
  refine first_all0 fun x hx => ?_
  rcases List.mem_cons.1 hx with rfl | hx
  · rfl
  rw [List.mem_singleton.1 hx]
  refine first_all0 fun y hy => ?_
  rcases List.mem_cons.1 hy with rfl | hy
  · simp [when]
  rw [List.mem_singleton.1 hy]
  refine allw_ok.2 fun z hz => ?_
  obtain ⟨j, hj, rfl⟩ := List.getElem_of_mem hz
  have := Im.unit_at (n := l.length) (i := k) (k := j) (by rw [Im.unit_len] at hj; exact hj)
  unfold Im.at0 at this
  rw [List.getD_eq_getElem?_getD, List.getElem?_eq_getElem hj] at this
  simp only [Option.getD_some] at this
  rw [this]
  split <;> omega
theorem dta_of {c r : Int} {l : List Int} {un len most : Int} {ps : List Pr} {d : List (List Int)} (h : surv c r l un len most ps = 0) (hl : d.length = ps.length) (hs : Shp len ps d) (hv : ∀ x, x ∈ d → ∀ y, y ∈ x → -1048576 ≤ y ∧ y ≤ 1048576) : dta c r l un len most ps d = 0 := by
  unfold dta
  rw [h]
  refine first_all0 fun x hx => ?_
  rcases List.mem_cons.1 hx with rfl | hx
  · rfl
  rw [List.mem_singleton.1 hx, dat_ok hl hs]
  refine first_all0 fun e he => ?_
  obtain ⟨x, hx, rfl⟩ := List.mem_map.1 he
  exact allw_ok.2 fun z hz => hv x hx z hz
theorem unitsD_get {ln i a k : Nat} {ps : List Pr} {p : Pr} (hp : ps[k]? = some p) : (Im.unitsD ln (ps.map (·.h)) i a)[k]? = some (if p.h = true then [] else if k = i then Im.unit ln a else List.replicate ln 0) := by
  have hk : k < ps.length := by
    by_cases h : k < ps.length
    · exact h
    · rw [List.getElem?_eq_none (by omega)] at hp; cases hp
  unfold Im.unitsD
  rw [List.getElem?_map, List.getElem?_range (by simpa using hk)]
  simp [List.getD_eq_getElem?_getD, hp]
theorem dta_units {c r : Int} {l : List Int} {un most : Int} {ps : List Pr} {ln i a : Nat} (h : surv c r l un ln most ps = 0) : dta c r l un ln most ps (Im.unitsD ln (ps.map (·.h)) i a) = 0 := by
  unfold dta
  rw [h]
  refine first_all0 fun x hx => ?_
  rcases List.mem_cons.1 hx with rfl | hx
  · rfl
  rw [List.mem_singleton.1 hx]
  have hshp : Shp (ln : Int) ps (Im.unitsD ln (ps.map (·.h)) i a) := fun j p x hp hx => by
    rw [unitsD_get hp] at hx
    have hx := Option.some.inj hx
    subst hx
    unfold okT
    cases hph : p.h
    · simp only [Bool.false_eq_true, if_false]
      split
      · rw [Im.unit_len]
      · rw [List.length_replicate]
    · simp
  rw [dat_ok (by rw [Im.unitsD_len, List.length_map]) hshp]
  refine first_all0 fun e he => ?_
  obtain ⟨x, hx, rfl⟩ := List.mem_map.1 he
  refine allw_ok.2 fun z hz => ?_
  obtain ⟨k, hk, hxk⟩ := List.getElem_of_mem hx
  have hkp : k < ps.length := by rw [Im.unitsD_len, List.length_map] at hk; exact hk
  have h1 := unitsD_get (ln := ln) (i := i) (a := a) (List.getElem?_eq_getElem hkp)
  rw [List.getElem?_eq_getElem hk, hxk] at h1
  have h2 := Option.some.inj h1
  obtain ⟨j, hj, rfl⟩ := List.getElem_of_mem hz
  have h3 : Im.at0 x j = x[j] := by unfold Im.at0; rw [List.getD_eq_getElem?_getD, List.getElem?_eq_getElem hj]; rfl
  rw [← h3]
  by_cases hph : ps[k].h = true
  · rw [if_pos hph] at h2; subst h2; simp at hj
  · rw [if_neg hph] at h2
    by_cases hki : k = i
    · rw [if_pos hki] at h2
      rw [h2, Im.unit_at (by rw [h2, Im.unit_len] at hj; exact hj)]
      split <;> omega
    · rw [if_neg hki] at h2
      rw [h2, Im.zeros_at]
      omega
end Mo
theorem info36 : (Tryd.prog.info? 36).map (fun i => (i.zero, i.size, i.bytes)) = some (some (.slice none 0 0), 1, 24) := by kernel_rfl
theorem blk_grown {w w' : World} {B2 k : Nat} {e : TypeId} {x : Value} {xs : List Value} {g : Nat} {cs : Array Value} {t : TypeId} (h : w.heap[g]? = some (.cells cs t (0, 0))) (hown : w.ownsRow B2 e 1 x k xs) (hg : w.grownBy w' x.ownBlock) (hne : t ≠ e) : w'.heap[g]? = some (.cells cs t (0, 0)) := by
  refine (hg.block g (Array.getElem?_eq_some_iff.1 h).1 (fun e2 => ?_)).trans h
  obtain ⟨hx, ⟨rfl, hn⟩ | ⟨g', cap', cur, rfl, hg', hh, _⟩⟩ := hown
  · simp [Value.ownBlock] at e2
  · simp only [Value.ownBlock, Option.some.injEq] at e2
    subst e2
    rw [h] at hh
    simp only [Option.some.injEq, Obj.cells.injEq] at hh
    exact hne hh.2.1
theorem OutM.grown {w w' : World} {B B2 go k : Nat} {rows : List (List Int)} {x : Value} {xs : List Value} (h : OutM w B go rows) (hown : w.ownsRow B2 36 1 x k xs) (hg : w.grownBy w' x.ownBlock) : OutM w' B go rows := by
  obtain ⟨cs, h1, h2, h3⟩ := h
  refine ⟨cs, blk_grown h1 hown hg (by decide), h2, fun j y hy => ?_⟩
  obtain ⟨v, hv, hr⟩ := h3 j y hy
  refine ⟨v, hv, ?_⟩
  rcases hr with hr | ⟨g, cp, e, cs2, c1, c2⟩
  · exact .inl hr
  · exact .inr ⟨g, cp, e, cs2, blk_grown c1 hown hg (by decide), c2⟩
theorem RowI.gb {w w' : World} {B g cap n gs : Nat} {l : List Int} (h : RowI w B g cap n l) (hg : w.grownBy w' (some gs)) (hgs : gs < B) : RowI w' B g cap n l := by
  obtain ⟨cs, c1, c2, c3, c4, c5, c6, c7⟩ := h
  exact ⟨cs, (hg.block g (Array.getElem?_eq_some_iff.1 c1).1 (fun e => by have := Option.some.inj e; omega)).trans c1, c2, c3, c4, c5, c6, c7⟩
theorem OutM.gb {w w' : World} {B go gs : Nat} {rows : List (List Int)} (h : OutM w B go rows) (hg : w.grownBy w' (some gs)) (hgs : gs < B) (hgo : B ≤ go) : OutM w' B go rows := by
  obtain ⟨cs, h1, h2, h3⟩ := h
  refine ⟨cs, (hg.block go (Array.getElem?_eq_some_iff.1 h1).1 (fun e => by have := Option.some.inj e; omega)).trans h1, h2, fun j y hy => ?_⟩
  obtain ⟨v, hv, hr⟩ := h3 j y hy
  refine ⟨v, hv, ?_⟩
  rcases hr with hr | ⟨g, cp, e, hr⟩
  · exact .inl hr
  · exact .inr ⟨g, cp, e, hr.gb hg hgs⟩
/-- traces of all unit models -/
def TV (w : World) (B np : Nat) (F : Nat → List (List Int)) (vs : List Value) (k : Nat) : Prop :=
  vs.length = k ∧ ∀ j, j < k → ∃ go, vs[j]? = some (.slice (some ⟨go, 0, none⟩) np np) ∧ B ≤ go ∧ OutM w B go (F j)
theorem TV.below {w w' : World} {B np : Nat} {F : Nat → List (List Int)} {vs : List Value} {k : Nat} (h : TV w B np F vs k) (hb : Below w.heap.size w w') : TV w' B np F vs k :=
  ⟨h.1, fun j hj => by obtain ⟨go, h1, h2, h3⟩ := h.2 j hj; exact ⟨go, h1, h2, h3.below hb⟩⟩
theorem TV.gb {w w' : World} {B np gs : Nat} {F : Nat → List (List Int)} {vs : List Value} {k : Nat} (h : TV w B np F vs k) (hg : w.grownBy w' (some gs)) (hgs : gs < B) : TV w' B np F vs k :=
  ⟨h.1, fun j hj => by obtain ⟨go, h1, h2, h3⟩ := h.2 j hj; exact ⟨go, h1, h2, h3.gb hg hgs h2⟩⟩
theorem TV.push {w w' : World} {B B2 np go : Nat} {F : Nat → List (List Int)} {vs : List Value} {k : Nat} {x : Value} {xs : List Value} (h : TV w B np F vs k) (hown : w.ownsRow B2 36 1 x k xs) (hg : w.grownBy w' x.ownBlock) (hb : B ≤ go) (hr : OutM w B go (F k)) :
    TV w' B np F (vs ++ [.slice (some ⟨go, 0, none⟩) np np]) (k + 1) := by
  refine ⟨by simp [h.1], fun j hj => ?_⟩
  by_cases e : j = k
  · subst e
    exact ⟨go, by rw [List.getElem?_append_right (by rw [h.1]; exact Nat.le_refl _), h.1]; simp, hb, hr.grown hown hg⟩
  · obtain ⟨go', h1, h2, h3⟩ := h.2 j (by omega)
    exact ⟨go', by rw [List.getElem?_append_left (by rw [h.1]; omega)]; exact h1, h2, h3.grown hown hg⟩
def OwnT (w : World) (B : Nat) (v : Value) (k : Nat) (vs : List Value) : Prop := w.ownsRow B 36 1 v k vs
theorem OwnT.below {w w' : World} {B : Nat} {v : Value} {n : Nat} {l : List Value} (h : OwnT w B v n l) (hb : Below w.heap.size w w') : OwnT w' B v n l := own_below h hb
theorem gb_trans {W w w' : World} {go : Nat} (h : W.grownBy w (some go)) (h2 : w.grownBy w' (some go)) : W.grownBy w' (some go) :=
  ⟨h2.os.trans h.os, h2.tape.trans h.tape, h2.output.trans h.output, Nat.le_trans h.size h2.size, fun k hk hne => (h2.block k (Nat.lt_of_lt_of_le hk h.size) hne).trans (h.block k hk hne)⟩
theorem own_gb {w w' : World} {B gs : Nat} {e : TypeId} {size : Nat} {v : Value} {n : Nat} {l : List Value} (h : w.ownsRow B e size v n l) (hg : w.grownBy w' (some gs)) (hgs : gs < B) : w'.ownsRow B e size v n l := by
  obtain ⟨h1, h2 | ⟨g, cap, cs, rfl, h3, h4, h5⟩⟩ := h
  · exact ⟨h1, .inl h2⟩
  · exact ⟨h1, .inr ⟨g, cap, cs, rfl, h3, (hg.block g (Array.getElem?_eq_some_iff.1 h4).1 (fun e => by have := Option.some.inj e; omega)).trans h4, h5⟩⟩
theorem OwnT.at {w : World} {B : Nat} {A : Option Addr} {n cap : Nat} {vs : List Value} (h : OwnT w B (.slice A n cap) n vs) {j : Nat} (hj : j < n) : ∃ b off, A = some ⟨b, off, none⟩ ∧ b < w.heap.size ∧ w.cell? ⟨b, off + j, none⟩ = vs[j]? := by
  obtain ⟨A', cap', he, hr⟩ := Sl.of_own h
  cases he
  obtain ⟨b, off, hA, hb, hc⟩ := RdS.at hr hj
  have h0 := hc 0 (by omega)
  rw [Nat.mul_one, Nat.add_zero] at h0
  exact ⟨b, off, hA, hb, h0⟩
theorem trc_at {c : Nat} {l : List Int} {un : Int} {ln : Nat} {most : Int} {k a : Nat} {p : Pr} (hp : p.h = false) (hl1 : 1 ≤ ln) (hk : k < l.length) (ha : a < ln) : Im.at0 (trc c l un ln most (Im.unit l.length k) p) a = if Im.at0 (dlp c l un ln most p) k = (a : Int) then 1 else 0 := by
  unfold trc
  rw [if_neg (by rw [hp]; simp)]
  refine Im.trace_unit (dlp_len _ _ _ _ _ _) hk ha (fun d hd => ?_)
  obtain ⟨j, hj, rfl⟩ := List.getElem_of_mem hd
  have hj2 : j < l.length := by rw [dlp_len] at hj; exact hj
  have e : Im.at0 (dlp c l un ln most p) j = (dlp c l un ln most p)[j] := by unfold Im.at0; rw [List.getD_eq_getElem?_getD, List.getElem?_eq_getElem hj]; rfl
  by_cases h0 : 0 ≤ Im.at0 (dlp c l un ln most p) j
  · have := dlp_lt hj2 h0
    rw [← e]; exact this
  · rw [← e]; omega
theorem dlp_mem {c : Nat} {l : List Int} {un : Int} {ln : Nat} {most : Int} {p : Pr} (hl1 : 1 ≤ ln) : ∀ d, d ∈ dlp c l un ln most p → d < (ln : Int) := fun d hd => by
  obtain ⟨j, hj, rfl⟩ := List.getElem_of_mem hd
  have hj2 : j < l.length := by rw [dlp_len] at hj; exact hj
  have e : Im.at0 (dlp c l un ln most p) j = (dlp c l un ln most p)[j] := by unfold Im.at0; rw [List.getD_eq_getElem?_getD, List.getElem?_eq_getElem hj]; rfl
  by_cases h0 : 0 ≤ Im.at0 (dlp c l un ln most p) j
  · have := dlp_lt hj2 h0
    rw [← e]; exact this
  · rw [← e]; omega
theorem img_unit {c : Nat} {l : List Int} {un : Int} {ln : Nat} {most : Int} {ps : List Pr} {i a k : Nat} {p : Pr} (hp : ps[i]? = some p) (hh : p.h = false) (hl1 : 1 ≤ ln) (hk : k < l.length) (ha : a < ln) :
    Im.at0 (Im.image l.length (ps.map (dlp c l un ln most)) (Im.unitsD ln (ps.map (·.h)) i a)) k = if Im.at0 (dlp c l un ln most p) k = (a : Int) then 1 else 0 := by
  have hi : i < ps.length := by
    by_cases h : i < ps.length
    · exact h
    · rw [List.getElem?_eq_none (by omega)] at hp; cases hp
  have h := Im.image_units (n := l.length) (len := ln) (dss := ps.map (dlp c l un ln most)) (hs := ps.map (·.h)) (i := i) (a := a) (cell := k) (by simp) (fun ds hds => by obtain ⟨q, _, rfl⟩ := List.mem_map.1 hds; exact dlp_len _ _ _ _ _ _) (by simpa using hi)
    (by simp [List.getD_eq_getElem?_getD, hp, hh]) ha hk (fun ds hds d hd => by obtain ⟨q, _, rfl⟩ := List.mem_map.1 hds; exact dlp_mem hl1 d hd)
  rw [h]
  simp [List.getD_eq_getElem?_getD, hp]
theorem trcs_get {c : Nat} {l : List Int} {un : Int} {ln : Nat} {most : Int} {ms : List Int} {ps : List Pr} {k : Nat} {p : Pr} (hp : ps[k]? = some p) : (trcs c l un ln most ms ps)[k]? = some (trc c l un ln most ms p) := by
  unfold trcs
  rw [List.getElem?_map, hp]; rfl

theorem d4 (c r : Int) (A : Option Addr) (n cap : Nat) (l : List Int) (un len most : Int) (P : Option Addr) (np capp : Nat) (ps : List Pr) (D : Option Addr) (m capd : Nat) (d : List (List Int)) (w : World) (hm0 : m ≤ 9223372036854775807) (H : RdI w A n l) (HP : RdP w P np ps) (HD : RdD w D m d) (hst : Steps w) :
   Calls Tryd.prog 4 #[.agg #[.int .i64 c, .int .i64 r, .slice A n cap], .agg #[.int .i64 un, .int .i64 len, .int .i64 most, .slice P np capp], .slice D m capd] w fun en w' => en = .returned (.bool true) ∧ Below w.heap.size w w' := by
  have HLN := Lib.hid H.len
  have HPL := Lib.hid HP.len
  have HDN := Lib.hid HD.len
  have HMK : Hid (∀ k : Nat, k ≤ 1000 → ∀ W, (Instr.makeSlice 22 (.int .i64 (k : Int)) (.int .i64 (k : Int))).run Tryd.prog W = .ok (.slice (some ⟨W.heap.size, 0, none⟩) k k) (W.alloc (.cells (fillA (.int .i64 0) (fun _ => .int .i64 0) k 0) 3))) := Lib.hid (fun k hk W => by
    obtain ⟨i0, hi, hz0, hz1, hz2⟩ := info_parts info3
    exact run_make_fill (P := Tryd.prog) 22 3 i0 (.int .i64 0) (fun _ => .int .i64 0) Tryd.underlying22 hi hz0 hz1 rfl k (by omega) (by rw [hz2]; omega) W)
  obtain ⟨w0, hW⟩ : ∃ W, W = (w.alloc (Obj.cells #[.int .i64 c, .int .i64 r, .slice A n cap] 24)).alloc (Obj.cells #[.int .i64 un, .int .i64 len, .int .i64 most, .slice P np capp] 45) := ⟨_, rfl⟩
  have hT0 : w0.heap[w.heap.size]? = some (.cells #[.int .i64 c, .int .i64 r, .slice A n cap] 24 (0, 0)) := by rw [hW]; exact heap_old (by simp <;> omega) (heap_new (by simp))
  have hT1 : w0.heap[w.heap.size + 1]? = some (.cells #[.int .i64 un, .int .i64 len, .int .i64 most, .slice P np capp] 45 (0, 0)) := by rw [hW]; exact heap_new (by simp)
  have hB0 : Below w.heap.size w w0 := by rw [hW]; exact (((Below.refl _ _).alloc (by first | omega | (simp <;> omega)) _).alloc (by first | omega | (simp <;> omega)) _)
  replace H := H.below hB0
  replace HP := HP.below hB0
  replace HD := HD.below hB0
  replace hst := hst.below hB0
  go_enter Tryd.func4, Tryd.ntmps4
  go_wp2_with fail
  rw [← hW]
  clear hW
  have qhT0_0 : w0.cell? ⟨w.heap.size, 0, none⟩ = some (.int .i64 c) := cell_at hT0 rfl
  have qhT0_1 : w0.cell? ⟨w.heap.size, 1, none⟩ = some (.int .i64 r) := cell_at hT0 rfl
  have qhT0_2 : w0.cell? ⟨w.heap.size, 2, none⟩ = some (.slice A n cap) := cell_at hT0 rfl
  have qhT1_0 : w0.cell? ⟨w.heap.size + 1, 0, none⟩ = some (.int .i64 un) := cell_at hT1 rfl
  have qhT1_1 : w0.cell? ⟨w.heap.size + 1, 1, none⟩ = some (.int .i64 len) := cell_at hT1 rfl
  have qhT1_2 : w0.cell? ⟨w.heap.size + 1, 2, none⟩ = some (.int .i64 most) := cell_at hT1 rfl
  have qhT1_3 : w0.cell? ⟨w.heap.size + 1, 3, none⟩ = some (.slice P np capp) := cell_at hT1 rfl
  go_wp2_with fail
  refine (d5 c r A n cap _).mono ?_
  rintro e w1 ⟨⟨sb, rfl, hsb⟩, hb⟩
  clear qhT0_0 qhT0_1 qhT0_2 qhT1_0 qhT1_1 qhT1_2 qhT1_3
  have hS := hb
  have hB1 := hB0.call hS rfl
  replace hT0 := blkb hT0 hS
  replace hT1 := blkb hT1 hS
  replace H := H.below hS
  replace HP := HP.below hS
  replace HD := HD.below hS
  replace hst := hst.below hS
  clear hS hB0
  have qhT0_0 : w1.cell? ⟨w.heap.size, 0, none⟩ = some (.int .i64 c) := cell_at hT0 rfl
  have qhT0_1 : w1.cell? ⟨w.heap.size, 1, none⟩ = some (.int .i64 r) := cell_at hT0 rfl
  have qhT0_2 : w1.cell? ⟨w.heap.size, 2, none⟩ = some (.slice A n cap) := cell_at hT0 rfl
  have qhT1_0 : w1.cell? ⟨w.heap.size + 1, 0, none⟩ = some (.int .i64 un) := cell_at hT1 rfl
  have qhT1_1 : w1.cell? ⟨w.heap.size + 1, 1, none⟩ = some (.int .i64 len) := cell_at hT1 rfl
  have qhT1_2 : w1.cell? ⟨w.heap.size + 1, 2, none⟩ = some (.int .i64 most) := cell_at hT1 rfl
  have qhT1_3 : w1.cell? ⟨w.heap.size + 1, 3, none⟩ = some (.slice P np capp) := cell_at hT1 rfl
  clear hb
  have HSB := Lib.hid hsb
  clear hsb
  cases sb
  ·
      go_wp2_with fail
      refine (d7 _ hst).mono ?_
      rintro e w2 ⟨rfl, hb⟩
      have HB := Lib.hid (hB1.call hb rfl)
      clear hb
      go_wp2
      go_ret
      exact ⟨rfl, HB.out⟩
  have hn30 : n ≤ 30 := HSB.out rfl
  go_wp2_with fail
  refine (c17 un len most P np capp _).mono ?_
  rintro e w2 ⟨⟨sb2, rfl, hsb2⟩, hb⟩
  clear qhT0_0 qhT0_1 qhT0_2 qhT1_0 qhT1_1 qhT1_2 qhT1_3
  have hS := hb
  have hB2 := hB1.call hS rfl
  replace hT0 := blkb hT0 hS
  replace hT1 := blkb hT1 hS
  replace H := H.below hS
  replace HP := HP.below hS
  replace HD := HD.below hS
  replace hst := hst.below hS
  clear hS hB1
  have qhT0_0 : w2.cell? ⟨w.heap.size, 0, none⟩ = some (.int .i64 c) := cell_at hT0 rfl
  have qhT0_1 : w2.cell? ⟨w.heap.size, 1, none⟩ = some (.int .i64 r) := cell_at hT0 rfl
  have qhT0_2 : w2.cell? ⟨w.heap.size, 2, none⟩ = some (.slice A n cap) := cell_at hT0 rfl
  have qhT1_0 : w2.cell? ⟨w.heap.size + 1, 0, none⟩ = some (.int .i64 un) := cell_at hT1 rfl
  have qhT1_1 : w2.cell? ⟨w.heap.size + 1, 1, none⟩ = some (.int .i64 len) := cell_at hT1 rfl
  have qhT1_2 : w2.cell? ⟨w.heap.size + 1, 2, none⟩ = some (.int .i64 most) := cell_at hT1 rfl
  have qhT1_3 : w2.cell? ⟨w.heap.size + 1, 3, none⟩ = some (.slice P np capp) := cell_at hT1 rfl
  clear hb
  have HSB2 := Lib.hid hsb2
  clear hsb2
  cases sb2
  ·
      go_wp2_with fail
      refine (d7 _ hst).mono ?_
      rintro e w3 ⟨rfl, hb⟩
      have HB := Lib.hid (hB2.call hb rfl)
      clear hb
      go_wp2
      go_ret
      exact ⟨rfl, HB.out⟩
  have hp17 : np ≤ 17 := HSB2.out rfl
  go_wp2_with fail
  refine (c48 D m capd d _ hm0 HD).mono ?_
  rintro e w3 ⟨⟨sb3, rfl, hsb3⟩, hb⟩
  clear qhT0_0 qhT0_1 qhT0_2 qhT1_0 qhT1_1 qhT1_2 qhT1_3
  have hS := hb
  have hB3 := hB2.call hS rfl
  replace hT0 := blkb hT0 hS
  replace hT1 := blkb hT1 hS
  replace H := H.below hS
  replace HP := HP.below hS
  replace HD := HD.below hS
  replace hst := hst.below hS
  clear hS hB2
  have qhT0_0 : w3.cell? ⟨w.heap.size, 0, none⟩ = some (.int .i64 c) := cell_at hT0 rfl
  have qhT0_1 : w3.cell? ⟨w.heap.size, 1, none⟩ = some (.int .i64 r) := cell_at hT0 rfl
  have qhT0_2 : w3.cell? ⟨w.heap.size, 2, none⟩ = some (.slice A n cap) := cell_at hT0 rfl
  have qhT1_0 : w3.cell? ⟨w.heap.size + 1, 0, none⟩ = some (.int .i64 un) := cell_at hT1 rfl
  have qhT1_1 : w3.cell? ⟨w.heap.size + 1, 1, none⟩ = some (.int .i64 len) := cell_at hT1 rfl
  have qhT1_2 : w3.cell? ⟨w.heap.size + 1, 2, none⟩ = some (.int .i64 most) := cell_at hT1 rfl
  have qhT1_3 : w3.cell? ⟨w.heap.size + 1, 3, none⟩ = some (.slice P np capp) := cell_at hT1 rfl
  clear hb
  have HSB3 := Lib.hid hsb3
  clear hsb3
  cases sb3
  ·
      go_wp2_with fail
      refine (d7 _ hst).mono ?_
      rintro e w4 ⟨rfl, hb⟩
      have HB := Lib.hid (hB3.call hb rfl)
      clear hb
      go_wp2
      go_ret
      exact ⟨rfl, HB.out⟩
  have hm17 : m ≤ 17 := (HSB3.out rfl).1
  have H45 := Lib.hid (HSB3.out rfl).2
  go_wp2_with fail
  refine (c52 c r A n cap l un len most P np capp ps D m capd d _ (by omega) (by omega) (by omega) (fun x hx => by have := H45.out x hx; omega) HP HD H).mono ?_
  rintro e w4 ⟨rfl, hb⟩
  clear qhT0_0 qhT0_1 qhT0_2 qhT1_0 qhT1_1 qhT1_2 qhT1_3
  have hS := hb
  have hB4 := hB3.call hS rfl
  replace hT0 := blkb hT0 hS
  replace hT1 := blkb hT1 hS
  replace H := H.below hS
  replace HP := HP.below hS
  replace HD := HD.below hS
  replace hst := hst.below hS
  clear hS hB3
  have qhT0_0 : w4.cell? ⟨w.heap.size, 0, none⟩ = some (.int .i64 c) := cell_at hT0 rfl
  have qhT0_1 : w4.cell? ⟨w.heap.size, 1, none⟩ = some (.int .i64 r) := cell_at hT0 rfl
  have qhT0_2 : w4.cell? ⟨w.heap.size, 2, none⟩ = some (.slice A n cap) := cell_at hT0 rfl
  have qhT1_0 : w4.cell? ⟨w.heap.size + 1, 0, none⟩ = some (.int .i64 un) := cell_at hT1 rfl
  have qhT1_1 : w4.cell? ⟨w.heap.size + 1, 1, none⟩ = some (.int .i64 len) := cell_at hT1 rfl
  have qhT1_2 : w4.cell? ⟨w.heap.size + 1, 2, none⟩ = some (.int .i64 most) := cell_at hT1 rfl
  have qhT1_3 : w4.cell? ⟨w.heap.size + 1, 3, none⟩ = some (.slice P np capp) := cell_at hT1 rfl
  clear hb
  obtain ⟨E, hE⟩ : ∃ E, E = Mo.dta c r l un len most ps d := ⟨_, rfl⟩
  rw [← hE]
  have HE := Lib.hid hE
  clear hE
  by_cases hE0 : E = 0
  rotate_left
  ·
      have hef : (E != 0) = true := by simpa using hE0
      go_wp2_with fail
      refine (d7 _ hst).mono ?_
      rintro e w5 ⟨rfl, hb⟩
      have HB := Lib.hid (hB4.call hb rfl)
      clear hb
      go_wp2
      go_ret
      exact ⟨rfl, HB.out⟩
  have hef : (E != 0) = false := by simp [hE0]
  by_cases hn9 : 9 < n
  ·
      have hd9 : decide ((9 : Int) < (n : Int)) = true := by simp; omega
      go_wp2_with fail
      refine (d7 _ hst).mono ?_
      rintro e w5 ⟨rfl, hb⟩
      have HB := Lib.hid (hB4.call hb rfl)
      clear hb
      go_wp2
      go_ret
      exact ⟨rfl, HB.out⟩
  have hd9 : decide ((9 : Int) < (n : Int)) = false := by simp; omega
  by_cases hl12 : 12 < len
  ·
      have hd12 : decide (12 < len) = true := by simp [hl12]
      go_wp2_with fail
      refine (d7 _ hst).mono ?_
      rintro e w5 ⟨rfl, hb⟩
      have HB := Lib.hid (hB4.call hb rfl)
      clear hb
      go_wp2
      go_ret
      exact ⟨rfl, HB.out⟩
  have hd12 : decide (12 < len) = false := by simp [hl12]
  by_cases hp3 : 3 < np
  ·
      have hd3 : decide ((3 : Int) < (np : Int)) = true := by simp; omega
      go_wp2_with fail
      refine (d7 _ hst).mono ?_
      rintro e w5 ⟨rfl, hb⟩
      have HB := Lib.hid (hB4.call hb rfl)
      clear hb
      go_wp2
      go_ret
      exact ⟨rfl, HB.out⟩
  have hd3 : decide ((3 : Int) < (np : Int)) = false := by simp; omega
  obtain ⟨hS, hml, hsh, hdv⟩ := Mo.dta_zero (HE.out ▸ hE0 : Mo.dta c r l un len most ps d = 0)
  obtain ⟨hG, hu, hln, hmo, hp16, hcl⟩ := surv_ok hS
  have HSH := Lib.hid hsh
  have HDV := Lib.hid hdv
  have HS := Lib.hid hS
  have HCL : Hid (∀ p, p ∈ ps → (0 ≤ p.s ∧ p.s < (n : Int)) ∧ (0 ≤ p.r ∧ p.r < (n : Int))) := Lib.hid (fun p hp => by have := hcl p hp; rw [HLN.out] at this; exact this)
  have hmp : m = np := by rw [← HDN.out, ← HPL.out]; exact hml
  clear hS hsh hdv hcl hml hp16 hE0 HE HSB HSB2 HSB3
  obtain ⟨c, r, rfl, rfl, hc, hr, g⟩ := Mo.ground_ok hG
  obtain ⟨ln, rfl⟩ : ∃ ln : Nat, len = ln := ⟨len.toNat, by omega⟩
  subst hmp
  clear hG hm0 hm17 hp17 hn30
  have hn9' : n ≤ 9 := by omega
  have hl12' : 1 ≤ ln ∧ ln ≤ 12 := by omega
  have hl256 : 1 ≤ ln ∧ ln ≤ 256 := by omega
  have hp3' : m ≤ 3 := by omega
  have hp16 : m ≤ 16 := by omega
  have hn0 : 0 < n := by
    have h1 := g.c1; have h2 := g.r1; have h3 := g.len
    have : 1 * 1 ≤ c * r := Nat.mul_le_mul h1 h2
    rw [← HLN.out]; omega
  clear hn9 hl12 hp3
  have hmk := HMK.out n (by omega)
  have z0 : w.heap.size < w4.heap.size := (Array.getElem?_eq_some_iff.1 hT0).1
  have z1 : w.heap.size + 1 < w4.heap.size := (Array.getElem?_eq_some_iff.1 hT1).1
  go_wp2_with fail
  obtain ⟨w5, hwn⟩ : ∃ V, V = w4.alloc (.cells (fillA (.int .i64 0) (fun _ => .int .i64 0) n 0) 3) := ⟨_, rfl⟩
  have hbn0 : Below w4.heap.size w4 w5 := by rw [hwn]; exact (Below.refl _ _).alloc (Nat.le_refl _) _
  obtain ⟨gs, hgs⟩ : ∃ b, b = w4.heap.size := ⟨_, rfl⟩
  have hsum : RowI w5 w4.heap.size gs n n (List.replicate n 0) := by rw [hwn]; exact row_zeros hgs (by omega) (by omega)
  have HGO : Hid (w4.heap.size ≤ gs) := Lib.hid (by omega)
  have HGT : Hid (gs < w5.heap.size) := Lib.hid (by rw [hwn, hgs]; simp)
  rw [← hgs, ← hwn]
  clear hwn hgs hmk hd9 hd12 hd3 z0 z1 hef
  have KH := Lib.hid H
  have KHP := Lib.hid HP
  have KHD := Lib.hid HD
  have Khst := Lib.hid hst
  have KhT0 := Lib.hid hT0
  have KhT1 := Lib.hid hT1
  have KB := Lib.hid hB4
  clear qhT0_0 qhT0_1 qhT0_2 qhT1_0 qhT1_1 qhT1_2 qhT1_3
  have hS := hbn0
  have hB5 := hB4.call hS rfl
  replace hT0 := blkb hT0 hS
  replace hT1 := blkb hT1 hS
  replace H := H.below hS
  replace HP := HP.below hS
  replace HD := HD.below hS
  replace hst := hst.below hS
  clear hS hB4
  have qhT0_0 : w5.cell? ⟨w.heap.size, 0, none⟩ = some (.int .i64 c) := cell_at hT0 rfl
  have qhT0_1 : w5.cell? ⟨w.heap.size, 1, none⟩ = some (.int .i64 r) := cell_at hT0 rfl
  have qhT0_2 : w5.cell? ⟨w.heap.size, 2, none⟩ = some (.slice A n cap) := cell_at hT0 rfl
  have qhT1_0 : w5.cell? ⟨w.heap.size + 1, 0, none⟩ = some (.int .i64 un) := cell_at hT1 rfl
  have qhT1_1 : w5.cell? ⟨w.heap.size + 1, 1, none⟩ = some (.int .i64 (ln : Nat)) := cell_at hT1 rfl
  have qhT1_2 : w5.cell? ⟨w.heap.size + 1, 2, none⟩ = some (.int .i64 most) := cell_at hT1 rfl
  have qhT1_3 : w5.cell? ⟨w.heap.size + 1, 3, none⟩ = some (.slice P m capp) := cell_at hT1 rfl
  have hbb := hbn0
  clear hbn0
  have KHA := Lib.hid H
  have KHPA := Lib.hid HP
  have HBB0 := Lib.hid hbb
  have hst0 : Hid (TV w5 w5.heap.size m (fun j => trcs c l un ln most (Im.unit n j) ps) [] 0) := Lib.hid ⟨rfl, fun j h => absurd h (Nat.not_lt_zero j)⟩
  have HSUM0 := Lib.hid hsum
  clear hsum
  go_loopw [9, 76] (fun x i wr => ∃ (k : Nat) (vs : List Value), k ≤ n ∧ i = .int .i64 k ∧ OwnT wr w5.heap.size x k vs ∧ Hid (TV wr w5.heap.size m (fun j => trcs c l un ln most (Im.unit n j) ps) vs k) ∧ Below w5.heap.size w5 wr) (fun _ i _ => n - (intOf i).toNat)
  case atStart => exact ⟨0, [], Nat.zero_le _, rfl, World.ownsRow_nil _ _ _ _, hst0, Below.refl _ _⟩
  case round =>
    clear hst0
    obtain ⟨k, vs, hk, rfl, hown, HTV, hbr⟩ := hrel
    have htv := HTV.out
    clear HTV
    obtain ⟨w6, hww⟩ : ∃ W, W = wr := ⟨_, rfl⟩
    subst hww
    have hB6 := hB5.call hbr rfl
    replace hT0 := blkb hT0 hbr
    replace hT1 := blkb hT1 hbr
    replace H := H.below hbr
    replace HP := HP.below hbr
    replace HD := HD.below hbr
    replace hst := hst.below hbr
    replace hbb := hbb.call hbr rfl
    clear hB5
    have qhT0_0 : w6.cell? ⟨w.heap.size, 0, none⟩ = some (.int .i64 c) := cell_at hT0 rfl
    have qhT0_1 : w6.cell? ⟨w.heap.size, 1, none⟩ = some (.int .i64 r) := cell_at hT0 rfl
    have qhT0_2 : w6.cell? ⟨w.heap.size, 2, none⟩ = some (.slice A n cap) := cell_at hT0 rfl
    have qhT1_0 : w6.cell? ⟨w.heap.size + 1, 0, none⟩ = some (.int .i64 un) := cell_at hT1 rfl
    have qhT1_1 : w6.cell? ⟨w.heap.size + 1, 1, none⟩ = some (.int .i64 (ln : Nat)) := cell_at hT1 rfl
    have qhT1_2 : w6.cell? ⟨w.heap.size + 1, 2, none⟩ = some (.int .i64 most) := cell_at hT1 rfl
    have qhT1_3 : w6.cell? ⟨w.heap.size + 1, 3, none⟩ = some (.slice P m capp) := cell_at hT1 rfl
    have hwk : IntKind.i64.wrap ((k : Int) + 1) = ((k + 1 : Nat) : Int) := by rw [wrapI (by omega)]; simp
    by_cases hlt : k < n
    rotate_left
    ·
        obtain rfl : n = k := by omega
        obtain ⟨AT, capT, rfl, hrdT⟩ := Sl.of_own hown
        have HOT : Hid (OwnT w6 w5.heap.size (.slice AT n capT) n vs) := Lib.hid hown
        have HTVA : Hid (TV w6 w5.heap.size m (fun j => trcs c l un ln most (Im.unit n j) ps) vs n) := Lib.hid htv
        have HBA : Hid (Below w4.heap.size w4 w6) := Lib.hid hbb
        have HSZA : Hid (w5.heap.size ≤ w6.heap.size) := Lib.hid hbr.size
        obtain ⟨DS, hDS⟩ : ∃ T, T = ps.map (dlp c l un ln most) := ⟨_, rfl⟩
        have hDN : ∀ ds, ds ∈ DS → ds.length = n := by
          intro ds hds
          rw [hDS] at hds
          obtain ⟨p, _, rfl⟩ := List.mem_map.1 hds
          rw [dlp_len, HLN.out]
        have hDL : DS.length = m := by rw [hDS]; simp [HPL.out]
        have HFIN : Hid (Im.imgN n DS d m = Im.image n (ps.map (dlp c l un ln most)) d) := Lib.hid (by
          rw [← hDS, ← hDL]
          exact Im.imgN_full (by rw [hDL, HDN.out]))
        have HIL := Lib.hid (fun i => Im.imgN_len (data := d) hDN i)
        have HSUC : Hid (∀ i, i < m → Im.imgN n DS d (i + 1) = Im.imgFold (Im.imgN n DS d i) (DS.getD i []) (d.getD i [])) := Lib.hid (fun i hi => Im.imgN_succ (by rw [hDL]; exact hi) (by rw [HDN.out]; exact hi))
        have HBD := Lib.hid (Im.imgN_le (n := n) (dss := DS) (data := d) (B := 1048576) (by omega) hDN HDV.out (by rw [hDL, HDN.out]))
        have HDL2 := Lib.hid hDL
        have HDS := Lib.hid hDS
        clear hDS hDN hDL hlt hk hwk
        have hsumA : Hid (RowI w6 w4.heap.size gs n n (Im.imgN n DS d 0)) := by rw [Im.imgN_zero]; exact Lib.hid (HSUM0.out.below hbr)
        have hgb0 : Hid (w6.grownBy w6 (some gs)) := Lib.hid (grownBy_of_below (Below.refl _ _) _)
        clear htv hown hrdT
        go_wp2_with fail
        clear qhT0_0 qhT0_1 qhT0_2 qhT1_0 qhT1_1 qhT1_2 qhT1_3
        clear H HP HD hst hT0 hT1 hbb hbr
        go_loopw [147] (fun i wr => ∃ k : Nat, k ≤ m ∧ i = .int .i64 k ∧ Hid (RowI wr w4.heap.size gs n n (Im.imgN n DS d k)) ∧ Hid (w6.grownBy wr (some gs))) (fun i _ => m - (intOf i).toNat)
        case atStart => exact ⟨0, Nat.zero_le _, rfl, hsumA, hgb0⟩
        case round =>
          clear hsumA hgb0
          obtain ⟨i, hi, rfl, HSM, HGB⟩ := hrel
          obtain ⟨w7, hww⟩ : ∃ W, W = wr := ⟨_, rfl⟩
          subst hww
          have hbr : Below w4.heap.size w4 w7 := HBA.out.trans (gb_below HGB.out HBA.out.size HGO.out)
          have hB7 := KB.out.call hbr rfl
          have H := KH.out.below hbr
          have HP := KHP.out.below hbr
          have HD := KHD.out.below hbr
          have hst := Khst.out.below hbr
          have hT0 := blkb KhT0.out hbr
          have hT1 := blkb KhT1.out hbr
          have hwr : Below w7.heap.size w7 w7 := Below.refl _ _
          have qhT0_0 : w7.cell? ⟨w.heap.size, 0, none⟩ = some (.int .i64 c) := cell_at hT0 rfl
          have qhT0_1 : w7.cell? ⟨w.heap.size, 1, none⟩ = some (.int .i64 r) := cell_at hT0 rfl
          have qhT0_2 : w7.cell? ⟨w.heap.size, 2, none⟩ = some (.slice A n cap) := cell_at hT0 rfl
          have qhT1_0 : w7.cell? ⟨w.heap.size + 1, 0, none⟩ = some (.int .i64 un) := cell_at hT1 rfl
          have qhT1_1 : w7.cell? ⟨w.heap.size + 1, 1, none⟩ = some (.int .i64 (ln : Nat)) := cell_at hT1 rfl
          have qhT1_2 : w7.cell? ⟨w.heap.size + 1, 2, none⟩ = some (.int .i64 most) := cell_at hT1 rfl
          have qhT1_3 : w7.cell? ⟨w.heap.size + 1, 3, none⟩ = some (.slice P m capp) := cell_at hT1 rfl
          have hwi : IntKind.i64.wrap ((i : Int) + 1) = ((i + 1 : Nat) : Int) := by rw [wrapI (by omega)]; simp
          by_cases hlt : i < m
          rotate_left
          ·
              obtain rfl : m = i := by omega
              have hsumF : RowI w7 w4.heap.size gs n n (Im.image n (ps.map (dlp c l un ln most)) d) := by rw [← HFIN.out]; exact HSM.out
              have hst0 : Hid (VR w7 w7.heap.size d [] 0) := Lib.hid ⟨rfl, fun j _ h => absurd h (Nat.not_lt_zero j)⟩
              have HDT : Hid (Mo.dta c r l un ln most ps d = 0) := Lib.hid (Mo.dta_of HS.out (by rw [HDN.out, HPL.out]) HSH.out HDV.out)
              clear hwi hlt hi
              go_wp2_with fail
              go_loopw [25, 258] (fun x i wr => ∃ (k : Nat) (us : List Value), k ≤ m ∧ i = .int .i64 k ∧ OwnD wr w7.heap.size x k us ∧ Hid (VR wr w7.heap.size d us k) ∧ Below w7.heap.size w7 wr) (fun _ i _ => m - (intOf i).toNat)
              case atStart => exact ⟨0, [], Nat.zero_le _, rfl, World.ownsRow_nil _ _ _ _, hst0, Below.refl _ _⟩
              case round =>
                clear hst0
                obtain ⟨k, us, hk, rfl, hown, HVR, hbr3⟩ := hrel
                have hvr := HVR.out
                clear HVR
                obtain ⟨w8, hww⟩ : ∃ W, W = wr := ⟨_, rfl⟩
                subst hww
                have hB8 := hB7.call hbr3 rfl
                replace H := H.below hbr3
                replace HP := HP.below hbr3
                replace HD := HD.below hbr3
                replace hst := hst.below hbr3
                replace hT0 := blkb hT0 hbr3
                replace hT1 := blkb hT1 hbr3
                replace hbr := hbr.call hbr3 rfl
                replace hwr := hwr.call hbr3 rfl
                replace hsumF := hsumF.below hbr3
                clear hB7
                have qhT0_0 : w8.cell? ⟨w.heap.size, 0, none⟩ = some (.int .i64 c) := cell_at hT0 rfl
                have qhT0_1 : w8.cell? ⟨w.heap.size, 1, none⟩ = some (.int .i64 r) := cell_at hT0 rfl
                have qhT0_2 : w8.cell? ⟨w.heap.size, 2, none⟩ = some (.slice A n cap) := cell_at hT0 rfl
                have qhT1_0 : w8.cell? ⟨w.heap.size + 1, 0, none⟩ = some (.int .i64 un) := cell_at hT1 rfl
                have qhT1_1 : w8.cell? ⟨w.heap.size + 1, 1, none⟩ = some (.int .i64 (ln : Nat)) := cell_at hT1 rfl
                have qhT1_2 : w8.cell? ⟨w.heap.size + 1, 2, none⟩ = some (.int .i64 most) := cell_at hT1 rfl
                have qhT1_3 : w8.cell? ⟨w.heap.size + 1, 3, none⟩ = some (.slice P m capp) := cell_at hT1 rfl
                have hwk : IntKind.i64.wrap ((k : Int) + 1) = ((k + 1 : Nat) : Int) := by rw [wrapI (by omega)]; simp
                by_cases hlt : k < m
                rotate_left
                ·
                    obtain rfl : m = k := by omega
                    obtain ⟨AO, capO, rfl, hrdO⟩ := Sl.of_own hown
                    have hdO : RdD w8 AO m d := by
                      have e := HDN.out
                      subst e
                      exact hvr.rd hrdO
                    clear hown hvr hrdO hwk hlt hk
                    go_wp2_with fail
                    refine wp_region_plan [(0, true), (2, true), (4, true), (1, false), (3, false), (5, false), (6, true), (7, true), (8, true), (9, true), (10, true)] w8.heap.size (by kernel_rfl) (by kernel_rfl) (Nat.le_refl _) (fun _ _ d _ _ h => by cases d <;> exact h) ?_
                    have hC : Below w8.heap.size w8 w8 := Below.refl _ _
                    have zhT0 : w.heap.size < w8.heap.size := (Array.getElem?_eq_some_iff.1 hT0).1
                    have zhT1 : w.heap.size + 1 < w8.heap.size := (Array.getElem?_eq_some_iff.1 hT1).1
                    repeat (first | (refine wpPlanA_skip _ rfl (by rfl) ?_; simp only [Act.put, List.setIfInBounds_toArray, List.set_cons_zero, List.set_cons_succ]) | (refine wpPlanA_soft _ ?_ rfl (by rfl) ?_ ?_; rotate_left; (intro wq hq hcq; go_simp; first | exact rfl | exact ⟨rfl, rfl⟩); simp only [Act.put, List.setIfInBounds_toArray, List.set_cons_zero, List.set_cons_succ]))
                    refine wpPlanA_hard _ rfl (by rfl) (fun w9 hS K hK => ?_)
                    have hB9 := hB8.call hS rfl
                    replace hC := hC.call hS rfl
                    replace H := H.below hS
                    replace HP := HP.below hS
                    replace HD := HD.below hS
                    replace hst := hst.below hS
                    replace hT0 := blkb hT0 hS
                    replace hT1 := blkb hT1 hS
                    replace hbr := hbr.call hS rfl
                    replace hwr := hwr.call hS rfl
                    replace hsumF := hsumF.below hS
                    replace hbr3 := hbr3.call hS rfl
                    replace hdO := hdO.below hS
                    clear hS hB8
                    go_simp
                    refine (d9 c r A n cap l _ (by omega) H).mono ?_
                    rintro e w10 ⟨vg5, rfl, hown5, hb⟩
                    have hB10 := hB9.call hb rfl
                    replace hC := hC.call hb rfl
                    replace H := H.below hb
                    replace HP := HP.below hb
                    replace HD := HD.below hb
                    replace hst := hst.below hb
                    replace hT0 := blkb hT0 hb
                    replace hT1 := blkb hT1 hb
                    replace hbr := hbr.call hb rfl
                    replace hwr := hwr.call hb rfl
                    replace hsumF := hsumF.below hb
                    replace hbr3 := hbr3.call hb rfl
                    replace hdO := hdO.below hb
                    clear hb hB9
                    refine hK _ _ hC ?_
                    clear hK K
                    try simp only [Act.put, List.setIfInBounds_toArray, List.set_cons_zero, List.set_cons_succ]
                    obtain ⟨g5, cg5, rfl, hg5⟩ := RowI.of_own hn0 hown5
                    clear hown5
                    have HG5 := hg5.rd
                    clear hg5
                    refine wpPlanA_hard _ rfl (by rfl) (fun w11 hS K hK => ?_)
                    have hB11 := hB10.call hS rfl
                    replace hC := hC.call hS rfl
                    replace H := H.below hS
                    replace HP := HP.below hS
                    replace HD := HD.below hS
                    replace hst := hst.below hS
                    replace hT0 := blkb hT0 hS
                    replace hT1 := blkb hT1 hS
                    replace hbr := hbr.call hS rfl
                    replace hwr := hwr.call hS rfl
                    replace hsumF := hsumF.below hS
                    replace hbr3 := hbr3.call hS rfl
                    replace hdO := hdO.below hS
                    replace HG5 := HG5.below hS
                    clear hS hB10
                    go_simp
                    refine (c21 un ln most _ m capp ps _ (by omega) HP).mono ?_
                    rintro e w12 ⟨P5, cp5, rfl, hps5, hcp5, hb⟩
                    have hB12 := hB11.call hb rfl
                    replace hC := hC.call hb rfl
                    replace H := H.below hb
                    replace HP := HP.below hb
                    replace HD := HD.below hb
                    replace hst := hst.below hb
                    replace hT0 := blkb hT0 hb
                    replace hT1 := blkb hT1 hb
                    replace hbr := hbr.call hb rfl
                    replace hwr := hwr.call hb rfl
                    replace hsumF := hsumF.below hb
                    replace hbr3 := hbr3.call hb rfl
                    replace hdO := hdO.below hb
                    replace HG5 := HG5.below hb
                    clear hb hB11
                    refine hK _ _ hC ?_
                    clear hK K
                    try simp only [Act.put, List.setIfInBounds_toArray, List.set_cons_zero, List.set_cons_succ]
                    refine wpPlanA_hard _ rfl (by rfl) (fun w13 hS K hK => ?_)
                    have hB13 := hB12.call hS rfl
                    replace hC := hC.call hS rfl
                    replace H := H.below hS
                    replace HP := HP.below hS
                    replace HD := HD.below hS
                    replace hst := hst.below hS
                    replace hT0 := blkb hT0 hS
                    replace hT1 := blkb hT1 hS
                    replace hbr := hbr.call hS rfl
                    replace hwr := hwr.call hS rfl
                    replace hsumF := hsumF.below hS
                    replace hbr3 := hbr3.call hS rfl
                    replace hdO := hdO.below hS
                    replace HG5 := HG5.below hS
                    replace hps5 := hps5.below hS
                    clear hS hB12
                    go_simp
                    refine (c50_ok c r (some ⟨g5, 0, none⟩) n cg5 l un ln most P5 m cp5 ps AO capO d _ g hc hr hcp5 HG5 hps5 hdO hst HDT.out).mono ?_
                    rintro e w14 ⟨vO, rfl, hownO, hb⟩
                    have hB14 := hB13.call hb rfl
                    replace hC := hC.call hb rfl
                    replace H := H.below hb
                    replace HP := HP.below hb
                    replace HD := HD.below hb
                    replace hst := hst.below hb
                    replace hT0 := blkb hT0 hb
                    replace hT1 := blkb hT1 hb
                    replace hbr := hbr.call hb rfl
                    replace hwr := hwr.call hb rfl
                    replace hsumF := hsumF.below hb
                    replace hbr3 := hbr3.call hb rfl
                    replace hdO := hdO.below hb
                    replace HG5 := HG5.below hb
                    replace hps5 := hps5.below hb
                    clear hb hB13
                    refine hK _ _ hC ?_
                    clear hK K
                    try simp only [Act.put, List.setIfInBounds_toArray, List.set_cons_zero, List.set_cons_succ]
                    obtain ⟨gO, cO, rfl, hO⟩ := RowI.of_own hn0 hownO
                    clear hownO
                    repeat (first | (refine wpPlanA_skip _ rfl (by rfl) ?_; simp only [Act.put, List.setIfInBounds_toArray, List.set_cons_zero, List.set_cons_succ]) | (refine wpPlanA_soft _ ?_ rfl (by rfl) ?_ ?_; rotate_left; (intro wq hq hcq; go_simp; first | exact rfl | exact ⟨rfl, rfl⟩); simp only [Act.put, List.setIfInBounds_toArray, List.set_cons_zero, List.set_cons_succ]))
                    clear HG5
                    clear hps5
                    clear hdO
                    clear qhT0_0 qhT0_1 qhT0_2 qhT1_0 qhT1_1 qhT1_2 qhT1_3
                    refine wpPlanA_nil (fun w15 hS => ?_)
                    clear hC zhT0 zhT1
                    have hB15 := hB14.call hS rfl
                    replace H := H.below hS
                    replace HP := HP.below hS
                    replace HD := HD.below hS
                    replace hst := hst.below hS
                    replace hT0 := blkb hT0 hS
                    replace hT1 := blkb hT1 hS
                    replace hbr := hbr.call hS rfl
                    replace hwr := hwr.call hS rfl
                    replace hsumF := hsumF.below hS
                    replace hbr3 := hbr3.call hS rfl
                    replace hO := hO.below hS
                    clear hS hB14
                    have qhT0_0 : w15.cell? ⟨w.heap.size, 0, none⟩ = some (.int .i64 c) := cell_at hT0 rfl
                    have qhT0_1 : w15.cell? ⟨w.heap.size, 1, none⟩ = some (.int .i64 r) := cell_at hT0 rfl
                    have qhT0_2 : w15.cell? ⟨w.heap.size, 2, none⟩ = some (.slice A n cap) := cell_at hT0 rfl
                    have qhT1_0 : w15.cell? ⟨w.heap.size + 1, 0, none⟩ = some (.int .i64 un) := cell_at hT1 rfl
                    have qhT1_1 : w15.cell? ⟨w.heap.size + 1, 1, none⟩ = some (.int .i64 (ln : Nat)) := cell_at hT1 rfl
                    have qhT1_2 : w15.cell? ⟨w.heap.size + 1, 2, none⟩ = some (.int .i64 most) := cell_at hT1 rfl
                    have qhT1_3 : w15.cell? ⟨w.heap.size + 1, 3, none⟩ = some (.slice P m capp) := cell_at hT1 rfl
                    obtain ⟨xl, hxl⟩ : ∃ x, x = (Im.image n (ps.map (dlp c l un ln most)) d) := ⟨_, rfl⟩
                    rw [← hxl] at hO hsumF
                    clear hxl
                    go_wp2_with fail
                    refine (c30 (some ⟨gO, 0, none⟩) (some ⟨gs, 0, none⟩) n n cO n xl xl _ (by omega) (by omega) hO.rd hsumF.rd).mono ?_
                    rintro e w16 ⟨rfl, hb⟩
                    clear qhT0_0 qhT0_1 qhT0_2 qhT1_0 qhT1_1 qhT1_2 qhT1_3
                    have hS := hb
                    have hB16 := hB15.call hS rfl
                    replace H := H.below hS
                    replace HP := HP.below hS
                    replace HD := HD.below hS
                    replace hst := hst.below hS
                    replace hT0 := blkb hT0 hS
                    replace hT1 := blkb hT1 hS
                    replace hbr := hbr.call hS rfl
                    replace hwr := hwr.call hS rfl
                    replace hsumF := hsumF.below hS
                    replace hbr3 := hbr3.call hS rfl
                    replace hO := hO.below hS
                    clear hS hB15
                    have qhT0_0 : w16.cell? ⟨w.heap.size, 0, none⟩ = some (.int .i64 c) := cell_at hT0 rfl
                    have qhT0_1 : w16.cell? ⟨w.heap.size, 1, none⟩ = some (.int .i64 r) := cell_at hT0 rfl
                    have qhT0_2 : w16.cell? ⟨w.heap.size, 2, none⟩ = some (.slice A n cap) := cell_at hT0 rfl
                    have qhT1_0 : w16.cell? ⟨w.heap.size + 1, 0, none⟩ = some (.int .i64 un) := cell_at hT1 rfl
                    have qhT1_1 : w16.cell? ⟨w.heap.size + 1, 1, none⟩ = some (.int .i64 (ln : Nat)) := cell_at hT1 rfl
                    have qhT1_2 : w16.cell? ⟨w.heap.size + 1, 2, none⟩ = some (.int .i64 most) := cell_at hT1 rfl
                    have qhT1_3 : w16.cell? ⟨w.heap.size + 1, 3, none⟩ = some (.slice P m capp) := cell_at hT1 rfl
                    clear hb
                    have hdd : decide (xl = xl) = true := by simp
                    rw [hdd]
                    clear hdd hO hsumF
                    go_wp2_with fail
                    refine (d7 _ hst).mono ?_
                    rintro e wZ ⟨rfl, hb⟩
                    have HB := Lib.hid (hB16.call hb rfl)
                    clear hb
                    go_wp2
                    go_ret
                    exact ⟨rfl, HB.out⟩
                have hkm2 : (k : Int) < (m : Int) := by omega
                have hk02 : (0 : Int) ≤ (k : Int) := by omega
                obtain ⟨db, doff, y, ya, yc, rfl, hy, hdb, hdc, hry⟩ := HD.at hlt
                have HYX := Lib.hid hy
                have hyl : y.length ≤ 1000000 := by have := H45.out y (List.mem_of_getElem? hy); omega
                have hszq : w7.heap.size ≤ w8.heap.size := hbr3.size
                clear hy
                obtain ⟨wE, hwn⟩ : ∃ V, V = w8.alloc (Obj.cells #[] 3) := ⟨_, rfl⟩
                have hbn : Below w8.heap.size w8 wE := by rw [hwn]; exact (Below.refl _ _).alloc (Nat.le_refl _) _
                have hown0 : wE.ownsRow w8.heap.size 3 1 (.slice (some ⟨w8.heap.size, 0, none⟩) 0 0) 0 [] := own_empty (Nat.le_refl _) (by rw [hwn]; exact heap_new rfl)
                have hszn := hbn.size
                go_wp2_with (at_builtin; rw [← hwn]; refine wpList_plain rfl fun K hK => wp_app_ints _ _ rfl w8.heap.size _ 0 [] y rfl hown0 ya y.length yc rfl (hry.below hbn) (by omega) hszn (fun vA w9 h1 h2 => ?_); obtain ⟨A6, cap6, rfl, _⟩ := Sl.of_own h1; refine hK _ _ (stopq ?_))
                have hbb := hbn.trans h2
                rw [Nat.zero_add, List.nil_append] at h1
                clear hown0 hszn hwn hbn h2 hry hdc hdb
                clear qhT0_0 qhT0_1 qhT0_2 qhT1_0 qhT1_1 qhT1_2 qhT1_3
                have hS := hbb
                have hB9 := hB8.call hS rfl
                replace H := H.below hS
                replace HP := HP.below hS
                replace HD := HD.below hS
                replace hst := hst.below hS
                replace hT0 := blkb hT0 hS
                replace hT1 := blkb hT1 hS
                replace hbr := hbr.call hS rfl
                replace hwr := hwr.call hS rfl
                replace hsumF := hsumF.below hS
                replace hbr3 := hbr3.call hS rfl
                replace hown := hown.below hS
                replace hvr := hvr.below hS
                clear hS hB8
                have qhT0_0 : w9.cell? ⟨w.heap.size, 0, none⟩ = some (.int .i64 c) := cell_at hT0 rfl
                have qhT0_1 : w9.cell? ⟨w.heap.size, 1, none⟩ = some (.int .i64 r) := cell_at hT0 rfl
                have qhT0_2 : w9.cell? ⟨w.heap.size, 2, none⟩ = some (.slice A n cap) := cell_at hT0 rfl
                have qhT1_0 : w9.cell? ⟨w.heap.size + 1, 0, none⟩ = some (.int .i64 un) := cell_at hT1 rfl
                have qhT1_1 : w9.cell? ⟨w.heap.size + 1, 1, none⟩ = some (.int .i64 (ln : Nat)) := cell_at hT1 rfl
                have qhT1_2 : w9.cell? ⟨w.heap.size + 1, 2, none⟩ = some (.int .i64 most) := cell_at hT1 rfl
                have qhT1_3 : w9.cell? ⟨w.heap.size + 1, 3, none⟩ = some (.slice P m capp) := cell_at hT1 rfl
                clear hbb
                have hrw : RwM w9 w7.heap.size _ y := RwM.lower (RwM.of_own h1) hszq
                clear h1
                unfold StopQ
                have hown' : w9.ownsRow w7.heap.size 22 1 u25 k us := hown
                have hszn : w7.heap.size ≤ w9.heap.size := hbr3.size
                obtain ⟨i1, hi, hz0, hz1, hz2⟩ := info_parts infoSl
                have HVR := Lib.hid hvr
                have HRW := Lib.hid hrw
                have HBR := Lib.hid hbr3
                clear hvr hrw hbr3
                go_wp2_with (at_builtin; refine wpList_append_own _ rfl _ _ 36 rfl w7.heap.size 22 i1 (.slice none 0 0) 1 24 Tryd.underlying36 hi hz0 hz1 hz2 rfl (by decide) _ _ _ rfl (hown'.alloc _) ⟨w9.heap.size, 0, none⟩ 1 1 [.slice A6 y.length cap6] rfl rfl (news_one _ _ (by simp)) (fun x hx => by rw [List.mem_singleton.1 hx]; rfl) (by unfold maxLen; omega) (by omega) (by simp; omega) ?_)
                intro x' wz hown3 hg3 _
                have hal : Below w9.heap.size w9 (w9.alloc (Obj.cells #[.slice A6 y.length cap6] 22)) := (Below.refl _ _).alloc (Nat.le_refl _) _
                have HB3 : Hid (Below w7.heap.size w7 wz) := Lib.hid ((HBR.out.alloc hszn _).grown hg3 (by simp; omega) (fun g hg => (hown'.lt g hg).1))
                have HVR3 : Hid (VR wz w7.heap.size d (us ++ [.slice A6 y.length cap6]) (k + 1)) := Lib.hid ((HVR.out.below hal).push (hown'.alloc _) hg3 HYX.out (HRW.out.below hal))
                have HO : Hid (OwnD wz w7.heap.size x' (k + 1) (us ++ [.slice A6 y.length cap6])) := Lib.hid hown3
                clear hown3 hg3 hal hown' hown hszn hi hz0 hz1 hz2
                go_wp2
                go_roundw
                case rel => exact ⟨k + 1, us ++ [.slice A6 y.length cap6], by omega, by go_num, HO.out, HVR3, HB3.out⟩
                case measure => simp [intOf]; omega
          have him2 : (i : Int) < (m : Int) := by omega
          have hi02 : (0 : Int) ≤ (i : Int) := by omega
          obtain ⟨pb, poff, p, rfl, hpx, hpb, hp0, hp1, hp2⟩ := HP.at hlt
          have hpc := HCL.out p (List.mem_of_getElem? hpx)
          obtain ⟨p0, p1, ph⟩ := p
          dsimp only at hpc hp0 hp1 hp2
          obtain ⟨a0, rfl⟩ : ∃ a : Nat, p0 = a := ⟨p0.toNat, by omega⟩
          obtain ⟨b0, rfl⟩ : ∃ b : Nat, p1 = b := ⟨p1.toNat, by omega⟩
          have han : a0 < n := by omega
          have hbn : b0 < n := by omega
          have HPX := Lib.hid hpx
          have HDG : Hid (DS.getD i [] = dlp c l un ln most ⟨a0, b0, ph⟩) := Lib.hid (by rw [HDS.out, List.getD_eq_getElem?_getD, List.getElem?_map, hpx]; rfl)
          obtain ⟨db, doff, y, ya, yc, rfl, hy, hdb, hdc, hry⟩ := HD.at hlt
          have HYX := Lib.hid hy
          have HYG : Hid (d.getD i [] = y) := Lib.hid (by rw [List.getD_eq_getElem?_getD, hy]; rfl)
          have HSHK := Lib.hid (HSH.out i _ y hpx hy)
          have HYV := Lib.hid (HDV.out y (List.mem_of_getElem? hy))
          have HSUI := Lib.hid (HSUC.out i hlt)
          rw [HDG.out, HYG.out] at HSUI
          have HBK := Lib.hid (HBD.out i (by rw [HDL2.out]; omega))
          have z0 : w.heap.size < w7.heap.size := (Array.getElem?_eq_some_iff.1 hT0).1
          have z1 : w.heap.size + 1 < w7.heap.size := (Array.getElem?_eq_some_iff.1 hT1).1
          clear hpx hpc hy hdb hdc hry
          go_wp2_with fail
          obtain ⟨w8, hwn⟩ : ∃ V, V = w7.alloc (Obj.cells #[.int .i64 a0, .int .i64 b0, .bool ph] 50) := ⟨_, rfl⟩
          have hbn0 : Below w7.heap.size w7 w8 := by rw [hwn]; exact (Below.refl _ _).alloc (Nat.le_refl _) _
          obtain ⟨bkp, hbkp⟩ : ∃ b, b = w7.heap.size := ⟨_, rfl⟩
          have kp : w8.heap[bkp]? = some (.cells #[.int .i64 a0, .int .i64 b0, .bool ph] 50 (0, 0)) := by rw [hwn]; exact heap_new hbkp
          rw [← hbkp, ← hwn]
          clear hwn hbkp hp0 hp1 hp2 z0 z1
          clear qhT0_0 qhT0_1 qhT0_2 qhT1_0 qhT1_1 qhT1_2 qhT1_3
          have hS := hbn0
          have hB8 := hB7.call hS rfl
          replace H := H.below hS
          replace HP := HP.below hS
          replace HD := HD.below hS
          replace hst := hst.below hS
          replace hT0 := blkb hT0 hS
          replace hT1 := blkb hT1 hS
          replace hbr := hbr.call hS rfl
          replace hwr := hwr.call hS rfl
          clear hS hB7
          have qhT0_0 : w8.cell? ⟨w.heap.size, 0, none⟩ = some (.int .i64 c) := cell_at hT0 rfl
          have qhT0_1 : w8.cell? ⟨w.heap.size, 1, none⟩ = some (.int .i64 r) := cell_at hT0 rfl
          have qhT0_2 : w8.cell? ⟨w.heap.size, 2, none⟩ = some (.slice A n cap) := cell_at hT0 rfl
          have qhT1_0 : w8.cell? ⟨w.heap.size + 1, 0, none⟩ = some (.int .i64 un) := cell_at hT1 rfl
          have qhT1_1 : w8.cell? ⟨w.heap.size + 1, 1, none⟩ = some (.int .i64 (ln : Nat)) := cell_at hT1 rfl
          have qhT1_2 : w8.cell? ⟨w.heap.size + 1, 2, none⟩ = some (.int .i64 most) := cell_at hT1 rfl
          have qhT1_3 : w8.cell? ⟨w.heap.size + 1, 3, none⟩ = some (.slice (some ⟨pb, poff, none⟩) m capp) := cell_at hT1 rfl
          clear hbn0
          have qkp_0 : w8.cell? ⟨bkp, 0, none⟩ = some (.int .i64 a0) := cell_at kp rfl
          have qkp_1 : w8.cell? ⟨bkp, 1, none⟩ = some (.int .i64 b0) := cell_at kp rfl
          have qkp_2 : w8.cell? ⟨bkp, 2, none⟩ = some (.bool ph) := cell_at kp rfl
          refine wp_region_plan [(0, true), (2, true), (4, true), (1, false), (3, false), (5, false), (6, true), (7, true), (8, true), (9, true), (10, true)] w8.heap.size (by kernel_rfl) (by kernel_rfl) (Nat.le_refl _) (fun _ _ d _ _ h => by cases d <;> exact h) ?_
          have hC : Below w8.heap.size w8 w8 := Below.refl _ _
          have zhT0 : w.heap.size < w8.heap.size := (Array.getElem?_eq_some_iff.1 hT0).1
          have zhT1 : w.heap.size + 1 < w8.heap.size := (Array.getElem?_eq_some_iff.1 hT1).1
          have zkp : bkp < w8.heap.size := (Array.getElem?_eq_some_iff.1 kp).1
          repeat (first | (refine wpPlanA_skip _ rfl (by rfl) ?_; simp only [Act.put, List.setIfInBounds_toArray, List.set_cons_zero, List.set_cons_succ]) | (refine wpPlanA_soft _ ?_ rfl (by rfl) ?_ ?_; rotate_left; (intro wq hq hcq; go_simp; first | exact rfl | exact ⟨rfl, rfl⟩); simp only [Act.put, List.setIfInBounds_toArray, List.set_cons_zero, List.set_cons_succ]))
          refine wpPlanA_hard _ rfl (by rfl) (fun w9 hS K hK => ?_)
          have hB9 := hB8.call hS rfl
          replace hC := hC.call hS rfl
          replace H := H.below hS
          replace HP := HP.below hS
          replace HD := HD.below hS
          replace hst := hst.below hS
          replace hT0 := blkb hT0 hS
          replace hT1 := blkb hT1 hS
          replace hbr := hbr.call hS rfl
          replace hwr := hwr.call hS rfl
          replace kp := blkb kp hS
          clear hS hB8
          go_simp
          refine (d9 c r A n cap l _ (by omega) H).mono ?_
          rintro e w10 ⟨vg2, rfl, hown2, hb⟩
          have hB10 := hB9.call hb rfl
          replace hC := hC.call hb rfl
          replace H := H.below hb
          replace HP := HP.below hb
          replace HD := HD.below hb
          replace hst := hst.below hb
          replace hT0 := blkb hT0 hb
          replace hT1 := blkb hT1 hb
          replace hbr := hbr.call hb rfl
          replace hwr := hwr.call hb rfl
          replace kp := blkb kp hb
          clear hb hB9
          refine hK _ _ hC ?_
          clear hK K
          try simp only [Act.put, List.setIfInBounds_toArray, List.set_cons_zero, List.set_cons_succ]
          obtain ⟨g2, cg2, rfl, hg2⟩ := RowI.of_own hn0 hown2
          clear hown2
          have HG2 := hg2.rd
          clear hg2
          refine wpPlanA_hard _ rfl (by rfl) (fun w11 hS K hK => ?_)
          have hB11 := hB10.call hS rfl
          replace hC := hC.call hS rfl
          replace H := H.below hS
          replace HP := HP.below hS
          replace HD := HD.below hS
          replace hst := hst.below hS
          replace hT0 := blkb hT0 hS
          replace hT1 := blkb hT1 hS
          replace hbr := hbr.call hS rfl
          replace hwr := hwr.call hS rfl
          replace kp := blkb kp hS
          replace HG2 := HG2.below hS
          clear hS hB10
          go_simp
          refine (c21 un ln most _ m capp ps _ (by omega) HP).mono ?_
          rintro e w12 ⟨P2, cp2, rfl, hps2, hcp2, hb⟩
          have hB12 := hB11.call hb rfl
          replace hC := hC.call hb rfl
          replace H := H.below hb
          replace HP := HP.below hb
          replace HD := HD.below hb
          replace hst := hst.below hb
          replace hT0 := blkb hT0 hb
          replace hT1 := blkb hT1 hb
          replace hbr := hbr.call hb rfl
          replace hwr := hwr.call hb rfl
          replace kp := blkb kp hb
          replace HG2 := HG2.below hb
          clear hb hB11
          refine hK _ _ hC ?_
          clear hK K
          try simp only [Act.put, List.setIfInBounds_toArray, List.set_cons_zero, List.set_cons_succ]
          refine wpPlanA_hard _ rfl (by rfl) (fun w13 hS K hK => ?_)
          have hB13 := hB12.call hS rfl
          replace hC := hC.call hS rfl
          replace H := H.below hS
          replace HP := HP.below hS
          replace HD := HD.below hS
          replace hst := hst.below hS
          replace hT0 := blkb hT0 hS
          replace hT1 := blkb hT1 hS
          replace hbr := hbr.call hS rfl
          replace hwr := hwr.call hS rfl
          replace kp := blkb kp hS
          replace HG2 := HG2.below hS
          replace hps2 := hps2.below hS
          clear hS hB12
          go_simp
          refine (c28_ok c r (some ⟨g2, 0, none⟩) n cg2 l un ln most P2 m cp2 ps i a0 b0 ph _ g hc hr hu (by omega) HS.out HPX.out han hbn HG2 hps2 hst).mono ?_
          rintro e w14 ⟨vd, rfl, hownd, hb⟩
          have HSQ : Hid (w7.heap.size ≤ w13.heap.size) := Lib.hid hwr.size
          have hB14 := hB13.call hb rfl
          replace hC := hC.call hb rfl
          replace H := H.below hb
          replace HP := HP.below hb
          replace HD := HD.below hb
          replace hst := hst.below hb
          replace hT0 := blkb hT0 hb
          replace hT1 := blkb hT1 hb
          replace hbr := hbr.call hb rfl
          replace hwr := hwr.call hb rfl
          replace kp := blkb kp hb
          replace HG2 := HG2.below hb
          replace hps2 := hps2.below hb
          clear hb hB13
          refine hK _ _ hC ?_
          clear hK K
          try simp only [Act.put, List.setIfInBounds_toArray, List.set_cons_zero, List.set_cons_succ]
          obtain ⟨gd, cd, rfl, hd0⟩ := RowI.of_own hn0 hownd
          clear hownd
          have hd := hd0.lower (Nat.le_trans (Nat.le_trans HSZA.out HGB.out.size) HSQ.out)
          clear hd0
          repeat (first | (refine wpPlanA_skip _ rfl (by rfl) ?_; simp only [Act.put, List.setIfInBounds_toArray, List.set_cons_zero, List.set_cons_succ]) | (refine wpPlanA_soft _ ?_ rfl (by rfl) ?_ ?_; rotate_left; (intro wq hq hcq; go_simp; first | exact rfl | exact ⟨rfl, rfl⟩); simp only [Act.put, List.setIfInBounds_toArray, List.set_cons_zero, List.set_cons_succ]))
          clear HG2
          clear hps2
          clear qhT0_0 qhT0_1 qhT0_2 qhT1_0 qhT1_1 qhT1_2 qhT1_3 qkp_0 qkp_1 qkp_2
          refine wpPlanA_nil (fun w15 hS => ?_)
          clear hC zhT0 zhT1 zkp
          have hB15 := hB14.call hS rfl
          replace H := H.below hS
          replace HP := HP.below hS
          replace HD := HD.below hS
          replace hst := hst.below hS
          replace hT0 := blkb hT0 hS
          replace hT1 := blkb hT1 hS
          replace hbr := hbr.call hS rfl
          replace hwr := hwr.call hS rfl
          replace kp := blkb kp hS
          replace hd := hd.below hS
          clear hS hB14
          have qhT0_0 : w15.cell? ⟨w.heap.size, 0, none⟩ = some (.int .i64 c) := cell_at hT0 rfl
          have qhT0_1 : w15.cell? ⟨w.heap.size, 1, none⟩ = some (.int .i64 r) := cell_at hT0 rfl
          have qhT0_2 : w15.cell? ⟨w.heap.size, 2, none⟩ = some (.slice A n cap) := cell_at hT0 rfl
          have qhT1_0 : w15.cell? ⟨w.heap.size + 1, 0, none⟩ = some (.int .i64 un) := cell_at hT1 rfl
          have qhT1_1 : w15.cell? ⟨w.heap.size + 1, 1, none⟩ = some (.int .i64 (ln : Nat)) := cell_at hT1 rfl
          have qhT1_2 : w15.cell? ⟨w.heap.size + 1, 2, none⟩ = some (.int .i64 most) := cell_at hT1 rfl
          have qhT1_3 : w15.cell? ⟨w.heap.size + 1, 3, none⟩ = some (.slice (some ⟨pb, poff, none⟩) m capp) := cell_at hT1 rfl
          have qkp_0 : w15.cell? ⟨bkp, 0, none⟩ = some (.int .i64 a0) := cell_at kp rfl
          have qkp_1 : w15.cell? ⟨bkp, 1, none⟩ = some (.int .i64 b0) := cell_at kp rfl
          have qkp_2 : w15.cell? ⟨bkp, 2, none⟩ = some (.bool ph) := cell_at kp rfl
          have hnn : ((n : Int) != (n : Int)) = false := by simp
          have hdlp : dlL c l un ln most a0 b0 ph = dlp c l un ln most ⟨a0, b0, ph⟩ := rfl
          rw [hdlp] at hd
          clear hdlp
          cases ph
          rotate_left
          ·
              have qhT0_0 : w15.cell? ⟨w.heap.size, 0, none⟩ = some (.int .i64 c) := cell_at hT0 rfl
              have qhT0_1 : w15.cell? ⟨w.heap.size, 1, none⟩ = some (.int .i64 r) := cell_at hT0 rfl
              have qhT0_2 : w15.cell? ⟨w.heap.size, 2, none⟩ = some (.slice A n cap) := cell_at hT0 rfl
              have qhT1_0 : w15.cell? ⟨w.heap.size + 1, 0, none⟩ = some (.int .i64 un) := cell_at hT1 rfl
              have qhT1_1 : w15.cell? ⟨w.heap.size + 1, 1, none⟩ = some (.int .i64 (ln : Nat)) := cell_at hT1 rfl
              have qhT1_2 : w15.cell? ⟨w.heap.size + 1, 2, none⟩ = some (.int .i64 most) := cell_at hT1 rfl
              have qhT1_3 : w15.cell? ⟨w.heap.size + 1, 3, none⟩ = some (.slice (some ⟨pb, poff, none⟩) m capp) := cell_at hT1 rfl
              have qkp_0 : w15.cell? ⟨bkp, 0, none⟩ = some (.int .i64 a0) := cell_at kp rfl
              have qkp_1 : w15.cell? ⟨bkp, 1, none⟩ = some (.int .i64 b0) := cell_at kp rfl
              have qkp_2 : w15.cell? ⟨bkp, 2, none⟩ = some (.bool true) := cell_at kp rfl
              have HSM2 : Hid (RowI w15 w4.heap.size gs n n (Im.imgN n DS d (i + 1))) := Lib.hid (by
                rw [HSUI.out, Im.imgFold_hole (by rw [dlp_len, HLN.out, HIL.out]) (fun j hj => dlp_hole rfl (by rw [dlp_len] at hj; exact hj))]
                exact HSM.out.below hwr)
              have HGB2 : Hid (w6.grownBy w15 (some gs)) := Lib.hid (gb_call HGB.out (hwr.mono HGB.out.size))
              clear hwr hbr
              go_wp2
              go_roundw
              case rel => exact ⟨i + 1, by omega, rfl, HSM2, HGB2⟩
              case measure => simp [intOf]; omega
          have qhT0_0 : w15.cell? ⟨w.heap.size, 0, none⟩ = some (.int .i64 c) := cell_at hT0 rfl
          have qhT0_1 : w15.cell? ⟨w.heap.size, 1, none⟩ = some (.int .i64 r) := cell_at hT0 rfl
          have qhT0_2 : w15.cell? ⟨w.heap.size, 2, none⟩ = some (.slice A n cap) := cell_at hT0 rfl
          have qhT1_0 : w15.cell? ⟨w.heap.size + 1, 0, none⟩ = some (.int .i64 un) := cell_at hT1 rfl
          have qhT1_1 : w15.cell? ⟨w.heap.size + 1, 1, none⟩ = some (.int .i64 (ln : Nat)) := cell_at hT1 rfl
          have qhT1_2 : w15.cell? ⟨w.heap.size + 1, 2, none⟩ = some (.int .i64 most) := cell_at hT1 rfl
          have qhT1_3 : w15.cell? ⟨w.heap.size + 1, 3, none⟩ = some (.slice (some ⟨pb, poff, none⟩) m capp) := cell_at hT1 rfl
          have qkp_0 : w15.cell? ⟨bkp, 0, none⟩ = some (.int .i64 a0) := cell_at kp rfl
          have qkp_1 : w15.cell? ⟨bkp, 1, none⟩ = some (.int .i64 b0) := cell_at kp rfl
          have qkp_2 : w15.cell? ⟨bkp, 2, none⟩ = some (.bool false) := cell_at kp rfl
          have hyl : y.length = ln := by
            have h := HSHK.out
            simp [Mo.okT] at h
            omega
          have HYL := Lib.hid hyl
          have HRD := Lib.hid hd
          have HGBD : Hid (w6.grownBy w15 (some gs)) := Lib.hid (gb_call HGB.out (hwr.mono HGB.out.size))
          have hsm := HSM.out.below hwr
          obtain ⟨dsv, hdsv⟩ : ∃ x, x = dlp c l un ln most ⟨a0, b0, false⟩ := ⟨_, rfl⟩
          rw [← hdsv] at HRD HSUI
          have HDV2 := Lib.hid hdsv
          have HDLN : Hid (dsv.length = n) := Lib.hid (by rw [hdsv, dlp_len, HLN.out])
          have HDMM : Hid (∀ d, d ∈ dsv → d < (ln : Int)) := Lib.hid (by rw [hdsv]; exact dlp_mem hl12'.1)
          obtain ⟨B, hBv⟩ : ∃ x, x = Im.imgN n DS d i := ⟨_, rfl⟩
          rw [← hBv] at hsm HSUI
          have HBL : Hid (B.length = n) := Lib.hid (by rw [hBv, HIL.out])
          have HBBD : Hid (∀ k, k < n → -3145728 ≤ Im.at0 B k ∧ Im.at0 B k ≤ 3145728) := Lib.hid (fun k hk => by
            have h := HBK.out k hk
            rw [← hBv] at h
            have h3 : (i : Int) * 1048576 ≤ 3 * 1048576 := Int.mul_le_mul_of_nonneg_right (by omega) (by omega)
            omega)
          have HPAR := Lib.hid (Im.par_le (tr := y) (B := 1048576) (by omega) HYV.out)
          have hst0 : Hid (RowI w15 w4.heap.size gs n n (Im.accL B dsv y 0 0)) := by rw [Im.accL_start]; exact Lib.hid hsm
          have hgD0 : Hid (w15.grownBy w15 (some gs)) := Lib.hid (grownBy_of_below (Below.refl _ _) _)
          clear hsm hyl hd hdsv hBv
          go_wp2_with fail
          clear qhT0_0 qhT0_1 qhT0_2 qhT1_0 qhT1_1 qhT1_2 qhT1_3 qkp_0 qkp_1 qkp_2
          clear H HP HD hst hT0 hT1 hbr hwr kp
          go_loopw [175] (fun x wr => ∃ a : Nat, a ≤ ln ∧ x = .int .i64 a ∧ Hid (RowI wr w4.heap.size gs n n (Im.accL B dsv y a 0)) ∧ Hid (w15.grownBy wr (some gs))) (fun x _ => ln - (intOf x).toNat)
          case atStart => exact ⟨0, Nat.zero_le _, rfl, hst0, hgD0⟩
          case round =>
            clear hst0 hgD0
            obtain ⟨a, ha, rfl, HRW, HG⟩ := hrel
            have HGA : Hid (w6.grownBy wr (some gs)) := Lib.hid (gb_trans HGBD.out HG.out)
            obtain ⟨w16, hww⟩ : ∃ W, W = wr := ⟨_, rfl⟩
            subst hww
            have hbr : Below w4.heap.size w4 w16 := HBA.out.trans (gb_below HGA.out HBA.out.size HGO.out)
            have hB16 := KB.out.call hbr rfl
            have H := KH.out.below hbr
            have HP := KHP.out.below hbr
            have HD := KHD.out.below hbr
            have hst := Khst.out.below hbr
            have hT0 := blkb KhT0.out hbr
            have hT1 := blkb KhT1.out hbr
            have hwr : Below w16.heap.size w16 w16 := Below.refl _ _
            have qhT0_0 : w16.cell? ⟨w.heap.size, 0, none⟩ = some (.int .i64 c) := cell_at hT0 rfl
            have qhT0_1 : w16.cell? ⟨w.heap.size, 1, none⟩ = some (.int .i64 r) := cell_at hT0 rfl
            have qhT0_2 : w16.cell? ⟨w.heap.size, 2, none⟩ = some (.slice A n cap) := cell_at hT0 rfl
            have qhT1_0 : w16.cell? ⟨w.heap.size + 1, 0, none⟩ = some (.int .i64 un) := cell_at hT1 rfl
            have qhT1_1 : w16.cell? ⟨w.heap.size + 1, 1, none⟩ = some (.int .i64 (ln : Nat)) := cell_at hT1 rfl
            have qhT1_2 : w16.cell? ⟨w.heap.size + 1, 2, none⟩ = some (.int .i64 most) := cell_at hT1 rfl
            have qhT1_3 : w16.cell? ⟨w.heap.size + 1, 3, none⟩ = some (.slice (some ⟨pb, poff, none⟩) m capp) := cell_at hT1 rfl
            have hd := HRD.out.gb HG.out HGT.out
            have hwa : IntKind.i64.wrap ((a : Int) + 1) = ((a + 1 : Nat) : Int) := by rw [wrapI (by omega)]; simp
            by_cases hlta : a < ln
            rotate_left
            · obtain rfl : ln = a := by omega
              have HSM3 : Hid (RowI w16 w4.heap.size gs n n (Im.imgN n DS d (i + 1))) := Lib.hid (by
                rw [HSUI.out, ← Im.accL_full (len := ln) (by rw [HDLN.out, HBL.out]) HDMM.out]
                exact HRW.out)
              clear hwr hbr hd
              go_wp2
              go_roundw
              case rel => exact ⟨i + 1, by omega, rfl, HSM3, HGA⟩
              case measure => simp [intOf]; omega
            have ham2 : (a : Int) < (ln : Int) := by omega
            have ha02 : (0 : Int) ≤ (a : Int) := by omega
            go_wp2_with fail
            refine wp_region_plan [(0, true), (2, true), (4, true), (5, true), (6, true), (1, false), (3, false), (7, false), (8, false), (9, true), (10, true), (11, true), (12, true), (13, true)] w16.heap.size (by kernel_rfl) (by kernel_rfl) (Nat.le_refl _) (fun _ _ d _ _ h => by cases d <;> exact h) ?_
            have hC : Below w16.heap.size w16 w16 := Below.refl _ _
            have zhT0 : w.heap.size < w16.heap.size := (Array.getElem?_eq_some_iff.1 hT0).1
            have zhT1 : w.heap.size + 1 < w16.heap.size := (Array.getElem?_eq_some_iff.1 hT1).1
            repeat (first | (refine wpPlanA_skip _ rfl (by rfl) ?_; simp only [Act.put, List.setIfInBounds_toArray, List.set_cons_zero, List.set_cons_succ]) | (refine wpPlanA_soft _ ?_ rfl (by rfl) ?_ ?_; rotate_left; (intro wq hq hcq; go_simp; first | exact rfl | exact ⟨rfl, rfl⟩); simp only [Act.put, List.setIfInBounds_toArray, List.set_cons_zero, List.set_cons_succ]))
            refine wpPlanA_hard _ rfl (by rfl) (fun w17 hS K hK => ?_)
            have hB17 := hB16.call hS rfl
            replace hC := hC.call hS rfl
            replace H := H.below hS
            replace HP := HP.below hS
            replace HD := HD.below hS
            replace hst := hst.below hS
            replace hT0 := blkb hT0 hS
            replace hT1 := blkb hT1 hS
            replace hbr := hbr.call hS rfl
            replace hwr := hwr.call hS rfl
            replace hd := hd.below hS
            clear hS hB16
            go_simp
            refine (d9 c r A n cap l _ (by omega) H).mono ?_
            rintro e w18 ⟨vg3, rfl, hown3, hb⟩
            have hB18 := hB17.call hb rfl
            replace hC := hC.call hb rfl
            replace H := H.below hb
            replace HP := HP.below hb
            replace HD := HD.below hb
            replace hst := hst.below hb
            replace hT0 := blkb hT0 hb
            replace hT1 := blkb hT1 hb
            replace hbr := hbr.call hb rfl
            replace hwr := hwr.call hb rfl
            replace hd := hd.below hb
            clear hb hB17
            refine hK _ _ hC ?_
            clear hK K
            try simp only [Act.put, List.setIfInBounds_toArray, List.set_cons_zero, List.set_cons_succ]
            obtain ⟨g3, cg3, rfl, hg3⟩ := RowI.of_own hn0 hown3
            clear hown3
            have HG3 := hg3.rd
            clear hg3
            refine wpPlanA_hard _ rfl (by rfl) (fun w19 hS K hK => ?_)
            have hB19 := hB18.call hS rfl
            replace hC := hC.call hS rfl
            replace H := H.below hS
            replace HP := HP.below hS
            replace HD := HD.below hS
            replace hst := hst.below hS
            replace hT0 := blkb hT0 hS
            replace hT1 := blkb hT1 hS
            replace hbr := hbr.call hS rfl
            replace hwr := hwr.call hS rfl
            replace hd := hd.below hS
            replace HG3 := HG3.below hS
            clear hS hB18
            go_simp
            refine (c21 un ln most _ m capp ps _ (by omega) HP).mono ?_
            rintro e w20 ⟨P3, cp3, rfl, hps3, hcp3, hb⟩
            have hB20 := hB19.call hb rfl
            replace hC := hC.call hb rfl
            replace H := H.below hb
            replace HP := HP.below hb
            replace HD := HD.below hb
            replace hst := hst.below hb
            replace hT0 := blkb hT0 hb
            replace hT1 := blkb hT1 hb
            replace hbr := hbr.call hb rfl
            replace hwr := hwr.call hb rfl
            replace hd := hd.below hb
            replace HG3 := HG3.below hb
            clear hb hB19
            refine hK _ _ hC ?_
            clear hK K
            try simp only [Act.put, List.setIfInBounds_toArray, List.set_cons_zero, List.set_cons_succ]
            refine wpPlanA_hard _ rfl (by rfl) (fun w21 hS K hK => ?_)
            have hB21 := hB20.call hS rfl
            replace hC := hC.call hS rfl
            replace H := H.below hS
            replace HP := HP.below hS
            replace HD := HD.below hS
            replace hst := hst.below hS
            replace hT0 := blkb hT0 hS
            replace hT1 := blkb hT1 hS
            replace hbr := hbr.call hS rfl
            replace hwr := hwr.call hS rfl
            replace hd := hd.below hS
            replace HG3 := HG3.below hS
            replace hps3 := hps3.below hS
            clear hS hB20
            go_simp
            refine (d18 un ln most _ m capp ps i a (w.heap.size + 1) _ hp16 hl256 hlt hlta (by rw [List.getD_eq_getElem?_getD, List.getElem?_map, HPX.out]; rfl) hT1 HP).mono ?_
            rintro e w22 ⟨AU, cU, rfl, hru, hb⟩
            have hB22 := hB21.call hb rfl
            replace hC := hC.call hb rfl
            replace H := H.below hb
            replace HP := HP.below hb
            replace HD := HD.below hb
            replace hst := hst.below hb
            replace hT0 := blkb hT0 hb
            replace hT1 := blkb hT1 hb
            replace hbr := hbr.call hb rfl
            replace hwr := hwr.call hb rfl
            replace hd := hd.below hb
            replace HG3 := HG3.below hb
            replace hps3 := hps3.below hb
            clear hb hB21
            refine hK _ _ hC ?_
            clear hK K
            try simp only [Act.put, List.setIfInBounds_toArray, List.set_cons_zero, List.set_cons_succ]
            refine wpPlanA_hard _ rfl (by rfl) (fun w23 hS K hK => ?_)
            have hB23 := hB22.call hS rfl
            replace hC := hC.call hS rfl
            replace H := H.below hS
            replace HP := HP.below hS
            replace HD := HD.below hS
            replace hst := hst.below hS
            replace hT0 := blkb hT0 hS
            replace hT1 := blkb hT1 hS
            replace hbr := hbr.call hS rfl
            replace hwr := hwr.call hS rfl
            replace hd := hd.below hS
            replace HG3 := HG3.below hS
            replace hps3 := hps3.below hS
            replace hru := hru.below hS
            clear hS hB22
            go_simp
            refine (c50_ok c r (some ⟨g3, 0, none⟩) n cg3 l un ln most P3 m cp3 ps AU cU (Im.unitsD ln (ps.map (·.h)) i a) _ g hc hr hcp3 HG3 hps3 hru hst (Mo.dta_units HS.out)).mono ?_
            rintro e w24 ⟨vx, rfl, hownx, hb⟩
            have HSQ2 : Hid (w16.heap.size ≤ w23.heap.size) := Lib.hid hwr.size
            have hB24 := hB23.call hb rfl
            replace hC := hC.call hb rfl
            replace H := H.below hb
            replace HP := HP.below hb
            replace HD := HD.below hb
            replace hst := hst.below hb
            replace hT0 := blkb hT0 hb
            replace hT1 := blkb hT1 hb
            replace hbr := hbr.call hb rfl
            replace hwr := hwr.call hb rfl
            replace hd := hd.below hb
            replace HG3 := HG3.below hb
            replace hps3 := hps3.below hb
            replace hru := hru.below hb
            clear hb hB23
            refine hK _ _ hC ?_
            clear hK K
            try simp only [Act.put, List.setIfInBounds_toArray, List.set_cons_zero, List.set_cons_succ]
            obtain ⟨gx, cx, rfl, hx0⟩ := RowI.of_own hn0 hownx
            clear hownx
            have hx := hx0.lower (Nat.le_trans (Nat.le_trans HSZA.out HGA.out.size) HSQ2.out)
            clear hx0
            repeat (first | (refine wpPlanA_skip _ rfl (by rfl) ?_; simp only [Act.put, List.setIfInBounds_toArray, List.set_cons_zero, List.set_cons_succ]) | (refine wpPlanA_soft _ ?_ rfl (by rfl) ?_ ?_; rotate_left; (intro wq hq hcq; go_simp; first | exact rfl | exact ⟨rfl, rfl⟩); simp only [Act.put, List.setIfInBounds_toArray, List.set_cons_zero, List.set_cons_succ]))
            clear HG3
            clear hps3
            clear hru
            clear qhT0_0 qhT0_1 qhT0_2 qhT1_0 qhT1_1 qhT1_2 qhT1_3
            refine wpPlanA_nil (fun w25 hS => ?_)
            clear hC zhT0 zhT1
            have hB25 := hB24.call hS rfl
            replace H := H.below hS
            replace HP := HP.below hS
            replace HD := HD.below hS
            replace hst := hst.below hS
            replace hT0 := blkb hT0 hS
            replace hT1 := blkb hT1 hS
            replace hbr := hbr.call hS rfl
            replace hwr := hwr.call hS rfl
            replace hd := hd.below hS
            replace hx := hx.below hS
            clear hS hB24
            have qhT0_0 : w25.cell? ⟨w.heap.size, 0, none⟩ = some (.int .i64 c) := cell_at hT0 rfl
            have qhT0_1 : w25.cell? ⟨w.heap.size, 1, none⟩ = some (.int .i64 r) := cell_at hT0 rfl
            have qhT0_2 : w25.cell? ⟨w.heap.size, 2, none⟩ = some (.slice A n cap) := cell_at hT0 rfl
            have qhT1_0 : w25.cell? ⟨w.heap.size + 1, 0, none⟩ = some (.int .i64 un) := cell_at hT1 rfl
            have qhT1_1 : w25.cell? ⟨w.heap.size + 1, 1, none⟩ = some (.int .i64 (ln : Nat)) := cell_at hT1 rfl
            have qhT1_2 : w25.cell? ⟨w.heap.size + 1, 2, none⟩ = some (.int .i64 most) := cell_at hT1 rfl
            have qhT1_3 : w25.cell? ⟨w.heap.size + 1, 3, none⟩ = some (.slice (some ⟨pb, poff, none⟩) m capp) := cell_at hT1 rfl
            have HX := Lib.hid hx
            have HDE := Lib.hid hd
            have HGE : Hid (w15.grownBy w25 (some gs)) := Lib.hid (gb_call HG.out (hwr.mono HG.out.size))
            have hst0 : Hid (RowI w25 w4.heap.size gs n n (Im.accL B dsv y a 0)) := Lib.hid (HRW.out.below hwr)
            have hgE0 : Hid (w25.grownBy w25 (some gs)) := Lib.hid (grownBy_of_below (Below.refl _ _) _)
            have HXV : Hid (∀ j, j < n → Im.at0 (Im.image n (ps.map (dlp c l un ln most)) (Im.unitsD ln (ps.map (·.h)) i a)) j = if Im.at0 dsv j = (a : Int) then 1 else 0) := Lib.hid (fun j hj => by
              have h := img_unit (c := c) (l := l) (un := un) (most := most) HPX.out rfl hl12'.1 (k := j) (by rw [HLN.out]; exact hj) hlta
              rw [HLN.out, ← HDV2.out] at h
              exact h)
            obtain ⟨xl, hxl⟩ : ∃ x, x = (Im.image n (ps.map (dlp c l un ln most)) (Im.unitsD ln (ps.map (·.h)) i a)) := ⟨_, rfl⟩
            rw [← hxl] at HX HXV
            clear hxl hx hd
            go_wp2_with fail
            clear qhT0_0 qhT0_1 qhT0_2 qhT1_0 qhT1_1 qhT1_2 qhT1_3
            clear H HP HD hst hT0 hT1 hbr hwr
            go_loopw [202] (fun x wr => ∃ j : Nat, j ≤ n ∧ x = .int .i64 j ∧ Hid (RowI wr w4.heap.size gs n n (Im.accL B dsv y a j)) ∧ Hid (w25.grownBy wr (some gs))) (fun x _ => n - (intOf x).toNat)
            case atStart => exact ⟨0, Nat.zero_le _, rfl, hst0, hgE0⟩
            case round =>
              clear hst0 hgE0
              obtain ⟨j, hj, rfl, HRJ, HGJ⟩ := hrel
              have HGD2 : Hid (w15.grownBy wr (some gs)) := Lib.hid (gb_trans HGE.out HGJ.out)
              have HGA2 : Hid (w6.grownBy wr (some gs)) := Lib.hid (gb_trans HGBD.out HGD2.out)
              obtain ⟨w26, hww⟩ : ∃ W, W = wr := ⟨_, rfl⟩
              subst hww
              have hbr : Below w4.heap.size w4 w26 := HBA.out.trans (gb_below HGA2.out HBA.out.size HGO.out)
              have hB26 := KB.out.call hbr rfl
              have H := KH.out.below hbr
              have HP := KHP.out.below hbr
              have HD := KHD.out.below hbr
              have hst := Khst.out.below hbr
              have hT0 := blkb KhT0.out hbr
              have hT1 := blkb KhT1.out hbr
              have hwr : Below w26.heap.size w26 w26 := Below.refl _ _
              have qhT0_0 : w26.cell? ⟨w.heap.size, 0, none⟩ = some (.int .i64 c) := cell_at hT0 rfl
              have qhT0_1 : w26.cell? ⟨w.heap.size, 1, none⟩ = some (.int .i64 r) := cell_at hT0 rfl
              have qhT0_2 : w26.cell? ⟨w.heap.size, 2, none⟩ = some (.slice A n cap) := cell_at hT0 rfl
              have qhT1_0 : w26.cell? ⟨w.heap.size + 1, 0, none⟩ = some (.int .i64 un) := cell_at hT1 rfl
              have qhT1_1 : w26.cell? ⟨w.heap.size + 1, 1, none⟩ = some (.int .i64 (ln : Nat)) := cell_at hT1 rfl
              have qhT1_2 : w26.cell? ⟨w.heap.size + 1, 2, none⟩ = some (.int .i64 most) := cell_at hT1 rfl
              have qhT1_3 : w26.cell? ⟨w.heap.size + 1, 3, none⟩ = some (.slice (some ⟨pb, poff, none⟩) m capp) := cell_at hT1 rfl
              have hwj : IntKind.i64.wrap ((j : Int) + 1) = ((j + 1 : Nat) : Int) := by rw [wrapI (by omega)]; simp
              by_cases hltj : j < n
              rotate_left
              · obtain rfl : n = j := by omega
                have HRW3 : Hid (RowI w26 w4.heap.size gs n n (Im.accL B dsv y (a + 1) 0)) := Lib.hid (by
                  have e := Im.accL_next B dsv y a
                  rw [HBL.out] at e
                  rw [← e]
                  exact HRJ.out)
                clear hwr hbr
                go_wp2
                go_roundw
                case rel => exact ⟨a + 1, by omega, rfl, HRW3, HGD2⟩
                case measure => simp [intOf]; omega
              have hjn2 : (j : Int) < (n : Int) := by omega
              have hj02 : (0 : Int) ≤ (j : Int) := by omega
              have hdr := HDE.out.gb HGJ.out HGT.out
              have hxr := HX.out.gb HGJ.out HGT.out
              have hdc := (hdr.cell hltj).1
              have hxc := (hxr.cell hltj).1
              have hdl := (hdr.cell hltj).2.2
              have hxl := (hxr.cell hltj).2.2
              rw [HXV.out j hltj] at hxc
              obtain ⟨got, hv, hge, hom⟩ := (HTVA.out.gb HGA2.out HGT.out).2 j hltj
              obtain ⟨tb, toff, rfl, htb, htc⟩ := OwnT.at (own_gb HOT.out HGA2.out HGT.out) hltj
              rw [hv] at htc
              obtain ⟨tb', toff', xx, xa, xcap, he, hxx, hgl, hgc, hrx⟩ := (hom.rd (show _ = m by simp [trcs, HPL.out])).at hlt
              cases he
              rw [Nat.zero_add] at hgc
              have hxe : xx = trc c l un ln most (Im.unit n j) ⟨a0, b0, false⟩ := by rw [trcs_get HPX.out] at hxx; exact (Option.some.inj hxx).symm
              have hxxl : xx.length = ln := by rw [hxe]; exact Im.trace_len _ _ _
              rw [hxxl] at hgc hrx
              obtain ⟨rb, roff, rv, rfl, hrv, hrb, hrc⟩ := hrx.at hlta
              have hrve : rv = if Im.at0 dsv j = (a : Int) then 1 else 0 := by
                have h := trc_at (c := c) (l := l) (un := un) (ln := ln) (most := most) (k := j) (a := a) (p := ⟨a0, b0, false⟩) rfl hl12'.1 (by rw [HLN.out]; exact hltj) hlta
                rw [HLN.out, ← hxe, ← HDV2.out] at h
                rw [← h]
                simp [Im.at0, List.getD_eq_getElem?_getD, hrv]
              rw [hrve] at hrc
              obtain ⟨db', doff', y', ya, yc, he, hy', hdb, hyc, hry⟩ := HD.at hlt
              cases he
              obtain rfl : y = y' := by have h := HYX.out; rw [hy'] at h; exact (Option.some.inj h).symm
              rw [HYL.out] at hyc hry
              obtain ⟨mb, moff, mv, rfl, hmv, hmb, hmc⟩ := hry.at hlta
              have hmv2 : Im.at0 y a = mv := by simp [Im.at0, List.getD_eq_getElem?_getD, hmv]
              have hmr := HYV.out mv (List.mem_of_getElem? hmv)
              have hsc := (HRJ.out.cell hltj).1
              have hsf := (HRJ.out.cell hltj).2.1
              have hsl := (HRJ.out.cell hltj).2.2
              have hset := Im.accL_set (base := B) (ds := dsv) (tr := y) (a := a) (k := j) (by rw [HBL.out]; exact hltj)
              have hav := Im.accL_at (base := B) (ds := dsv) (tr := y) (a := a) (k := j) (i := j) (by rw [HBL.out]; exact hltj)
              have hb1 := HBBD.out j hltj
              have hb2 := HPAR.out (Im.at0 dsv j) (if j < j then a + 1 else a)
              rw [hmv2] at hset
              generalize hsv : Im.at0 (Im.accL B dsv y a j) j = sv at hsc hset hav
              have hsb : -4194304 ≤ sv ∧ sv ≤ 4194304 := by omega
              have HSV := Lib.hid hsv
              have HSET := Lib.hid hset
              clear hset hav hb1 hb2 hv hge hom hxx hxe hxxl hrx hrv hrve hry hmv hmv2 hy' hdr hxr hsv
              generalize hdj : Im.at0 dsv j = dj at hdc hxc hrc HSET
              clear hdj
              have hwm : IntKind.i64.wrap mv = mv := wrapI (by omega)
              have hws : IntKind.i64.wrap (sv + mv) = sv + mv := wrapI (by omega)
              have hws0 : IntKind.i64.wrap sv = sv := wrapI (by omega)
              by_cases hda : dj = (a : Int)
              rotate_left
              ·
                  have hdf : (dj == (a : Int)) = false := by simp [hda]
                  rw [if_neg hda] at hxc hrc HSET
                  go_wp2
                  refine wp_region_splitG 15 (by kernel_rfl) (by kernel_rfl) ?_
                  simp only [List.take_succ_cons, List.take_zero, List.drop_succ_cons, List.drop_zero]
                  repeat (go_big_quiet_step ((first | fail)))
                  refine wpQuiet_nil (gw_out ?_)
                  intro wq hbw
                  have hrow2 := HRJ.out.below hbw
                  have qc := (hrow2.cell hltj).1
                  have qf := (hrow2.cell hltj).2.1
                  rw [HSV.out] at qc
                  have HRJ2 : Hid (RowI (wq.setCell ⟨gs, j, none⟩ (.int .i64 (sv))) w4.heap.size gs n n (Im.accL B dsv y a (j + 1))) := Lib.hid (by
                    have h := hrow2.set j (sv)
                    have e := HSET.out
                    rw [Int.zero_mul, Int.add_zero] at e
                    rw [e] at h
                    exact h)
                  have HGJ2 : Hid (w25.grownBy (wq.setCell ⟨gs, j, none⟩ (.int .i64 (sv))) (some gs)) := Lib.hid (gb_set (gb_call HGJ.out (hbw.mono HGJ.out.size)))
                  clear hrow2 hdc hxc hrc hmc hsc hsf htc hgc hyc
                  go_wp2
                  go_roundw
                  case rel => exact ⟨j + 1, by omega, rfl, HRJ2, HGJ2⟩
                  case measure => simp [intOf]; omega
              ·
                  rw [if_pos hda] at hxc hrc HSET
                  subst hda
                  have hdf : ((a : Int) == (a : Int)) = true := by simp
                  go_wp2
                  refine wp_region_splitG 15 (by kernel_rfl) (by kernel_rfl) ?_
                  simp only [List.take_succ_cons, List.take_zero, List.drop_succ_cons, List.drop_zero]
                  repeat (go_big_quiet_step ((first | fail)))
                  refine wpQuiet_nil (gw_out ?_)
                  intro wq hbw
                  have hrow2 := HRJ.out.below hbw
                  have qc := (hrow2.cell hltj).1
                  have qf := (hrow2.cell hltj).2.1
                  rw [HSV.out] at qc
                  have HRJ2 : Hid (RowI (wq.setCell ⟨gs, j, none⟩ (.int .i64 (sv + mv))) w4.heap.size gs n n (Im.accL B dsv y a (j + 1))) := Lib.hid (by
                    have h := hrow2.set j (sv + mv)
                    have e := HSET.out
                    rw [Int.one_mul] at e
                    rw [e] at h
                    exact h)
                  have HGJ2 : Hid (w25.grownBy (wq.setCell ⟨gs, j, none⟩ (.int .i64 (sv + mv))) (some gs)) := Lib.hid (gb_set (gb_call HGJ.out (hbw.mono HGJ.out.size)))
                  clear hrow2 hdc hxc hrc hmc hsc hsf htc hgc hyc
                  go_wp2
                  go_roundw
                  case rel => exact ⟨j + 1, by omega, rfl, HRJ2, HGJ2⟩
                  case measure => simp [intOf]; omega
    have hkn2 : (k : Int) < (n : Int) := by omega
    have hk02 : (0 : Int) ≤ (k : Int) := by omega
    have hmk := HMK.out n (by omega)
    have hfa : (fillA (.int .i64 0) (fun _ => .int .i64 0) n 0)[k]? = some (.int .i64 0) := by rw [fillA_get _ _ _ _ _ hlt, if_neg (Nat.not_lt_zero k)]
    have z0 : w.heap.size < w6.heap.size := (Array.getElem?_eq_some_iff.1 hT0).1
    have z1 : w.heap.size + 1 < w6.heap.size := (Array.getElem?_eq_some_iff.1 hT1).1
    go_wp2_with fail
    obtain ⟨w7, hwn⟩ : ∃ V, V = w6.alloc (Obj.cells ((fillA (.int .i64 0) (fun _ => .int .i64 0) n 0).setIfInBounds k (.int .i64 1)) 3) := ⟨_, rfl⟩
    have hbn0 : Below w6.heap.size w6 w7 := by rw [hwn]; exact (Below.refl _ _).alloc (Nat.le_refl _) _
    obtain ⟨gm, hgm⟩ : ∃ b, b = w6.heap.size := ⟨_, rfl⟩
    have hmu : RowI w7 0 gm n n (Im.unit n k) := by rw [hwn]; exact row_unit hgm (Nat.zero_le _) (by omega)
    rw [← hgm, ← hwn]
    clear hwn hgm hmk hfa z0 z1
    clear qhT0_0 qhT0_1 qhT0_2 qhT1_0 qhT1_1 qhT1_2 qhT1_3
    have hS := hbn0
    have hB7 := hB6.call hS rfl
    replace hT0 := blkb hT0 hS
    replace hT1 := blkb hT1 hS
    replace H := H.below hS
    replace HP := HP.below hS
    replace HD := HD.below hS
    replace hst := hst.below hS
    replace hbb := hbb.call hS rfl
    replace hbr := hbr.call hS rfl
    replace hown := hown.below hS
    replace htv := htv.below hS
    clear hS hB6
    have qhT0_0 : w7.cell? ⟨w.heap.size, 0, none⟩ = some (.int .i64 c) := cell_at hT0 rfl
    have qhT0_1 : w7.cell? ⟨w.heap.size, 1, none⟩ = some (.int .i64 r) := cell_at hT0 rfl
    have qhT0_2 : w7.cell? ⟨w.heap.size, 2, none⟩ = some (.slice A n cap) := cell_at hT0 rfl
    have qhT1_0 : w7.cell? ⟨w.heap.size + 1, 0, none⟩ = some (.int .i64 un) := cell_at hT1 rfl
    have qhT1_1 : w7.cell? ⟨w.heap.size + 1, 1, none⟩ = some (.int .i64 (ln : Nat)) := cell_at hT1 rfl
    have qhT1_2 : w7.cell? ⟨w.heap.size + 1, 2, none⟩ = some (.int .i64 most) := cell_at hT1 rfl
    have qhT1_3 : w7.cell? ⟨w.heap.size + 1, 3, none⟩ = some (.slice P m capp) := cell_at hT1 rfl
    clear hbn0
    refine wp_region_plan [(0, true), (2, true), (4, true), (1, false), (3, false), (5, false), (6, true), (7, true), (8, true), (9, true), (10, true)] w7.heap.size (by kernel_rfl) (by kernel_rfl) (Nat.le_refl _) (fun _ _ d _ _ h => by cases d <;> exact h) ?_
    have hC : Below w7.heap.size w7 w7 := Below.refl _ _
    have zhT0 : w.heap.size < w7.heap.size := (Array.getElem?_eq_some_iff.1 hT0).1
    have zhT1 : w.heap.size + 1 < w7.heap.size := (Array.getElem?_eq_some_iff.1 hT1).1
    repeat (first | (refine wpPlanA_skip _ rfl (by rfl) ?_; simp only [Act.put, List.setIfInBounds_toArray, List.set_cons_zero, List.set_cons_succ]) | (refine wpPlanA_soft _ ?_ rfl (by rfl) ?_ ?_; rotate_left; (intro wq hq hcq; go_simp; first | exact rfl | exact ⟨rfl, rfl⟩); simp only [Act.put, List.setIfInBounds_toArray, List.set_cons_zero, List.set_cons_succ]))
    refine wpPlanA_hard _ rfl (by rfl) (fun w8 hS K hK => ?_)
    have hB8 := hB7.call hS rfl
    replace hC := hC.call hS rfl
    replace hT0 := blkb hT0 hS
    replace hT1 := blkb hT1 hS
    replace H := H.below hS
    replace HP := HP.below hS
    replace HD := HD.below hS
    replace hst := hst.below hS
    replace hbb := hbb.call hS rfl
    replace hbr := hbr.call hS rfl
    replace hown := hown.below hS
    replace htv := htv.below hS
    replace hmu := hmu.below hS
    clear hS hB7
    go_simp
    refine (d9 c r A n cap l _ (by omega) H).mono ?_
    rintro e w9 ⟨vg1, rfl, hown1, hb⟩
    have hB9 := hB8.call hb rfl
    replace hC := hC.call hb rfl
    replace hT0 := blkb hT0 hb
    replace hT1 := blkb hT1 hb
    replace H := H.below hb
    replace HP := HP.below hb
    replace HD := HD.below hb
    replace hst := hst.below hb
    replace hbb := hbb.call hb rfl
    replace hbr := hbr.call hb rfl
    replace hown := hown.below hb
    replace htv := htv.below hb
    replace hmu := hmu.below hb
    clear hb hB8
    refine hK _ _ hC ?_
    clear hK K
    try simp only [Act.put, List.setIfInBounds_toArray, List.set_cons_zero, List.set_cons_succ]
    obtain ⟨g1, cg1, rfl, hg1⟩ := RowI.of_own hn0 hown1
    clear hown1
    have HG1 := hg1.rd
    clear hg1
    refine wpPlanA_hard _ rfl (by rfl) (fun w10 hS K hK => ?_)
    have hB10 := hB9.call hS rfl
    replace hC := hC.call hS rfl
    replace hT0 := blkb hT0 hS
    replace hT1 := blkb hT1 hS
    replace H := H.below hS
    replace HP := HP.below hS
    replace HD := HD.below hS
    replace hst := hst.below hS
    replace hbb := hbb.call hS rfl
    replace hbr := hbr.call hS rfl
    replace hown := hown.below hS
    replace htv := htv.below hS
    replace hmu := hmu.below hS
    replace HG1 := HG1.below hS
    clear hS hB9
    go_simp
    refine (c21 un ln most P m capp ps _ (by omega) HP).mono ?_
    rintro e w11 ⟨P1, cp1, rfl, hps1, hcp1, hb⟩
    have hB11 := hB10.call hb rfl
    replace hC := hC.call hb rfl
    replace hT0 := blkb hT0 hb
    replace hT1 := blkb hT1 hb
    replace H := H.below hb
    replace HP := HP.below hb
    replace HD := HD.below hb
    replace hst := hst.below hb
    replace hbb := hbb.call hb rfl
    replace hbr := hbr.call hb rfl
    replace hown := hown.below hb
    replace htv := htv.below hb
    replace hmu := hmu.below hb
    replace HG1 := HG1.below hb
    clear hb hB10
    refine hK _ _ hC ?_
    clear hK K
    try simp only [Act.put, List.setIfInBounds_toArray, List.set_cons_zero, List.set_cons_succ]
    refine wpPlanA_hard _ rfl (by rfl) (fun w12 hS K hK => ?_)
    have hB12 := hB11.call hS rfl
    replace hC := hC.call hS rfl
    replace hT0 := blkb hT0 hS
    replace hT1 := blkb hT1 hS
    replace H := H.below hS
    replace HP := HP.below hS
    replace HD := HD.below hS
    replace hst := hst.below hS
    replace hbb := hbb.call hS rfl
    replace hbr := hbr.call hS rfl
    replace hown := hown.below hS
    replace htv := htv.below hS
    replace hmu := hmu.below hS
    replace HG1 := HG1.below hS
    replace hps1 := hps1.below hS
    clear hS hB11
    go_simp
    refine (c19_ok c r (some ⟨g1, 0, none⟩) n cg1 l un ln most P1 m cp1 ps (some ⟨gm, 0, none⟩) n (Im.unit n k) _ g hc hr hcp1 HG1 hps1 hmu.rd hst (by have h := Mo.mdl_unit (k := k) HS.out; rw [HLN.out] at h; exact h)).mono ?_
    rintro e w13 ⟨got, rfl, hgo2, hout, hb⟩
    have HSZM : Hid (w5.heap.size ≤ w12.heap.size) := Lib.hid hbr.size
    have hB13 := hB12.call hb rfl
    replace hC := hC.call hb rfl
    replace hT0 := blkb hT0 hb
    replace hT1 := blkb hT1 hb
    replace H := H.below hb
    replace HP := HP.below hb
    replace HD := HD.below hb
    replace hst := hst.below hb
    replace hbb := hbb.call hb rfl
    replace hbr := hbr.call hb rfl
    replace hown := hown.below hb
    replace htv := htv.below hb
    replace hmu := hmu.below hb
    replace HG1 := HG1.below hb
    replace hps1 := hps1.below hb
    clear hb hB12
    refine hK _ _ hC ?_
    clear hK K
    try simp only [Act.put, List.setIfInBounds_toArray, List.set_cons_zero, List.set_cons_succ]
    repeat (first | (refine wpPlanA_skip _ rfl (by rfl) ?_; simp only [Act.put, List.setIfInBounds_toArray, List.set_cons_zero, List.set_cons_succ]) | (refine wpPlanA_soft _ ?_ rfl (by rfl) ?_ ?_; rotate_left; (intro wq hq hcq; go_simp; first | exact rfl | exact ⟨rfl, rfl⟩); simp only [Act.put, List.setIfInBounds_toArray, List.set_cons_zero, List.set_cons_succ]))
    clear HG1
    clear hps1
    clear hmu
    clear qhT0_0 qhT0_1 qhT0_2 qhT1_0 qhT1_1 qhT1_2 qhT1_3
    refine wpPlanA_nil (fun w14 hS => ?_)
    clear hC zhT0 zhT1
    have hB14 := hB13.call hS rfl
    replace hT0 := blkb hT0 hS
    replace hT1 := blkb hT1 hS
    replace H := H.below hS
    replace HP := HP.below hS
    replace HD := HD.below hS
    replace hst := hst.below hS
    replace hbb := hbb.call hS rfl
    replace hbr := hbr.call hS rfl
    replace hown := hown.below hS
    replace htv := htv.below hS
    replace hout := hout.below hS
    clear hS hB13
    have qhT0_0 : w14.cell? ⟨w.heap.size, 0, none⟩ = some (.int .i64 c) := cell_at hT0 rfl
    have qhT0_1 : w14.cell? ⟨w.heap.size, 1, none⟩ = some (.int .i64 r) := cell_at hT0 rfl
    have qhT0_2 : w14.cell? ⟨w.heap.size, 2, none⟩ = some (.slice A n cap) := cell_at hT0 rfl
    have qhT1_0 : w14.cell? ⟨w.heap.size + 1, 0, none⟩ = some (.int .i64 un) := cell_at hT1 rfl
    have qhT1_1 : w14.cell? ⟨w.heap.size + 1, 1, none⟩ = some (.int .i64 (ln : Nat)) := cell_at hT1 rfl
    have qhT1_2 : w14.cell? ⟨w.heap.size + 1, 2, none⟩ = some (.int .i64 most) := cell_at hT1 rfl
    have qhT1_3 : w14.cell? ⟨w.heap.size + 1, 3, none⟩ = some (.slice P m capp) := cell_at hT1 rfl
    have hmm : ((m : Int) != (m : Int)) = false := by simp
    go_wp2_with fail
    have htl : (trcs c l un ln most (Im.unit n k) ps).length = m := by simp [trcs, HPL.out]
    have HTL := Lib.hid htl
    clear htl
    have HGO2 := Lib.hid hgo2
    clear hgo2
    go_loopw [108] (fun i wr => ∃ j : Nat, j ≤ m ∧ i = .int .i64 j ∧ Below w14.heap.size w14 wr) (fun i _ => m - (intOf i).toNat)
    case atStart => exact ⟨0, Nat.zero_le _, rfl, Below.refl _ _⟩
    case round =>
      obtain ⟨j, hj, rfl, hbr2⟩ := hrel
      obtain ⟨w15, hww⟩ : ∃ W, W = wr := ⟨_, rfl⟩
      subst hww
      have hB15 := hB14.call hbr2 rfl
      replace hT0 := blkb hT0 hbr2
      replace hT1 := blkb hT1 hbr2
      replace H := H.below hbr2
      replace HP := HP.below hbr2
      replace HD := HD.below hbr2
      replace hst := hst.below hbr2
      replace hbb := hbb.call hbr2 rfl
      replace hbr := hbr.call hbr2 rfl
      replace hown := hown.below hbr2
      replace htv := htv.below hbr2
      replace hout := hout.below hbr2
      clear hB14
      have qhT0_0 : w15.cell? ⟨w.heap.size, 0, none⟩ = some (.int .i64 c) := cell_at hT0 rfl
      have qhT0_1 : w15.cell? ⟨w.heap.size, 1, none⟩ = some (.int .i64 r) := cell_at hT0 rfl
      have qhT0_2 : w15.cell? ⟨w.heap.size, 2, none⟩ = some (.slice A n cap) := cell_at hT0 rfl
      have qhT1_0 : w15.cell? ⟨w.heap.size + 1, 0, none⟩ = some (.int .i64 un) := cell_at hT1 rfl
      have qhT1_1 : w15.cell? ⟨w.heap.size + 1, 1, none⟩ = some (.int .i64 (ln : Nat)) := cell_at hT1 rfl
      have qhT1_2 : w15.cell? ⟨w.heap.size + 1, 2, none⟩ = some (.int .i64 most) := cell_at hT1 rfl
      have qhT1_3 : w15.cell? ⟨w.heap.size + 1, 3, none⟩ = some (.slice P m capp) := cell_at hT1 rfl
      have hwj : IntKind.i64.wrap ((j : Int) + 1) = ((j + 1 : Nat) : Int) := by rw [wrapI (by omega)]; simp
      by_cases hlt2 : j < m
      rotate_left
      ·
          obtain rfl : m = j := by omega
          have hown' : w15.ownsRow w5.heap.size 36 1 u9 k vs := hown
          have hszn : w5.heap.size ≤ w15.heap.size := hbr.size
          obtain ⟨i1, hi, hz0, hz1, hz2⟩ := info_parts info36
          have HTV := Lib.hid htv
          have HOUT := Lib.hid hout
          have HBR := Lib.hid hbr
          clear htv hout hbr hbr2
          go_wp2_with (at_builtin; refine wpList_append_own _ rfl _ _ 52 rfl w5.heap.size 36 i1 (.slice none 0 0) 1 24 Tryd.underlying52 hi hz0 hz1 hz2 rfl (by decide) _ _ _ rfl (hown'.alloc _) ⟨w15.heap.size, 0, none⟩ 1 1 [.slice (some ⟨got, 0, none⟩) m m] rfl rfl (news_one _ _ (by simp)) (fun x hx => by rw [List.mem_singleton.1 hx]; rfl) (by unfold maxLen; omega) (by omega) (by simp; omega) ?_)
          intro x' wz hown3 hg3 _
          have hal : Below w15.heap.size w15 (w15.alloc (Obj.cells #[.slice (some ⟨got, 0, none⟩) m m] 36)) := (Below.refl _ _).alloc (Nat.le_refl _) _
          have HB3 : Hid (Below w5.heap.size w5 wz) := Lib.hid ((HBR.out.alloc hszn _).grown hg3 (by simp; omega) (fun g hg => (hown'.lt g hg).1))
          have HTV3 : Hid (TV wz w5.heap.size m (fun j => trcs c l un ln most (Im.unit n j) ps) (vs ++ [.slice (some ⟨got, 0, none⟩) m m]) (k + 1)) := Lib.hid ((HTV.out.below hal).push (hown'.alloc _) hg3 (Nat.le_trans HSZM.out HGO2.out) ((HOUT.out.lower HSZM.out).below hal))
          have HO : Hid (OwnT wz w5.heap.size x' (k + 1) (vs ++ [.slice (some ⟨got, 0, none⟩) m m])) := Lib.hid hown3
          clear hown3 hg3 hal hown' hown hszn hi hz0 hz1 hz2
          go_wp2
          go_roundw
          case rel => exact ⟨k + 1, vs ++ [.slice (some ⟨got, 0, none⟩) m m], by omega, by go_num, HO.out, HTV3, HB3.out⟩
          case measure => simp [intOf]; omega
      have hjm2 : (j : Int) < (m : Int) := by omega
      have hj02 : (0 : Int) ≤ (j : Int) := by omega
      obtain ⟨pb, poff, p, rfl, hpx, hpb, hp0, hp1, hp2⟩ := HP.at hlt2
      obtain ⟨gb', go', x, xa, xc, he, hx, hgl, hxc, _⟩ := (hout.rd HTL.out).at hlt2
      cases he
      rw [Nat.zero_add] at hxc
      have hxe : x = trc c l un ln most (Im.unit n k) p := by rw [trcs_get hpx] at hx; exact (Option.some.inj hx).symm
      clear hx hpx
      obtain ⟨p0, p1, ph⟩ := p
      dsimp only at hp0 hp1 hp2
      have z0 : w.heap.size < w15.heap.size := (Array.getElem?_eq_some_iff.1 hT0).1
      have z1 : w.heap.size + 1 < w15.heap.size := (Array.getElem?_eq_some_iff.1 hT1).1
      go_wp2_with fail
      obtain ⟨w16, hwn⟩ : ∃ V, V = w15.alloc (Obj.cells #[.int .i64 p0, .int .i64 p1, .bool ph] 50) := ⟨_, rfl⟩
      have hbn0 : Below w15.heap.size w15 w16 := by rw [hwn]; exact (Below.refl _ _).alloc (Nat.le_refl _) _
      obtain ⟨bkp, hbkp⟩ : ∃ b, b = w15.heap.size := ⟨_, rfl⟩
      have kp : w16.heap[bkp]? = some (.cells #[.int .i64 p0, .int .i64 p1, .bool ph] 50 (0, 0)) := by rw [hwn]; exact heap_new hbkp
      have hxc2 : w16.cell? ⟨got, j, none⟩ = some (.slice xa x.length xc) := (hbn0.cell (p := ⟨got, j, none⟩) hgl).trans hxc
      have hgl2 : got < w16.heap.size := Nat.lt_of_lt_of_le hgl hbn0.size
      rw [← hbkp, ← hwn]
      clear hwn hbkp hp0 hp1 hp2 z0 z1 hxc hgl
      clear qhT0_0 qhT0_1 qhT0_2 qhT1_0 qhT1_1 qhT1_2 qhT1_3
      have hS := hbn0
      have hB16 := hB15.call hS rfl
      replace hT0 := blkb hT0 hS
      replace hT1 := blkb hT1 hS
      replace H := H.below hS
      replace HP := HP.below hS
      replace HD := HD.below hS
      replace hst := hst.below hS
      replace hbb := hbb.call hS rfl
      replace hbr := hbr.call hS rfl
      replace hown := hown.below hS
      replace htv := htv.below hS
      replace hout := hout.below hS
      replace hbr2 := hbr2.call hS rfl
      clear hS hB15
      have qhT0_0 : w16.cell? ⟨w.heap.size, 0, none⟩ = some (.int .i64 c) := cell_at hT0 rfl
      have qhT0_1 : w16.cell? ⟨w.heap.size, 1, none⟩ = some (.int .i64 r) := cell_at hT0 rfl
      have qhT0_2 : w16.cell? ⟨w.heap.size, 2, none⟩ = some (.slice A n cap) := cell_at hT0 rfl
      have qhT1_0 : w16.cell? ⟨w.heap.size + 1, 0, none⟩ = some (.int .i64 un) := cell_at hT1 rfl
      have qhT1_1 : w16.cell? ⟨w.heap.size + 1, 1, none⟩ = some (.int .i64 (ln : Nat)) := cell_at hT1 rfl
      have qhT1_2 : w16.cell? ⟨w.heap.size + 1, 2, none⟩ = some (.int .i64 most) := cell_at hT1 rfl
      have qhT1_3 : w16.cell? ⟨w.heap.size + 1, 3, none⟩ = some (.slice (some ⟨pb, poff, none⟩) m capp) := cell_at hT1 rfl
      clear hbn0
      cases ph
      ·
          have qkp_0 : w16.cell? ⟨bkp, 0, none⟩ = some (.int .i64 p0) := cell_at kp rfl
          have qkp_1 : w16.cell? ⟨bkp, 1, none⟩ = some (.int .i64 p1) := cell_at kp rfl
          have qkp_2 : w16.cell? ⟨bkp, 2, none⟩ = some (.bool false) := cell_at kp rfl
          have hxl : x.length = ln := by rw [hxe]; exact Im.trace_len _ _ _
          rw [hxl] at hxc2
          have hll : ((ln : Int) != (ln : Int)) = false := by simp
          clear hxl hxe
          refine wp_region_plan [(0, true), (1, true), (2, true), (3, true), (4, true), (5, true), (6, true), (7, true), (8, true), (9, true), (10, true), (11, true), (12, true), (13, true), (14, true), (15, true), (16, true), (17, true), (18, true), (19, true), (20, true), (21, true), (22, true), (23, true), (24, true)] w16.heap.size (by kernel_rfl) (by kernel_rfl) (Nat.le_refl _) (fun _ _ d _ _ h => by cases d <;> exact h) ?_
          have hC : Below w16.heap.size w16 w16 := Below.refl _ _
          have zhT0 : w.heap.size < w16.heap.size := (Array.getElem?_eq_some_iff.1 hT0).1
          have zhT1 : w.heap.size + 1 < w16.heap.size := (Array.getElem?_eq_some_iff.1 hT1).1
          have zkp : bkp < w16.heap.size := (Array.getElem?_eq_some_iff.1 kp).1
          repeat (first | (refine wpPlanA_skip _ rfl (by rfl) ?_; simp only [Act.put, List.setIfInBounds_toArray, List.set_cons_zero, List.set_cons_succ]) | (refine wpPlanA_soft _ ?_ rfl (by rfl) ?_ ?_; rotate_left; (intro wq hq hcq; go_simp; first | exact rfl | exact ⟨rfl, rfl⟩); simp only [Act.put, List.setIfInBounds_toArray, List.set_cons_zero, List.set_cons_succ]))
          clear hxc2 hgl2
          clear qhT0_0 qhT0_1 qhT0_2 qhT1_0 qhT1_1 qhT1_2 qhT1_3 qkp_0 qkp_1 qkp_2
          refine wpPlanA_nil (fun w17 hS => ?_)
          clear hC zhT0 zhT1 zkp
          have hB17 := hB16.call hS rfl
          replace hT0 := blkb hT0 hS
          replace hT1 := blkb hT1 hS
          replace H := H.below hS
          replace HP := HP.below hS
          replace HD := HD.below hS
          replace hst := hst.below hS
          replace hbb := hbb.call hS rfl
          replace hbr := hbr.call hS rfl
          replace hown := hown.below hS
          replace htv := htv.below hS
          replace hout := hout.below hS
          replace hbr2 := hbr2.call hS rfl
          replace kp := blkb kp hS
          clear hS hB16
          have qhT0_0 : w17.cell? ⟨w.heap.size, 0, none⟩ = some (.int .i64 c) := cell_at hT0 rfl
          have qhT0_1 : w17.cell? ⟨w.heap.size, 1, none⟩ = some (.int .i64 r) := cell_at hT0 rfl
          have qhT0_2 : w17.cell? ⟨w.heap.size, 2, none⟩ = some (.slice A n cap) := cell_at hT0 rfl
          have qhT1_0 : w17.cell? ⟨w.heap.size + 1, 0, none⟩ = some (.int .i64 un) := cell_at hT1 rfl
          have qhT1_1 : w17.cell? ⟨w.heap.size + 1, 1, none⟩ = some (.int .i64 (ln : Nat)) := cell_at hT1 rfl
          have qhT1_2 : w17.cell? ⟨w.heap.size + 1, 2, none⟩ = some (.int .i64 most) := cell_at hT1 rfl
          have qhT1_3 : w17.cell? ⟨w.heap.size + 1, 3, none⟩ = some (.slice (some ⟨pb, poff, none⟩) m capp) := cell_at hT1 rfl
          have qkp_0 : w17.cell? ⟨bkp, 0, none⟩ = some (.int .i64 p0) := cell_at kp rfl
          have qkp_1 : w17.cell? ⟨bkp, 1, none⟩ = some (.int .i64 p1) := cell_at kp rfl
          have qkp_2 : w17.cell? ⟨bkp, 2, none⟩ = some (.bool false) := cell_at kp rfl
          have HN := Lib.hid hbr2
          clear hbr2
          go_wp2
          go_roundw
          case rel => exact ⟨j + 1, by omega, rfl, HN.out⟩
          case measure => simp [intOf]; omega
      ·
          have qkp_0 : w16.cell? ⟨bkp, 0, none⟩ = some (.int .i64 p0) := cell_at kp rfl
          have qkp_1 : w16.cell? ⟨bkp, 1, none⟩ = some (.int .i64 p1) := cell_at kp rfl
          have qkp_2 : w16.cell? ⟨bkp, 2, none⟩ = some (.bool true) := cell_at kp rfl
          have hxl : x.length = 0 := by rw [hxe]; rfl
          rw [hxl] at hxc2
          clear hxl hxe
          refine wp_region_plan [(0, true), (1, true), (2, true), (3, true), (4, true), (5, true), (6, true), (7, true), (8, true), (9, true), (10, true), (11, true), (12, true), (13, true), (14, true), (15, true), (16, true), (17, true), (18, true), (19, true), (20, true), (21, true), (22, true), (23, true), (24, true)] w16.heap.size (by kernel_rfl) (by kernel_rfl) (Nat.le_refl _) (fun _ _ d _ _ h => by cases d <;> exact h) ?_
          have hC : Below w16.heap.size w16 w16 := Below.refl _ _
          have zhT0 : w.heap.size < w16.heap.size := (Array.getElem?_eq_some_iff.1 hT0).1
          have zhT1 : w.heap.size + 1 < w16.heap.size := (Array.getElem?_eq_some_iff.1 hT1).1
          have zkp : bkp < w16.heap.size := (Array.getElem?_eq_some_iff.1 kp).1
          repeat (first | (refine wpPlanA_skip _ rfl (by rfl) ?_; simp only [Act.put, List.setIfInBounds_toArray, List.set_cons_zero, List.set_cons_succ]) | (refine wpPlanA_soft _ ?_ rfl (by rfl) ?_ ?_; rotate_left; (intro wq hq hcq; go_simp; first | exact rfl | exact ⟨rfl, rfl⟩); simp only [Act.put, List.setIfInBounds_toArray, List.set_cons_zero, List.set_cons_succ]))
          clear hxc2 hgl2
          clear qhT0_0 qhT0_1 qhT0_2 qhT1_0 qhT1_1 qhT1_2 qhT1_3 qkp_0 qkp_1 qkp_2
          refine wpPlanA_nil (fun w17 hS => ?_)
          clear hC zhT0 zhT1 zkp
          have hB17 := hB16.call hS rfl
          replace hT0 := blkb hT0 hS
          replace hT1 := blkb hT1 hS
          replace H := H.below hS
          replace HP := HP.below hS
          replace HD := HD.below hS
          replace hst := hst.below hS
          replace hbb := hbb.call hS rfl
          replace hbr := hbr.call hS rfl
          replace hown := hown.below hS
          replace htv := htv.below hS
          replace hout := hout.below hS
          replace hbr2 := hbr2.call hS rfl
          replace kp := blkb kp hS
          clear hS hB16
          have qhT0_0 : w17.cell? ⟨w.heap.size, 0, none⟩ = some (.int .i64 c) := cell_at hT0 rfl
          have qhT0_1 : w17.cell? ⟨w.heap.size, 1, none⟩ = some (.int .i64 r) := cell_at hT0 rfl
          have qhT0_2 : w17.cell? ⟨w.heap.size, 2, none⟩ = some (.slice A n cap) := cell_at hT0 rfl
          have qhT1_0 : w17.cell? ⟨w.heap.size + 1, 0, none⟩ = some (.int .i64 un) := cell_at hT1 rfl
          have qhT1_1 : w17.cell? ⟨w.heap.size + 1, 1, none⟩ = some (.int .i64 (ln : Nat)) := cell_at hT1 rfl
          have qhT1_2 : w17.cell? ⟨w.heap.size + 1, 2, none⟩ = some (.int .i64 most) := cell_at hT1 rfl
          have qhT1_3 : w17.cell? ⟨w.heap.size + 1, 3, none⟩ = some (.slice (some ⟨pb, poff, none⟩) m capp) := cell_at hT1 rfl
          have qkp_0 : w17.cell? ⟨bkp, 0, none⟩ = some (.int .i64 p0) := cell_at kp rfl
          have qkp_1 : w17.cell? ⟨bkp, 1, none⟩ = some (.int .i64 p1) := cell_at kp rfl
          have qkp_2 : w17.cell? ⟨bkp, 2, none⟩ = some (.bool true) := cell_at kp rfl
          have HN := Lib.hid hbr2
          clear hbr2
          go_wp2
          go_roundw
          case rel => exact ⟨j + 1, by omega, rfl, HN.out⟩
          case measure => simp [intOf]; omega

end Go.Proofs.YtdimmlljjmmdbaaDoor
/- From the data of a survey and of traces to plain lists. -/
namespace Go.Proofs.YtdimmlljjmmdbaaDoor
open Go.ChangeShapes Go.WideShapes Go.ChangeAt Go.RowKit
set_option maxHeartbeats 1000000
set_option maxRecDepth 100000
theorem LeafAll.boo {H : Type} {enc : TypeId × Value → H} {w : World} {base : Nat} {spare : Nat → Bool} {held : Bool} {t : TypeId} {ts : List TypeId} {cs : List Value} (ht : Tryd.prog.underlying t = some .bool) (h : LeafAll enc Tryd.prog w base spare held (t :: ts) cs) :
    ∃ b r, cs = .bool b :: r ∧ LeafAll enc Tryd.prog w base spare held ts r := by
  obtain ⟨c, r, rfl, ⟨n, y, hy⟩, h2⟩ := h.head
  obtain ⟨b, hb, _⟩ := DataW.trod_bool ht hy
  cases hb
  exact ⟨b, r, rfl, h2⟩
section
variable {H : Type} {enc : TypeId × Value → H} {W : World} {base : Nat} {v : Value} {d : DataW H} {p : List MemPlace}
theorem slPr {n : Nat} {y : DataW H × List MemPlace} (h : DataW.trod enc Tryd.prog W 0 (fun _ => true) true n 43 [v] = some y) : ∃ A cap l, v = .slice A (List.length l) cap ∧ RdP W A l.length l := by
  have hα : ∀ cs, LeafAll enc Tryd.prog W 0 (fun _ => true) true [3, 3, 4] cs → ∃ x : Pr, cs = Pr.enc x ∧ True := by
    intro cs hc0
    obtain ⟨x0, r0, rfl, _, hc1⟩ := hc0.int Tryd.underlying3
    obtain ⟨x1, r1, rfl, _, hc2⟩ := hc1.int Tryd.underlying3
    obtain ⟨x2, r2, rfl, hc3⟩ := LeafAll.boo Tryd.underlying4 hc2
    obtain rfl := hc3.nil
    exact ⟨⟨x0, x1, x2⟩, rfl, trivial⟩
  obtain ⟨A, cap, l, h1, h2, _⟩ := rdl_open (enc' := Pr.enc) (Q := fun _ => True) (ts := [3, 3, 4]) (size := 3) (n := 8) Tryd.underlying43 (by kernel_rfl) (by kernel_rfl) rfl (by decide) hα h
  exact ⟨A, cap, l, h1, h2⟩
theorem open_surv (hv : Value.okWide Tryd.prog W .any base 45 v) (h : DataW.Trod enc Tryd.prog W 0 (fun _ => true) true 45 v d p) : ∃ un len most P capp ps, v = .agg #[.int .i64 un, .int .i64 len, .int .i64 most, .slice P (List.length ps) capp] ∧ RdP W P ps.length ps := by
  obtain ⟨cs, rfl, hc0⟩ := leaf_arg (ts := [3, 3, 3, 43]) Tryd.underlying45 hv h (by kernel_rfl)
  obtain ⟨x0, r0, rfl, _, hc1⟩ := hc0.int Tryd.underlying3
  obtain ⟨x1, r1, rfl, _, hc2⟩ := hc1.int Tryd.underlying3
  obtain ⟨x2, r2, rfl, _, hc3⟩ := hc2.int Tryd.underlying3
  obtain ⟨x3, r3, rfl, ⟨n, y, h3⟩, hc4⟩ := hc3.head
  obtain rfl := hc4.nil
  obtain ⟨A, cap, l, rfl, hr⟩ := slPr h3
  exact ⟨x0, x1, x2, A, cap, l, rfl, hr⟩
/-- a slice: where it lies, its room, and what it holds -/
def sl3 (x : Option Addr × Nat × List Int) : List Value := [.slice x.1 x.2.2.length x.2.1]
theorem flat_sl3 : ∀ l : List (Option Addr × Nat × List Int), (l.flatMap sl3).length = l.length
  | [] => rfl
  | x :: l => by simp [sl3, flat_sl3 l]
theorem open_data (hv : Value.okWide Tryd.prog W .any base 36 v) (h : DataW.Trod enc Tryd.prog W 0 (fun _ => true) true 36 v d p) : ∃ D capd dl, v = .slice D (List.length dl) capd ∧ RdD W D dl.length dl ∧ dl.length ≤ 9223372036854775807 := by
  obtain ⟨n, y, h1⟩ := cell_arg Tryd.underlying36 hv h
  have hα : ∀ cs, LeafAll enc Tryd.prog W 0 (fun _ => true) true [22] cs → ∃ x : Option Addr × Nat × List Int, cs = sl3 x ∧ RdI W x.1 x.2.2.length x.2.2 := by
    intro cs hc0
    obtain ⟨x0, r0, rfl, ⟨n, y, h3⟩, hc1⟩ := hc0.head
    obtain rfl := hc1.nil
    obtain ⟨A, cap, l, rfl, hr⟩ := sl22 h3
    exact ⟨⟨A, cap, l⟩, rfl, hr⟩
  obtain ⟨A, cap, l, h1, h2, _, h3, h4, hq⟩ := rdl_open (enc' := sl3) (Q := fun x => RdI W x.1 x.2.2.length x.2.2) (ts := [22]) (size := 1) (n := 8) Tryd.underlying36 (by kernel_rfl) (by kernel_rfl) rfl (by decide) hα h1
  refine ⟨A, cap, l.map (·.2.2), by rw [List.length_map]; exact h1, ⟨l.flatMap sl3, by rw [List.length_map]; exact h2, rfl, fun k x hx => ?_⟩, by rw [List.length_map]; unfold maxLen at h4; omega⟩
  rw [List.getElem?_map] at hx
  cases hz : l[k]? with
  | none => rw [hz] at hx; cases hx
  | some z =>
    rw [hz] at hx
    have hxz : z.2.2 = x := by simpa using hx
    subst hxz
    refine ⟨z.1, z.2.1, ?_, hq z (List.mem_of_getElem? hz)⟩
    have := flat_get (size := 1) (enc := sl3) (fun _ => rfl) l k 0 z hz (by decide)
    simpa [sl3] using this
end
end Go.Proofs.YtdimmlljjmmdbaaDoor
