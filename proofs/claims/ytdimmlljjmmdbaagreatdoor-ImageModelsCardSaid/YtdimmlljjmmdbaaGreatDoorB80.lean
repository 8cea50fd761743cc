/- A part of the proofs about chapter 7 (image): contracts of functions and plain laws (VC, V79, V80). -/
import Derived.Test.YtdimmlljjmmdbaaGreatDoorA11
import Derived.Test.YtdimmlljjmmdbaaGreatDoorA06
import Derived.Test.YtdimmlljjmmdbaaGreatDoorA07
import Derived.Test.YtdimmlljjmmdbaaGreatDoorB74
import Derived.Test.YtdimmlljjmmdbaaGreatDoorA05
import Derived.Test.YtdimmlljjmmdbaaGreatDoorB14
import Derived.Test.YtdimmlljjmmdbaaGreatDoorA04
set_option linter.all false
namespace Go.Proofs.YtdimmlljjmmdbaaGreatDoor
open Go.RowKit Go.Shelf
set_option maxHeartbeats 8000000
set_option maxRecDepth 100000
theorem c33d (D : Option Addr) (m capd : Nat) (d : List (List Int)) (w : World) (hm : m ≤ 5) (hsh : ∀ x, x ∈ d → x.length ≤ 45) (HD : RdD w D m d) :
  Calls Tryz.prog 33 #[.slice D m capd] w fun en w' => ∃ B cb, en = .returned (.slice B m cb) ∧ RdD w' B m d ∧ Below w.heap.size w w' :=
 c33 D m capd d w (by omega) (fun x hx => Nat.le_trans (hsh x hx) (by decide)) HD
theorem c22d (A : Option Addr) (n cap : Nat) (l : List Int) (w : World) (hn : n ≤ 1000000) (H : RdI w A n l) :
  Calls Tryz.prog 22 #[.slice A n cap] w fun en w' => ∃ B cb, en = .returned (.slice B n cb) ∧ RdI w' B n l ∧ Below w.heap.size w w' := by
 refine (c22 A n cap l w hn H).mono ?_
 rintro e w' ⟨v, rfl, ho, hb⟩
 obtain ⟨B, cb, rfl, hr, _⟩ := own_form ho
 exact ⟨B, cb, rfl, hr, hb⟩
theorem c20d (c r : Int) (A : Option Addr) (n cap : Nat) (l : List Int) (w : World) (hl : n ≤ 1000000) (H : RdI w A n l) :
  Calls Tryz.prog 20 #[.agg #[.int .i64 c, .int .i64 r, .slice A n cap]] w fun en w' => ∃ B cb, en = .returned (.agg #[.int .i64 c, .int .i64 r, .slice B n cb]) ∧ RdI w' B n l ∧ Below w.heap.size w w' := by
 refine (c20 c r A n cap l w hl H).mono ?_
 rintro e w' ⟨B, cb, h1, h2, _, _, h3⟩
 exact ⟨B, cb, h1, h2, h3⟩
theorem c21d (un len most : Int) (P : Option Addr) (np capp : Nat) (ps : List Pr) (w : World) (hp : np ≤ 1000000) (HP : RdP w P np ps) :
  Calls Tryz.prog 21 #[.agg #[.int .i64 un, .int .i64 len, .int .i64 most, .slice P np capp]] w fun en w' => ∃ P' cap', en = .returned (.agg #[.int .i64 un, .int .i64 len, .int .i64 most, .slice P' np cap']) ∧ (RdP w' P' np ps ∧ np ≤ cap') ∧ Below w.heap.size w w' := by
 refine (c21 un len most P np capp ps w hp HP).mono ?_
 rintro e w' ⟨B, cb, h1, h2, h3, h4⟩
 exact ⟨B, cb, h1, ⟨h2, h3⟩, h4⟩

theorem c30q {A B : Option Addr} {n cap cap2 : Nat} {l : List Int} {w : World} (hn : n ≤ 1000000) (H : RdI w A n l) (G : RdI w B n l) :
  Calls Tryz.prog 30 #[.slice A n cap, .slice B n cap2] w fun en w' => en = .returned (.bool true) ∧ Below w.heap.size w w' := by
 refine (c30 A B n n cap cap2 l l w hn hn H G).mono fun e w' ⟨h1, h2⟩ => ⟨?_, h2⟩
 rw [h1]; simp
theorem c22o (A : Option Addr) (n cap : Nat) (l : List Int) (w : World) (hn0 : 0 < n) (hn : n ≤ 1000000) (H : RdI w A n l) :
  Calls Tryz.prog 22 #[.slice A n cap] w fun en w' => ∃ g gc, en = .returned (.slice (some ⟨g, 0, none⟩) n gc) ∧ RowI w' w.heap.size g gc n l ∧ Below w.heap.size w w' := by
 refine (c22 A n cap l w hn H).mono ?_
 rintro e w' ⟨v, rfl, ho, hb⟩
 obtain ⟨g, gc, rfl, hr⟩ := RowI.of_own hn0 ho
 exact ⟨g, gc, rfl, hr, hb⟩
theorem bl2 (w : World) (o : Obj) : Below w.heap.size w (w.alloc o) := (Below.refl _ _).alloc (Nat.le_refl _) _
theorem rd2z (w : World) (a b : Int) : RdI (w.alloc (Obj.cells #[.int .i64 a, .int .i64 b] 3)) (some ⟨w.heap.size, 0, none⟩) 2 [a, b] := RdS.of_new (cs := encI [a, b]) rfl rfl
theorem rd_none (w : World) : RdI w none 0 [] := ⟨rfl, fun h => absurd h (Nat.lt_irrefl 0)⟩
theorem rdD_none (w : World) : RdD w none 0 [] := ⟨[], ⟨rfl, fun h => absurd h (Nat.lt_irrefl 0)⟩, rfl, fun k x hx => by simp at hx⟩
theorem own_rdI {w : World} {B : Nat} {v : Value} {n : Nat} {l : List Int} (h : w.ownsRow B 3 1 v n (encI l)) : ∃ A cap, v = .slice A n cap ∧ RdI w A n l := by
 obtain ⟨A, cap, rfl, hr, _⟩ := own_form h
 exact ⟨A, cap, rfl, hr⟩
end Go.Proofs.YtdimmlljjmmdbaaGreatDoor
namespace Go.Proofs.YtdimmlljjmmdbaaGreatDoor
open Go.RowKit Go.Shelf
set_option maxHeartbeats 8000000
set_option maxRecDepth 100000

theorem c24 (c r : Nat) (A : Option Addr) (n cap : Nat) (l : List Int) (un : Int) (ln : Nat) (most : Int) (P : Option Addr) (np capp : Nat) (ps : List Pr) (M : Option Addr) (capm : Nat) (ms : List Int) (w : World) (g : Im.Gr c r l) (hc : c ≤ 16) (hr : r ≤ 16) (hu : 1 ≤ un ∧ un ≤ 1000) (hln : 1 ≤ ln ∧ ln ≤ 256) (hnp : np ≤ 16) (hcells : ∀ p, p ∈ ps → (0 ≤ p.s ∧ p.s < (n : Int)) ∧ (0 ≤ p.r ∧ p.r < (n : Int))) (hms : ∀ k, k < n → -1000 ≤ Im.at0 ms k ∧ Im.at0 ms k ≤ 1000) (H : RdI w A n l) (HP : RdP w P np ps) (HM : RdI w M n ms) :
  Calls Tryz.prog 24 #[.agg #[.int .i64 c, .int .i64 r, .slice A n cap], .agg #[.int .i64 un, .int .i64 (ln : Nat), .int .i64 most, .slice P np capp], .slice M n capm] w fun en w' => ∃ B cb, en = .returned (.slice B np cb) ∧ RdD w' B np (trcs c l un ln most ms ps) ∧ Below w.heap.size w w' := by
 have HPL := Lib.hid HP.len
 have HLN := Lib.hid H.len
 have HML := Lib.hid HM.len
 have hn0 : 0 < n := by
  have h1 := g.c1; have h2 := g.r1; have h3 := g.len
  have : 1 * 1 ≤ c * r := Nat.mul_le_mul h1 h2
  rw [← HLN.out]; omega
 have hn256 : n ≤ 256 := by
  have h3 := g.len
  have : c * r ≤ 16 * 16 := Nat.mul_le_mul hc hr
  rw [← HLN.out]; omega
 obtain ⟨i0, hi, hz0, hz1, hz2⟩ := info_parts info3
 have hmk1 := fun W => run_make_fill (P := Tryz.prog) 22 3 i0 (.int .i64 0) (fun _ => .int .i64 0) Tryz.underlying22 hi hz0 hz1 rfl ln (by omega) (by rw [hz2]; omega) W
 have HMK1 := Lib.hid hmk1
 clear hi hz0 hz1 hz2 hmk1
 have HMS := Lib.hid hms
 have HCE := Lib.hid hcells
 have HG := Lib.hid g
 clear hms hcells
 obtain ⟨TL, hTL⟩ : ∃ T, T = trcs c l un ln most ms ps := ⟨_, rfl⟩
 rw [← hTL]
 have HTL := Lib.hid hTL
 have HTN : Hid (TL.length = np) := Lib.hid (by rw [hTL]; simp [trcs, HPL.out])
 clear hTL
 obtain ⟨w0, hW⟩ : ∃ W, W = (w.alloc (Obj.cells #[.int .i64 c, .int .i64 r, .slice A n cap] 24)).alloc (Obj.cells #[.int .i64 un, .int .i64 (ln : Nat), .int .i64 most, .slice P np capp] 27) := ⟨_, rfl⟩
 have hT0 : w0.heap[w.heap.size]? = some (.cells #[.int .i64 c, .int .i64 r, .slice A n cap] 24 (0, 0)) := by rw [hW]; exact heap_old (by simp <;> omega) (heap_new (by simp))
 have hT1 : w0.heap[w.heap.size + 1]? = some (.cells #[.int .i64 un, .int .i64 (ln : Nat), .int .i64 most, .slice P np capp] 27 (0, 0)) := by rw [hW]; exact heap_new (by simp)
 have hB0 : Below w.heap.size w w0 := by rw [hW]; exact (((Below.refl _ _).alloc (by first | omega | (simp <;> omega)) _).alloc (by first | omega | (simp <;> omega)) _)
 replace H := H.below hB0
 replace HP := HP.below hB0
 replace HM := HM.below hB0
 go_enter Tryz.func24, Tryz.ntmps24
 go_wp2_with fail
 rw [← hW]
 clear hW
 have qhT0_0 : w0.cell? ⟨w.heap.size, 0, none⟩ = some (.int .i64 c) := cell_at hT0 rfl
 have qhT0_1 : w0.cell? ⟨w.heap.size, 1, none⟩ = some (.int .i64 r) := cell_at hT0 rfl
 have qhT0_2 : w0.cell? ⟨w.heap.size, 2, none⟩ = some (.slice A n cap) := cell_at hT0 rfl
 have qhT1_0 : w0.cell? ⟨w.heap.size + 1, 0, none⟩ = some (.int .i64 un) := cell_at hT1 rfl
 have qhT1_1 : w0.cell? ⟨w.heap.size + 1, 1, none⟩ = some (.int .i64 (ln : Nat)) := cell_at hT1 rfl
 have qhT1_2 : w0.cell? ⟨w.heap.size + 1, 2, none⟩ = some (.int .i64 most) := cell_at hT1 rfl
 have qhT1_3 : w0.cell? ⟨w.heap.size + 1, 3, none⟩ = some (.slice P np capp) := cell_at hT1 rfl
 have hst0 : Hid (VR w0 w0.heap.size TL [] 0) := Lib.hid ⟨rfl, fun j _ h => absurd h (Nat.not_lt_zero j)⟩
 go_wp2_with fail
 go_loopw [7, 8] (fun x i wr => ∃ (k : Nat) (us : List Value), k ≤ np ∧ i = .int .i64 k ∧ OwnD wr w0.heap.size x k us ∧ Hid (VR wr w0.heap.size TL us k) ∧ Below w0.heap.size w0 wr) (fun _ i _ => np - (intOf i).toNat)
 case atStart => exact ⟨0, [], Nat.zero_le _, rfl, World.ownsRow_nil _ _ _ _, hst0, Below.refl _ _⟩
 case round =>
  clear hst0
  obtain ⟨k, us, hk, rfl, hown, HVR, hbr⟩ := hrel
  have HB0 := Lib.hid hB0
  obtain ⟨w1, hww⟩ : ∃ W, W = wr := ⟨_, rfl⟩
  subst hww
  have hB1 := hB0.call hbr rfl
  replace hT0 := blkb hT0 hbr
  replace hT1 := blkb hT1 hbr
  replace H := H.below hbr
  replace HP := HP.below hbr
  replace HM := HM.below hbr
  clear hB0
  have qhT0_0 : w1.cell? ⟨w.heap.size, 0, none⟩ = some (.int .i64 c) := cell_at hT0 rfl
  have qhT0_1 : w1.cell? ⟨w.heap.size, 1, none⟩ = some (.int .i64 r) := cell_at hT0 rfl
  have qhT0_2 : w1.cell? ⟨w.heap.size, 2, none⟩ = some (.slice A n cap) := cell_at hT0 rfl
  have qhT1_0 : w1.cell? ⟨w.heap.size + 1, 0, none⟩ = some (.int .i64 un) := cell_at hT1 rfl
  have qhT1_1 : w1.cell? ⟨w.heap.size + 1, 1, none⟩ = some (.int .i64 (ln : Nat)) := cell_at hT1 rfl
  have qhT1_2 : w1.cell? ⟨w.heap.size + 1, 2, none⟩ = some (.int .i64 most) := cell_at hT1 rfl
  have qhT1_3 : w1.cell? ⟨w.heap.size + 1, 3, none⟩ = some (.slice P np capp) := cell_at hT1 rfl
  have HBR := Lib.hid hbr
  have hszk : w0.heap.size ≤ w1.heap.size := hbr.size
  by_cases hlt : k < np
  rotate_left
  ·obtain rfl : np = k := by omega
   obtain ⟨AO, capO, rfl, hrdO⟩ := Sl.of_own hown
   have hdO : Hid (RdD w1 AO np TL) := Lib.hid (by
    have e := HTN.out
    subst e
    exact HVR.out.rd hrdO)
   clear hown HVR hrdO hlt hk
   go_wp2
   go_ret
   exact ⟨AO, capO, rfl, hdO.out, hB1⟩
  obtain ⟨XA, xcap, rfl⟩ := own_slice hown
  have hwk : IntKind.i64.wrap ((k : Int) + 1) = ((k + 1 : Nat) : Int) := by rw [wrapI (by omega)]; simp
  have hkm2 : (k : Int) < (np : Int) := by omega
  have hk02 : (0 : Int) ≤ (k : Int) := by omega
  obtain ⟨pb, poff, p, rfl, hpx, hpb, hp0, hp1, hp2⟩ := HP.at hlt
  have HPX := Lib.hid hpx
  have HTK : Hid (TL[k]? = some (trc c l un ln most ms p)) := Lib.hid (by rw [HTL.out]; unfold trcs; rw [List.getElem?_map, hpx]; rfl)
  have hpc := HCE.out p (List.mem_of_getElem? hpx)
  clear hpx hp0 hp1
  have zp0 := cell_lt hp2
  obtain ⟨p0, p1, ph⟩ := p
  dsimp only at hp2 hpc
  cases ph
  rotate_left
  ·
    obtain ⟨i1, hi, hz0, hz1, hz2⟩ := info_parts infoSl
    have hown' : w1.ownsRow w0.heap.size 22 1 _ k us := hown
    have hszn : w0.heap.size ≤ w1.heap.size := HBR.out.size
    go_wp2_with (at_builtin; refine wpList_append_own _ rfl _ _ 31 rfl w0.heap.size 22 i1 (.slice none 0 0) 1 24 Tryz.underlying31 hi hz0 hz1 hz2 rfl (by decide) _ _ _ rfl (hown'.alloc _) ⟨w1.heap.size, 0, none⟩ 1 1 [.slice none 0 0] rfl rfl (news_one _ _ (by simp)) (fun x hx => by rw [List.mem_singleton.1 hx]; rfl) (by unfold maxLen; omega) (by omega) (by simp; omega) ?_)
    intro x' wz hown3 hg3 _
    have hal : Below w1.heap.size w1 (w1.alloc (Obj.cells #[.slice none 0 0] 22)) := (Below.refl _ _).alloc (Nat.le_refl _) _
    have HB3 : Hid (Below w0.heap.size w0 wz) := Lib.hid ((HBR.out.alloc hszn _).grown hg3 (by simp; omega) (fun g hg => (hown'.lt g hg).1))
    have HVR3 : Hid (VR wz w0.heap.size TL (us ++ [.slice none 0 0]) (k + 1)) := Lib.hid ((HVR.out.below hal).push (hown'.alloc _) hg3 HTK.out (.inl ⟨rfl, rfl⟩))
    have HO : Hid (OwnD wz w0.heap.size x' (k + 1) (us ++ [.slice none 0 0])) := Lib.hid hown3
    clear hown3 hg3 hal hown' hszn hi hz0 hz1 hz2
    go_wp2
    go_roundw
    case rel => exact ⟨k + 1, us ++ [.slice none 0 0], by omega, by go_num, HO.out, HVR3, HB3.out⟩
    case measure => simp [intOf]; omega
  have hmk1 := HMK1.out
  have z0 := cell_lt qhT0_0
  have z1 := cell_lt qhT1_0
  have zpb := hpb
  go_wp2_with fail
  obtain ⟨oI, hoI⟩ : ∃ o, o = (Obj.cells (fillA (.int .i64 0) (fun _ => .int .i64 0) ln 0) 3) := ⟨_, rfl⟩
  obtain ⟨wI, hwI⟩ : ∃ V, V = w1.alloc oI := ⟨_, rfl⟩
  have hbI : Below w1.heap.size w1 wI := by rw [hwI]; exact (Below.refl _ _).alloc (Nat.le_refl _) _
  obtain ⟨gt, hgt⟩ : ∃ b, b = w1.heap.size := ⟨_, rfl⟩
  have hrowI : RowI wI w1.heap.size gt ln ln (Im.trk ln (dlp c l un ln most ⟨p0, p1, false⟩) ms 0) := by
   have h2 : wI.heap[gt]? = some (.cells (fillA (.int .i64 0) (fun _ => .int .i64 0) ln 0) 3 (0, 0)) := by rw [hwI, hoI]; exact heap_new hgt
   refine ⟨_, h2, fillA_size _ _ _ _, Nat.le_refl _, by omega, by rw [Im.trk_len], ?_, by omega⟩
   rw [Im.trk_zero, List.take_of_length_le (by simp [fillA])]
   apply List.ext_getElem?
   intro i
   simp [fillA, encI, List.getElem?_replicate, List.getElem?_range]
   by_cases h : i < ln <;> simp [h]
  have hgtI : gt < wI.heap.size := (hrowI.cell (k := 0) (by omega)).2.2
  rw [← hoI, ← hwI, ← hgt]
  have HGT : Hid (gt = w1.heap.size) := Lib.hid hgt
  clear hmk1 z0 z1 zpb hoI hwI hgt
  obtain ⟨pa, rfl⟩ : ∃ q : Nat, p0 = q := ⟨p0.toNat, by omega⟩
  obtain ⟨pb', rfl⟩ : ∃ q : Nat, p1 = q := ⟨p1.toNat, by omega⟩
  refine (c29o c r A n cap l un ln most (some ⟨pb, poff, none⟩) np capp ps k pa pb' false wI HG.out hc hr hu (by omega) HPX.out hlt (by omega) (by omega) (by omega) (H.below hbI) (HP.below hbI)).mono ?_
  rintro e w20 ⟨gx, gc, rfl, hrx, hb⟩
  have hrow0 : Hid (RowI w20 w1.heap.size gt ln ln (Im.trk ln (dlp c l un ln most ⟨pa, pb', false⟩) ms 0)) := Lib.hid (hrowI.below hb)
  have hgx : gx ≠ gt := by
   obtain ⟨_, _, _, _, _, _, _, h⟩ := hrx
   omega
  have hrx0 := Lib.hid (hrx.lower (Nat.zero_le _))
  have hb20 : Hid (Below w1.heap.size w1 w20) := Lib.hid (hbI.call hb rfl)
  obtain ⟨D, hD⟩ : ∃ D, D = dlp c l un ln most ⟨pa, pb', false⟩ := ⟨_, rfl⟩
  have hD2 : dlL c l un ln most pa pb' false = D := by rw [hD]; rfl
  rw [hD2] at hrx0
  rw [← hD] at hrow0
  have HD := Lib.hid hD
  have HDL : Hid (∀ j, j < n → 0 ≤ Im.at0 D j → Im.at0 D j < (ln : Int)) := Lib.hid (fun j hj h => by rw [hD] at h ⊢; exact dlp_lt (by rw [HLN.out]; exact hj) h)
  have HDN : Hid (D.length = n) := Lib.hid (by rw [hD, dlp_len, HLN.out])
  have HOW := Lib.hid hown
  clear hrowI hgtI hb hbI hrx hD hD2 hown hp2 hpb hpc zp0
  go_wp2_with fail
  go_loopw [11] (fun i wr => ∃ j : Nat, j ≤ n ∧ i = .int .i64 j ∧ Hid (RowI wr w1.heap.size gt ln ln (Im.trk ln D ms j)) ∧ Hid (RowI wr 0 gx gc n D) ∧ Hid (Below w1.heap.size w1 wr)) (fun i _ => n - (intOf i).toNat)
  case atStart => exact ⟨0, Nat.zero_le _, rfl, hrow0, hrx0, hb20⟩
  case round =>
   clear hrow0 hrx0 hb20
   obtain ⟨j, hj, rfl, HRW, HRX, HBJ⟩ := hrel
   have hbj := HBJ.out
   obtain ⟨w2, hww⟩ : ∃ W, W = wr := ⟨_, rfl⟩
   subst hww
   have hB2 := hB1.call hbj rfl
   replace hT0 := blkb hT0 hbj
   replace hT1 := blkb hT1 hbj
   replace H := H.below hbj
   replace HP := HP.below hbj
   replace HM := HM.below hbj
   replace hbr := hbr.call hbj rfl
   clear hB1
   have qhT0_0 : w2.cell? ⟨w.heap.size, 0, none⟩ = some (.int .i64 c) := cell_at hT0 rfl
   have qhT0_1 : w2.cell? ⟨w.heap.size, 1, none⟩ = some (.int .i64 r) := cell_at hT0 rfl
   have qhT0_2 : w2.cell? ⟨w.heap.size, 2, none⟩ = some (.slice A n cap) := cell_at hT0 rfl
   have qhT1_0 : w2.cell? ⟨w.heap.size + 1, 0, none⟩ = some (.int .i64 un) := cell_at hT1 rfl
   have qhT1_1 : w2.cell? ⟨w.heap.size + 1, 1, none⟩ = some (.int .i64 (ln : Nat)) := cell_at hT1 rfl
   have qhT1_2 : w2.cell? ⟨w.heap.size + 1, 2, none⟩ = some (.int .i64 most) := cell_at hT1 rfl
   have qhT1_3 : w2.cell? ⟨w.heap.size + 1, 3, none⟩ = some (.slice (some ⟨pb, poff, none⟩) np capp) := cell_at hT1 rfl
   clear hbj
   have hwj : IntKind.i64.wrap ((j : Int) + 1) = ((j + 1 : Nat) : Int) := by rw [wrapI (by omega)]; simp
   by_cases hlt2 : j < n
   rotate_left
   ·
     obtain rfl : n = j := by omega
     have HRF : Hid (RowI w2 w0.heap.size gt ln ln (trc c l un ln most ms ⟨pa, pb', false⟩)) := Lib.hid (by
      have e1 : Im.trk ln D ms n = trc c l un ln most ms ⟨pa, pb', false⟩ := by rw [HD.out]; exact Im.trk_full (by rw [← HD.out]; exact HDN.out) HML.out
      have h0 := HRW.out
      rw [e1] at h0
      exact h0.lower hszk)
     have HTLN : Hid ((trc c l un ln most ms ⟨pa, pb', false⟩).length = ln) := Lib.hid (by unfold trc; rw [if_neg (by simp)]; exact Im.trace_len _ _ _)
     have HB2 := Lib.hid (HBR.out.trans (HBJ.out.mono hszk))
     have HVR2 := Lib.hid (HVR.out.below HBJ.out)
     obtain ⟨i1, hi, hz0, hz1, hz2⟩ := info_parts infoSl
     have hown' : w2.ownsRow w0.heap.size 22 1 _ k us := own_below HOW.out HBJ.out
     have hszn : w0.heap.size ≤ w2.heap.size := HB2.out.size
     go_wp2_with (at_builtin; refine wpList_append_own _ rfl _ _ 31 rfl w0.heap.size 22 i1 (.slice none 0 0) 1 24 Tryz.underlying31 hi hz0 hz1 hz2 rfl (by decide) _ _ _ rfl (hown'.alloc _) ⟨w2.heap.size, 0, none⟩ 1 1 [.slice (some ⟨gt, 0, none⟩) ln ln] rfl rfl (news_one _ _ (by simp)) (fun x hx => by rw [List.mem_singleton.1 hx]; rfl) (by unfold maxLen; omega) (by omega) (by simp; omega) ?_)
     intro x' wz hown3 hg3 _
     have hal : Below w2.heap.size w2 (w2.alloc (Obj.cells #[.slice (some ⟨gt, 0, none⟩) ln ln] 22)) := (Below.refl _ _).alloc (Nat.le_refl _) _
     have HB3 : Hid (Below w0.heap.size w0 wz) := Lib.hid ((HB2.out.alloc hszn _).grown hg3 (by simp; omega) (fun g hg => (hown'.lt g hg).1))
     have HVR3 : Hid (VR wz w0.heap.size TL (us ++ [.slice (some ⟨gt, 0, none⟩) ln ln]) (k + 1)) := Lib.hid ((HVR2.out.below hal).push (hown'.alloc _) hg3 HTK.out (.inr ⟨gt, ln, by rw [HTLN.out], by rw [HTLN.out]; exact HRF.out.below hal⟩))
     have HO : Hid (OwnD wz w0.heap.size x' (k + 1) (us ++ [.slice (some ⟨gt, 0, none⟩) ln ln])) := Lib.hid hown3
     clear hown3 hg3 hal hown' hszn hi hz0 hz1 hz2
     go_wp2
     go_roundw
     case rel => exact ⟨k + 1, us ++ [.slice (some ⟨gt, 0, none⟩) ln ln], by omega, by go_num, HO.out, HVR3, HB3.out⟩
     case measure => simp [intOf]; omega
   have hjn2 : (j : Int) < (n : Int) := by omega
   have hj02 : (0 : Int) ≤ (j : Int) := by omega
   have hdc := (HRX.out.cell hlt2).1
   have zgx := (HRX.out.cell hlt2).2.2
   have HDJ := Lib.hid (HDL.out j hlt2)
   have HTS : Hid (Im.trk ln D ms (j + 1) = Im.addAt (Im.trk ln D ms j) (Im.at0 D j) (Im.at0 ms j)) := Lib.hid (Im.trk_succ (by rw [HDN.out]; exact hlt2) (by rw [HML.out]; exact hlt2))
   generalize hdj : Im.at0 D j = dj at hdc HDJ HTS
   clear hdj
   by_cases hd0 : 0 ≤ dj
   rotate_left
   ·
     have hdd : decide ((0 : Int) ≤ dj) = false := by simpa using hd0
     have hdd2 : decide (dj < 0) = true := by simp; omega
     have HRW2 : Hid (RowI w2 w1.heap.size gt ln ln (Im.trk ln D ms (j + 1))) := Lib.hid (by
      rw [HTS.out]
      unfold Im.addAt
      rw [if_neg hd0]
      exact HRW.out)
     clear hd0
     go_wp2
     go_roundw
     case rel => exact ⟨j + 1, by omega, by go_num, HRW2, HRX, HBJ⟩
     case measure => simp [intOf]; omega
   have hdl := HDJ.out hd0
   obtain ⟨q, rfl⟩ : ∃ q : Nat, dj = q := ⟨dj.toNat, by omega⟩
   have hq : q < ln := by omega
   have hdd : decide ((0 : Int) ≤ (q : Int)) = true := by simp
   have hql : (q : Int) < (ln : Int) := by omega
   have hq0 : (0 : Int) ≤ (q : Int) := by omega
   obtain ⟨mb, moff, mx, rfl, hmx, hmb, hmc⟩ := HM.at hlt2
   have hmx2 : Im.at0 ms j = mx := by simp [Im.at0, List.getD_eq_getElem?_getD, hmx]
   have hmr := HMS.out j hlt2
   rw [hmx2] at hmr HTS
   have htl := Im.trk_le (len := ln) (ds := D) (ms := ms) (B := 1000) (by omega) (fun k hk => HMS.out k (by rw [← HML.out]; exact hk)) (by rw [HDN.out, HML.out]) j (by rw [HDN.out]; exact hj) q
   have hrc := (HRW.out.cell hq).1
   have hrf := (HRW.out.cell hq).2.1
   have hgtl := (HRW.out.cell hq).2.2
   generalize hyv : Im.at0 (Im.trk ln D ms j) q = yv at hrc htl
   have HYV := Lib.hid hyv
   have hwy : IntKind.i64.wrap (yv + mx) = yv + mx := wrapI (by omega)
   clear hmr htl hmx hmx2 hyv hd0 hdl
   go_wp2
   refine wp_region_splitG 18 (by kernel_rfl) (by kernel_rfl) ?_
   simp only [List.take_succ_cons, List.take_zero, List.drop_succ_cons, List.drop_zero]
   repeat (go_big_quiet_step ((first | fail)))
   refine wpQuiet_nil (gw_out ?_)
   intro wq hbw
   have hrow2 := HRW.out.below hbw
   have hrx2 := HRX.out.below hbw
   have qc := (hrow2.cell hq).1
   have qf := (hrow2.cell hq).2.1
   rw [HYV.out] at qc
   have HRW2 : Hid (RowI (wq.setCell ⟨gt, q, none⟩ (.int .i64 (yv + mx))) w1.heap.size gt ln ln (Im.trk ln D ms (j + 1))) := Lib.hid (by
    rw [HTS.out]
    unfold Im.addAt
    rw [if_pos (Int.natCast_nonneg q), Int.toNat_natCast, HYV.out]
    exact hrow2.set q (yv + mx))
   have HRX2 : Hid (RowI (wq.setCell ⟨gt, q, none⟩ (.int .i64 (yv + mx))) 0 gx gc n D) := Lib.hid (hrx2.far _ hgx)
   have HBQ2 : Hid (Below w1.heap.size w1 (wq.setCell ⟨gt, q, none⟩ (.int .i64 (yv + mx)))) := Lib.hid ((HBJ.out.call hbw rfl).setCell (p := ⟨gt, q, none⟩) (by show _ ≤ gt; rw [HGT.out]; exact Nat.le_refl _) _)
   clear hrow2 hrx2 hrc hrf hdc hmc
   go_wp2
   go_roundw
   case rel => exact ⟨j + 1, by omega, by go_num, HRW2, HRX2, HBQ2⟩
   case measure => simp [intOf]; omega

end Go.Proofs.YtdimmlljjmmdbaaGreatDoor
namespace Go.Proofs.YtdimmlljjmmdbaaGreatDoor
open Go.RowKit Go.Shelf
set_option maxHeartbeats 8000000
set_option maxRecDepth 100000
theorem trc_le {c : Nat} {l : List Int} {un : Int} {ln : Nat} {most : Int} {ms : List Int} {ps : List Pr} {x : List Int} (h : x ∈ trcs c l un ln most ms ps) : x.length ≤ ln := by
 unfold trcs at h
 obtain ⟨p, _, rfl⟩ := List.mem_map.1 h
 unfold trc
 split
 ·simp
 ·rw [Im.trace_len]; exact Nat.le_refl _
/-- the error of a pair's number -/
def pairE (S : Int) (np : Nat) (i : Int) : Int := Mo.first [S, Mo.when (decide (i < 0) || decide ((np : Int) ≤ i)) 10]
theorem pairE_bad {S : Int} {np : Nat} {i : Int} (h : S ≠ 0) : pairE S np i = S := by
 unfold pairE Mo.first; rw [if_pos h]
theorem pairE_out {np : Nat} {i : Int} (h : i < 0 ∨ (np : Int) ≤ i) : pairE 0 np i = 10 := by
 unfold pairE Mo.first Mo.when
 have : (decide (i < 0) || decide ((np : Int) ≤ i)) = true := by simpa using h
 rw [this]; simp [Mo.first]
theorem pairE_in {np : Nat} {i : Int} (h1 : 0 ≤ i) (h2 : i < (np : Int)) : pairE 0 np i = 0 := by
 unfold pairE Mo.first Mo.when
 have : (decide (i < 0) || decide ((np : Int) ≤ i)) = false := by simp; omega
 rw [this]; simp [Mo.first]
theorem pairE_zero {S : Int} {np : Nat} {i : Int} (h : pairE S np i = 0) : S = 0 ∧ 0 ≤ i ∧ i < (np : Int) := by
 by_cases hS : S = 0
 ·subst hS
  refine ⟨rfl, ?_⟩
  by_cases h2 : i < 0 ∨ (np : Int) ≤ i
  ·rw [pairE_out h2] at h; cases h
  ·omega
 ·rw [pairE_bad hS] at h; exact absurd h hS
theorem mdl_calls (c r : Int) (n np mk : Nat) (l : List Int) (un len most : Int) (ps : List Pr) (ms : List Int) (hln : l.length = n) (hpl : ps.length = np) (hml : ms.length = mk) (hn30 : n ≤ 30) (hp17 : np ≤ 17) (hm30 : mk ≤ 30) :
  ∃ (E S : Int) (T : List (List Int)) (tN : Nat) (D : Int → List Int) (dN : Int → Nat) (Ed : Int → Int),
   (E ≠ 0 → tN = 0 ∧ T = []) ∧ (∀ i, Ed i ≠ 0 → dN i = 0 ∧ D i = []) ∧ (∀ i, S ≠ 0 → Ed i = S) ∧ (∀ i, S = 0 → (i < 0 ∨ (np : Int) ≤ i) → Ed i = 10) ∧ (∀ i, S = 0 → 0 ≤ i → i < (np : Int) → Ed i = 0) ∧ tN ≤ 1000000 ∧ (∀ i, dN i ≤ 1000000) ∧
   (∀ (B C M : Option Addr) (cb cc cm : Nat) (W : World), np ≤ cc → RdI W B n l → RdP W C np ps → RdI W M mk ms → Steps W → Calls Tryz.prog 19 #[.agg #[.int .i64 c, .int .i64 r, .slice B n cb], .agg #[.int .i64 un, .int .i64 len, .int .i64 most, .slice C np cc], .slice M mk cm] W fun en w' => ∃ X xc, en = .returned (.tuple #[.slice X tN xc, .int .i64 E]) ∧ RdD w' X tN T ∧ Below W.heap.size W w') ∧
   (∀ (B C M : Option Addr) (cb cc cm : Nat) (W : World), RdI W B n l → RdP W C np ps → RdI W M mk ms → Calls Tryz.prog 23 #[.agg #[.int .i64 c, .int .i64 r, .slice B n cb], .agg #[.int .i64 un, .int .i64 len, .int .i64 most, .slice C np cc], .slice M mk cm] W fun en w' => en = .returned (.int .i64 E) ∧ Below W.heap.size W w') ∧
   (E = 0 → ∀ (B C M : Option Addr) (cb cc cm : Nat) (W : World), RdI W B n l → RdP W C np ps → RdI W M mk ms → Calls Tryz.prog 24 #[.agg #[.int .i64 c, .int .i64 r, .slice B n cb], .agg #[.int .i64 un, .int .i64 len, .int .i64 most, .slice C np cc], .slice M mk cm] W fun en w' => ∃ X xc, en = .returned (.slice X tN xc) ∧ RdD w' X tN T ∧ Below W.heap.size W w') ∧
   (∀ (B C : Option Addr) (cb cc : Nat) (W : World), RdI W B n l → RdP W C np ps → Calls Tryz.prog 25 #[.agg #[.int .i64 c, .int .i64 r, .slice B n cb], .agg #[.int .i64 un, .int .i64 len, .int .i64 most, .slice C np cc]] W fun en w' => en = .returned (.int .i64 S) ∧ Below W.heap.size W w') ∧
   (∀ (B C : Option Addr) (cb cc : Nat) (W : World), RdI W B n l → RdP W C np ps → Calls Tryz.prog 26 #[.agg #[.int .i64 c, .int .i64 r, .slice B n cb], .agg #[.int .i64 un, .int .i64 len, .int .i64 most, .slice C np cc]] W fun en w' => en = .returned (.int .i64 S) ∧ Below W.heap.size W w') ∧
   (∀ (X Y : Option Addr) (xc yc : Nat) (W : World), RdD W X tN T → RdD W Y tN T → Calls Tryz.prog 27 #[.slice X tN xc, .slice Y tN yc] W fun en w' => en = .returned (.bool true) ∧ Below W.heap.size W w') ∧
   (∀ (i : Int) (B C : Option Addr) (cb cc : Nat) (W : World), RdI W B n l → RdP W C np ps → Steps W → Calls Tryz.prog 28 #[.agg #[.int .i64 c, .int .i64 r, .slice B n cb], .agg #[.int .i64 un, .int .i64 len, .int .i64 most, .slice C np cc], .int .i64 i] W fun en w' => ∃ X xc, en = .returned (.tuple #[.slice X (dN i) xc, .int .i64 (Ed i)]) ∧ RdI w' X (dN i) (D i) ∧ Below W.heap.size W w') ∧
   (∀ (i : Int), Ed i = 0 → ∀ (B C : Option Addr) (cb cc : Nat) (W : World), RdI W B n l → RdP W C np ps → Calls Tryz.prog 29 #[.agg #[.int .i64 c, .int .i64 r, .slice B n cb], .agg #[.int .i64 un, .int .i64 len, .int .i64 most, .slice C np cc], .int .i64 i] W fun en w' => ∃ X xc, en = .returned (.slice X (dN i) xc) ∧ RdI w' X (dN i) (D i) ∧ Below W.heap.size W w') := by
 obtain ⟨S, hS⟩ : ∃ S, S = Mo.surv c r l un len most ps := ⟨_, rfl⟩
 have hl : n ≤ 1000000 := by omega
 have hp : np ≤ 1000000 := by omega
 have hm : mk ≤ 1000000 := by omega
 -- the traces
 have hT : ∃ (T : List (List Int)) (tN : Nat), T.length = tN ∧ (∀ x, x ∈ T → x.length ≤ 1000000) ∧ tN ≤ 17 ∧ (Mo.mdl c r l un len most ps ms ≠ 0 → T = []) ∧
   (∀ (B C M : Option Addr) (cb cc cm : Nat) (W : World), np ≤ cc → RdI W B n l → RdP W C np ps → RdI W M mk ms → Steps W → Calls Tryz.prog 19 #[.agg #[.int .i64 c, .int .i64 r, .slice B n cb], .agg #[.int .i64 un, .int .i64 len, .int .i64 most, .slice C np cc], .slice M mk cm] W fun en w' => ∃ X xc, en = .returned (.tuple #[.slice X tN xc, .int .i64 (Mo.mdl c r l un len most ps ms)]) ∧ RdD w' X tN T ∧ Below W.heap.size W w') ∧
   (Mo.mdl c r l un len most ps ms = 0 → ∀ (B C M : Option Addr) (cb cc cm : Nat) (W : World), RdI W B n l → RdP W C np ps → RdI W M mk ms → Calls Tryz.prog 24 #[.agg #[.int .i64 c, .int .i64 r, .slice B n cb], .agg #[.int .i64 un, .int .i64 len, .int .i64 most, .slice C np cc], .slice M mk cm] W fun en w' => ∃ X xc, en = .returned (.slice X tN xc) ∧ RdD w' X tN T ∧ Below W.heap.size W w') := by
  by_cases hE : Mo.mdl c r l un len most ps ms = 0
  ·obtain ⟨h1, h2, h3⟩ := Mo.mdl_zero hE
   obtain ⟨s1, s2, s3, s4, s5, s6⟩ := surv_ok h1
   obtain ⟨c, r, rfl, rfl, hc, hr, g⟩ := Mo.ground_ok s1
   obtain ⟨ln, rfl⟩ : ∃ k : Nat, len = k := ⟨len.toNat, by omega⟩
   obtain rfl : mk = n := by omega
   refine ⟨trcs c l un ln most ms ps, np, by simp [trcs, hpl], fun x hx => by have := trc_le hx; omega, hp17, fun h => absurd hE h, ?_, ?_⟩
   ·intro B C M cb cc cm W hcc k1 k2 k3 k4
    refine (c19_ok c r B mk cb l un ln most C np cc ps M cm ms W g hc hr hcc k1 k2 k3 k4 hE).mono ?_
    rintro e w' ⟨go, rfl, _, ho, hb⟩
    rw [hE]
    exact ⟨_, _, rfl, ho.rd (by simp [trcs, hpl]), hb⟩
   ·intro _ B C M cb cc cm W k1 k2 k3
    exact c24 c r B mk cb l un ln most C np cc ps M cm ms W g hc hr s2 (by omega) (by omega) (fun p hp => by have := s6 p hp; omega) (fun k hk => h3 k (by omega)) k1 k2 k3
  ·refine ⟨[], 0, rfl, (fun x hx => by cases hx), Nat.zero_le _, (fun _ => rfl), ?_, fun h => absurd h hE⟩
   intro B C M cb cc cm W hcc k1 k2 k3 k4
   refine (c19_bad c r B n cb l un len most C np cc ps M mk cm ms W hl hp hm k1 k2 k3 hE).mono ?_
   rintro e w' ⟨rfl, hb⟩
   exact ⟨none, 0, rfl, rdD_none _, hb⟩
 obtain ⟨T, tN, hTl, hTx, hT17, hT0, k19, k24⟩ := hT
 -- the samples
 have hD : ∀ i : Int, ∃ D : List Int, (pairE S np i ≠ 0 → D = []) ∧ D.length ≤ 1000000 ∧
   (∀ (B C : Option Addr) (cb cc : Nat) (W : World), RdI W B n l → RdP W C np ps → Steps W → Calls Tryz.prog 28 #[.agg #[.int .i64 c, .int .i64 r, .slice B n cb], .agg #[.int .i64 un, .int .i64 len, .int .i64 most, .slice C np cc], .int .i64 i] W fun en w' => ∃ X xc, en = .returned (.tuple #[.slice X D.length xc, .int .i64 (pairE S np i)]) ∧ RdI w' X D.length D ∧ Below W.heap.size W w') ∧
   (pairE S np i = 0 → ∀ (B C : Option Addr) (cb cc : Nat) (W : World), RdI W B n l → RdP W C np ps → Calls Tryz.prog 29 #[.agg #[.int .i64 c, .int .i64 r, .slice B n cb], .agg #[.int .i64 un, .int .i64 len, .int .i64 most, .slice C np cc], .int .i64 i] W fun en w' => ∃ X xc, en = .returned (.slice X D.length xc) ∧ RdI w' X D.length D ∧ Below W.heap.size W w') := by
  intro i
  by_cases hE : pairE S np i = 0
  ·obtain ⟨h1, h2, h3⟩ := pairE_zero hE
   rw [h1] at hS
   obtain ⟨s1, s2, s3, s4, s5, s6⟩ := surv_ok hS.symm
   obtain ⟨c, r, rfl, rfl, hc, hr, g⟩ := Mo.ground_ok s1
   obtain ⟨j, rfl⟩ : ∃ k : Nat, i = k := ⟨i.toNat, by omega⟩
   have hjn : j < np := by omega
   have hjp : ps[j]? = some ps[j] := List.getElem?_eq_getElem (by omega)
   obtain ⟨p, hp0⟩ : ∃ p, p = ps[j] := ⟨_, rfl⟩
   rw [← hp0] at hjp
   have hpc := s6 p (List.mem_of_getElem? hjp)
   obtain ⟨pa, pb, ph⟩ := p
   dsimp only at hpc
   obtain ⟨pa, rfl⟩ : ∃ k : Nat, pa = k := ⟨pa.toNat, by omega⟩
   obtain ⟨pb, rfl⟩ : ∃ k : Nat, pb = k := ⟨pb.toNat, by omega⟩
   have hdn : (dlL c l un len most pa pb ph).length = n := by unfold dlL; rw [Im.delays_len]; exact hln
   refine ⟨dlL c l un len most pa pb ph, fun h => absurd hE h, by omega, ?_, ?_⟩
   ·intro B C cb cc W k1 k2 k3
    rw [hdn, hE]
    refine (c28_ok c r B n cb l un len most C np cc ps j pa pb ph W g hc hr s2 hp hS.symm hjp (by omega) (by omega) k1 k2 k3).mono ?_
    rintro e w' ⟨v, rfl, ho, hb⟩
    obtain ⟨X, xc, rfl, hrd⟩ := own_rdI ho
    exact ⟨X, xc, rfl, hrd, hb⟩
   ·intro _ B C cb cc W k1 k2
    rw [hdn]
    exact c29 c r B n cb l un len most C np cc ps j pa pb ph W g hc hr s2 (by omega) hjp hjn hp (by omega) (by omega) k1 k2
  ·refine ⟨[], fun _ => rfl, by simp, ?_, fun h => absurd h hE⟩
   intro B C cb cc W k1 k2 _
   refine (c28_bad c r B n cb l un len most C np cc ps i W hl hp k1 k2 (by rw [← hS]; exact hE)).mono ?_
   rintro e w' ⟨rfl, hb⟩
   rw [← hS]
   exact ⟨none, 0, rfl, rd_none _, hb⟩
 refine ⟨Mo.mdl c r l un len most ps ms, S, T, tN, fun i => (hD i).choose, fun i => (hD i).choose.length, fun i => pairE S np i, ?_, ?_, ?_, ?_, ?_, by omega, fun i => (hD i).choose_spec.2.1, k19, ?_, k24, ?_, ?_, ?_, fun i => (hD i).choose_spec.2.2.1, fun i => (hD i).choose_spec.2.2.2⟩
 ·intro h
  have := hT0 h
  subst this
  exact ⟨hTl.symm, rfl⟩
 ·intro i h
  have := (hD i).choose_spec.1 h
  exact ⟨by show (hD i).choose.length = 0; rw [this]; rfl, this⟩
 ·intro i h; exact pairE_bad h
 ·intro i h h2; subst h; exact pairE_out h2
 ·intro i h h1 h2; subst h; exact pairE_in h1 h2
 ·intro B C M cb cc cm W k1 k2 k3
  exact c23 c r B n cb l un len most C np cc ps M mk cm ms W hl hp hm k1 k2 k3
 ·intro B C cb cc W k1 k2
  rw [hS]
  exact c25 c r B n cb l un len most C np cc ps W hl hp k1 k2
 ·intro B C cb cc W k1 k2
  rw [hS]
  exact c26 c r B n cb l un len most C np cc ps W hl hp k1 k2
 ·intro X Y xc yc W k1 k2
  refine (c27 X Y tN tN xc yc T T W (by omega) (by omega) hTx hTx k1 k2).mono ?_
  rintro e w' ⟨rfl, hb⟩
  exact ⟨by simp, hb⟩
end Go.Proofs.YtdimmlljjmmdbaaGreatDoor
