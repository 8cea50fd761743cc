/- A part of the proofs about chapter 7 (image): contracts of functions and plain laws (V31, V32, V33, Blk, V34, V35, PInn, V36, PMis). -/
import Derived.Deep.MidRow
import Derived.WalkKit
import Derived.Test.YtdimmlljjmmdbaaGreatDoorZ09f
set_option linter.all false
namespace Go.Proofs.YtdimmlljjmmdbaaGreatDoor
open Go.RowKit
set_option maxHeartbeats 4000000
set_option maxRecDepth 20000
theorem dlp_hole {c : Nat} {l : List Int} {un len most : Int} {p : Pr} (h : p.h = true) {j : Nat} (hj : j < l.length) : Im.at0 (dlp c l un len most p) j = -1 := by
 unfold dlp dlL
 rw [h, Im.delays_at hj]
 exact Im.dly_hole _ _ _ _ _ _
theorem c104 (c r : Nat) (A : Option Addr) (n cap : Nat) (l : List Int) (un : Int) (ln : Nat) (most : Int) (P : Option Addr) (np capp : Nat) (ps : List Pr) (D : Option Addr) (capd : Nat) (d : List (List Int)) (w : World) (g : Im.Gr c r l) (hc : c ≤ 16) (hr : r ≤ 16) (hu : 1 ≤ un ∧ un ≤ 1000) (hln : 1 ≤ ln ∧ ln ≤ 256) (hnp : np ≤ 16) (hcp : np ≤ capp) (hcells : ∀ p, p ∈ ps → (0 ≤ p.s ∧ p.s < (n : Int)) ∧ (0 ≤ p.r ∧ p.r < (n : Int))) (hshp : Mo.Shp (ln : Int) ps d) (hdv : ∀ x, x ∈ d → ∀ y, y ∈ x → -1048576 ≤ y ∧ y ≤ 1048576) (H : RdI w A n l) (HP : RdP w P np ps) (HD : RdD w D np d) (hst : Steps w) :
  Calls Tryz.prog 104 #[.agg #[.int .i64 c, .int .i64 r, .slice A n cap], .agg #[.int .i64 un, .int .i64 (ln : Nat), .int .i64 most, .slice P np capp], .slice D np capd] w fun en w' => ∃ v, en = .returned v ∧ w'.ownsRow w.heap.size 3 1 v n (encI (Im.image n (ps.map (dlp c l un ln most)) d)) ∧ Below w.heap.size w w' := by
 have HPL := Lib.hid HP.len
 have HLN := Lib.hid H.len
 have HDN := Lib.hid HD.len
 have hn0 : 0 < n := by
  have h1 := g.c1; have h2 := g.r1; have h3 := g.len
  have : 1 * 1 ≤ c * r := Nat.mul_le_mul h1 h2
  rw [← HLN.out]; omega
 have hn256 : n ≤ 256 := by
  have h3 := g.len
  have : c * r ≤ 16 * 16 := Nat.mul_le_mul hc hr
  rw [← HLN.out]; omega
 obtain ⟨i0, hi, hz0, hz1, hz2⟩ := info_parts info3
 have hmk2 := fun W => run_make_fill (P := Tryz.prog) 22 3 i0 (.int .i64 0) (fun _ => .int .i64 0) Tryz.underlying22 hi hz0 hz1 rfl n (by omega) (by rw [hz2]; omega) W
 clear hi hz0 hz1 hz2
 have HSH := Lib.hid hshp
 have HDV := Lib.hid hdv
 clear hshp hdv
 obtain ⟨DS, hDS⟩ : ∃ T, T = ps.map (dlp c l un ln most) := ⟨_, rfl⟩
 have hDN : ∀ ds, ds ∈ DS → ds.length = n := by
  intro ds hds
  rw [hDS] at hds
  obtain ⟨p, _, rfl⟩ := List.mem_map.1 hds
  rw [dlp_len, HLN.out]
 have hDL : DS.length = np := by rw [hDS]; simp [HPL.out]
 have HFIN : Hid (Im.imgN n DS d np = Im.image n (ps.map (dlp c l un ln most)) d) := Lib.hid (by
  rw [← hDS, ← hDL]
  exact Im.imgN_full (by rw [hDL, HDN.out]))
 rw [← HFIN.out]
 have HDS := Lib.hid hDS
 have HIL := Lib.hid (fun i => Im.imgN_len (data := d) hDN i)
 have HSU : Hid (∀ i, i < np → ∀ k, k < n → Im.at0 (Im.imgN n DS d (i + 1)) k = Im.at0 (Im.imgN n DS d i) k + Im.pick (d.getD i []) (Im.at0 (DS.getD i []) k)) := Lib.hid (fun i hi k hk => by
  rw [Im.imgN_succ (by rw [hDL]; exact hi) (by rw [HDN.out]; exact hi)]
  refine Im.imgFold_at ?_ (by rw [Im.imgN_len hDN]; exact hk)
  rw [Im.imgN_len hDN, List.getD_eq_getElem?_getD, List.getElem?_eq_getElem (by rw [hDL]; exact hi)]
  exact hDN _ (List.getElem_mem _))
 have HBD := Lib.hid (Im.imgN_le (n := n) (dss := DS) (data := d) (B := 1048576) (by omega) hDN HDV.out (by rw [hDL, HDN.out]))
 have HDL2 := Lib.hid hDL
 clear hDS hDN hDL
 obtain ⟨w0, hW⟩ : ∃ W, W = (w.alloc (Obj.cells #[.int .i64 c, .int .i64 r, .slice A n cap] 35)).alloc (Obj.cells #[.int .i64 un, .int .i64 (ln : Nat), .int .i64 most, .slice P np capp] 39) := ⟨_, rfl⟩
 have hT0 : w0.heap[w.heap.size]? = some (.cells #[.int .i64 c, .int .i64 r, .slice A n cap] 35 (0, 0)) := by rw [hW]; exact heap_old (by simp <;> omega) (heap_new (by simp))
 have hT1 : w0.heap[w.heap.size + 1]? = some (.cells #[.int .i64 un, .int .i64 (ln : Nat), .int .i64 most, .slice P np capp] 39 (0, 0)) := by rw [hW]; exact heap_new (by simp)
 have hB0 : Below w.heap.size w w0 := by rw [hW]; exact (((Below.refl _ _).alloc (by first | omega | (simp <;> omega)) _).alloc (by first | omega | (simp <;> omega)) _)
 replace H := H.below hB0
 replace HP := HP.below hB0
 replace HD := HD.below hB0
 replace hst := hst.below hB0
 go_enter Tryz.func104, Tryz.ntmps104
 have HS0 : w0.heap.size = w.heap.size + 1 + 1 := by rw [hW]; simp
 go_wp2_with fail
 rw [← hW]
 clear hW
 have qhT0_0 : w0.cell? ⟨w.heap.size, 0, none⟩ = some (.int .i64 c) := cell_at hT0 rfl
 have qhT0_1 : w0.cell? ⟨w.heap.size, 1, none⟩ = some (.int .i64 r) := cell_at hT0 rfl
 have qhT0_2 : w0.cell? ⟨w.heap.size, 2, none⟩ = some (.slice A n cap) := cell_at hT0 rfl
 have qhT1_0 : w0.cell? ⟨w.heap.size + 1, 0, none⟩ = some (.int .i64 un) := cell_at hT1 rfl
 have qhT1_1 : w0.cell? ⟨w.heap.size + 1, 1, none⟩ = some (.int .i64 (ln : Nat)) := cell_at hT1 rfl
 have qhT1_2 : w0.cell? ⟨w.heap.size + 1, 2, none⟩ = some (.int .i64 most) := cell_at hT1 rfl
 have qhT1_3 : w0.cell? ⟨w.heap.size + 1, 3, none⟩ = some (.slice P np capp) := cell_at hT1 rfl
 go_wp2_with fail
 obtain ⟨w1, hwn⟩ : ∃ V, V = w0.alloc (.cells (fillA (.int .i64 0) (fun _ => .int .i64 0) n 0) 3) := ⟨_, rfl⟩
 have hbn0 : Below w0.heap.size w0 w1 := by rw [hwn]; exact (Below.refl _ _).alloc (Nat.le_refl _) _
 obtain ⟨go, hgo'⟩ : ∃ b, b = w.heap.size + 1 + 1 := ⟨_, rfl⟩
 have hgo : go = w0.heap.size := by omega
 have ko : w1.heap[go]? = some (.cells (fillA (.int .i64 0) (fun _ => .int .i64 0) n 0) 3 (0, 0)) := by rw [hwn]; exact heap_new hgo
 have HGO : Hid (w0.heap.size ≤ go) := Lib.hid (by omega)
 have hom : RowI w1 w0.heap.size go n n (Im.imgN n DS d 0) := by
  refine ⟨_, ko, fillA_size _ _ _ _, Nat.le_refl _, by omega, by rw [Im.imgN_zero]; simp, ?_, by omega⟩
  rw [Im.imgN_zero, List.take_of_length_le (by simp [fillA])]
  apply List.ext_getElem?
  intro i
  simp [fillA, encI, List.getElem?_replicate]
  by_cases h : i < n <;> simp [h]
 rw [← hgo', ← hwn]
 clear hwn hgo hgo' HS0 hmk2 ko
 have KH := Lib.hid H
 have KHP := Lib.hid HP
 have KHD := Lib.hid HD
 have Khst := Lib.hid hst
 have KhT0 := Lib.hid hT0
 have KhT1 := Lib.hid hT1
 have KB := Lib.hid hB0
 clear qhT0_0 qhT0_1 qhT0_2 qhT1_0 qhT1_1 qhT1_2 qhT1_3
 have hS := hbn0
 have hB1 := hB0.call hS rfl
 replace hT0 := blkb hT0 hS
 replace hT1 := blkb hT1 hS
 replace H := H.below hS
 replace HP := HP.below hS
 replace HD := HD.below hS
 replace hst := hst.below hS
 clear hS hB0
 have qhT0_0 : w1.cell? ⟨w.heap.size, 0, none⟩ = some (.int .i64 c) := cell_at hT0 rfl
 have qhT0_1 : w1.cell? ⟨w.heap.size, 1, none⟩ = some (.int .i64 r) := cell_at hT0 rfl
 have qhT0_2 : w1.cell? ⟨w.heap.size, 2, none⟩ = some (.slice A n cap) := cell_at hT0 rfl
 have qhT1_0 : w1.cell? ⟨w.heap.size + 1, 0, none⟩ = some (.int .i64 un) := cell_at hT1 rfl
 have qhT1_1 : w1.cell? ⟨w.heap.size + 1, 1, none⟩ = some (.int .i64 (ln : Nat)) := cell_at hT1 rfl
 have qhT1_2 : w1.cell? ⟨w.heap.size + 1, 2, none⟩ = some (.int .i64 most) := cell_at hT1 rfl
 have qhT1_3 : w1.cell? ⟨w.heap.size + 1, 3, none⟩ = some (.slice P np capp) := cell_at hT1 rfl
 have hbb := hbn0
 clear hbn0
 have HOMLT : go + 1 ≤ w1.heap.size := by obtain ⟨cs, h1, _⟩ := hom; exact (Array.getElem?_eq_some_iff.1 h1).1
 go_wp2_with fail
 refine (c108 c r A n cap l un ln most P np capp ps _ g hc hr hu hnp hcp hcells H HP hst).mono ?_
 rintro e w2 ⟨AL, capL, rfl, hall, hb⟩
 have HSZX := hb.size
 clear qhT0_0 qhT0_1 qhT0_2 qhT1_0 qhT1_1 qhT1_2 qhT1_3
 have hS := hb
 have hB2 := hB1.call hS rfl
 replace hT0 := blkb hT0 hS
 replace hT1 := blkb hT1 hS
 replace H := H.below hS
 replace HP := HP.below hS
 replace HD := HD.below hS
 replace hst := hst.below hS
 replace hom := hom.below hS
 replace hbb := hbb.call hS rfl
 clear hS hB1
 have qhT0_0 : w2.cell? ⟨w.heap.size, 0, none⟩ = some (.int .i64 c) := cell_at hT0 rfl
 have qhT0_1 : w2.cell? ⟨w.heap.size, 1, none⟩ = some (.int .i64 r) := cell_at hT0 rfl
 have qhT0_2 : w2.cell? ⟨w.heap.size, 2, none⟩ = some (.slice A n cap) := cell_at hT0 rfl
 have qhT1_0 : w2.cell? ⟨w.heap.size + 1, 0, none⟩ = some (.int .i64 un) := cell_at hT1 rfl
 have qhT1_1 : w2.cell? ⟨w.heap.size + 1, 1, none⟩ = some (.int .i64 (ln : Nat)) := cell_at hT1 rfl
 have qhT1_2 : w2.cell? ⟨w.heap.size + 1, 2, none⟩ = some (.int .i64 most) := cell_at hT1 rfl
 have qhT1_3 : w2.cell? ⟨w.heap.size + 1, 3, none⟩ = some (.slice P np capp) := cell_at hT1 rfl
 clear hb
 clear qhT0_0 qhT0_1 qhT0_2 qhT1_0 qhT1_1 qhT1_2 qhT1_3
 have HALL := Lib.hid hall
 have HSZ : Hid (go + 1 ≤ w1.heap.size ∧ w1.heap.size ≤ w2.heap.size) := Lib.hid ⟨HOMLT, HSZX⟩
 have HB1 : Hid (Below w0.heap.size w0 w2) := Lib.hid hbb
 have hom0 := Lib.hid hom
 have hgb0 : Hid (w2.grownBy w2 (some go)) := Lib.hid (grownBy_of_below (Below.refl _ _) _)
 clear hom hbb hall H HP HD hst hT0 hT1 hcells HOMLT HSZX
 go_wp2_with fail
 go_loopw [20] (fun i wr => ∃ k : Nat, k ≤ np ∧ i = .int .i64 k ∧ Hid (RowI wr w0.heap.size go n n (Im.imgN n DS d k)) ∧ Hid (w2.grownBy wr (some go))) (fun i _ => np - (intOf i).toNat)
 case atStart => exact ⟨0, Nat.zero_le _, rfl, hom0, hgb0⟩
 case round =>
  clear hom0 hgb0
  obtain ⟨k, hk, rfl, HOM, HGB⟩ := hrel
  obtain ⟨w3, hww⟩ : ∃ W, W = wr := ⟨_, rfl⟩
  subst hww
  have hbr : Below w0.heap.size w0 w3 := HB1.out.trans (gb_below HGB.out HB1.out.size HGO.out)
  have hB3 := KB.out.call hbr rfl
  have H := KH.out.below hbr
  have HP := KHP.out.below hbr
  have HD := KHD.out.below hbr
  have hst := Khst.out.below hbr
  have hT0 := blkb KhT0.out hbr
  have hT1 := blkb KhT1.out hbr
  have qhT0_0 : w3.cell? ⟨w.heap.size, 0, none⟩ = some (.int .i64 c) := cell_at hT0 rfl
  have qhT0_1 : w3.cell? ⟨w.heap.size, 1, none⟩ = some (.int .i64 r) := cell_at hT0 rfl
  have qhT0_2 : w3.cell? ⟨w.heap.size, 2, none⟩ = some (.slice A n cap) := cell_at hT0 rfl
  have qhT1_0 : w3.cell? ⟨w.heap.size + 1, 0, none⟩ = some (.int .i64 un) := cell_at hT1 rfl
  have qhT1_1 : w3.cell? ⟨w.heap.size + 1, 1, none⟩ = some (.int .i64 (ln : Nat)) := cell_at hT1 rfl
  have qhT1_2 : w3.cell? ⟨w.heap.size + 1, 2, none⟩ = some (.int .i64 most) := cell_at hT1 rfl
  have qhT1_3 : w3.cell? ⟨w.heap.size + 1, 3, none⟩ = some (.slice P np capp) := cell_at hT1 rfl
  have hall := HALL.out.keep HGB.out.size (fun b hb hl => HGB.out.block b hl (fun e => by have := HSZ.out; have e2 : b = go := Option.some.inj e; omega))
  have hwk : IntKind.i64.wrap ((k : Int) + 1) = ((k + 1 : Nat) : Int) := by rw [wrapI (by omega)]; simp
  by_cases hlt : k < np
  rotate_left
  ·obtain rfl : np = k := by omega
   have HF := Lib.hid ((HOM.out.lower (show w.heap.size ≤ w0.heap.size from KB.out.size)).own)
   go_wp2
   go_ret
   exact ⟨_, rfl, HF.out, hB3⟩
  have hkm2 : (k : Int) < (np : Int) := by omega
  have hk02 : (0 : Int) ≤ (k : Int) := by omega
  obtain ⟨ab, aoff, x, gx, xc, rfl, hx, ⟨hab, habB⟩, ⟨hgx, hgxB⟩, hac, hrx⟩ := hall.at hlt
  obtain ⟨p, hpx⟩ : ∃ p, ps[k]? = some p := ⟨_, List.getElem?_eq_getElem (by rw [HPL.out]; exact hlt)⟩
  have hxd : x = dlp c l un ln most p := by
   rw [List.getElem?_map, hpx] at hx
   simpa using hx.symm
  have hxl : x.length = n := by rw [hxd, dlp_len, HLN.out]
  have HXG : Hid (DS.getD k [] = x) := Lib.hid (by rw [HDS.out, List.getD_eq_getElem?_getD, hx]; rfl)
  have HXD := Lib.hid hxd
  have HXL := Lib.hid hxl
  have HPX := Lib.hid hpx
  rw [hxl] at hac hrx
  have hgxo : gx ≠ go := by have h1 := HSZ.out; omega
  have HRX := Lib.hid hrx
  have HGX := Lib.hid (show gx < w3.heap.size from hgx)
  obtain ⟨db, doff, y, ya, yc, rfl, hy, hdb, hdc, hry⟩ := HD.at hlt
  have HYG : Hid (d.getD k [] = y) := Lib.hid (by rw [List.getD_eq_getElem?_getD, hy]; rfl)
  have HYX := Lib.hid hy
  have HSHK := Lib.hid (HSH.out k p y hpx hy)
  have HYV := Lib.hid (HDV.out y (List.mem_of_getElem? hy))
  have hrow0 : Hid (RowI w3 w0.heap.size go n n (Im.mix (Im.imgN n DS d k) (Im.imgN n DS d (k + 1)) 0)) := by rw [Im.mix_zero]; exact HOM
  have HSUK := Lib.hid (HSU.out k hlt)
  rw [HXG.out, HYG.out] at HSUK
  have HBK := Lib.hid (HBD.out k (by rw [HDL2.out]; omega))
  clear hrx hab habB hgx hgxB hx hxd hxl hpx hall hy hdb hdc hry
  go_wp2_with fail
  go_loopw [27] (fun i wr => ∃ j : Nat, j ≤ n ∧ i = .int .i64 j ∧ Hid (RowI wr w0.heap.size go n n (Im.mix (Im.imgN n DS d k) (Im.imgN n DS d (k + 1)) j)) ∧ Hid (w2.grownBy wr (some go)) ∧ Hid (w3.grownBy wr (some go))) (fun i _ => n - (intOf i).toNat)
  case atStart => exact ⟨0, Nat.zero_le _, rfl, hrow0, HGB, Lib.hid (grownBy_of_below (Below.refl _ _) _)⟩
  case round =>
   clear hrow0
   obtain ⟨j, hj, rfl, HRW, HG5, HG6⟩ := hrel
   clear hbr H HP HD hst hT0 hT1
   clear qhT0_0 qhT0_1 qhT0_2 qhT1_0 qhT1_1 qhT1_2 qhT1_3
   obtain ⟨w4, hww⟩ : ∃ W, W = wr := ⟨_, rfl⟩
   subst hww
   have hbr : Below w0.heap.size w0 w4 := HB1.out.trans (gb_below HG5.out HB1.out.size HGO.out)
   have hB4 := KB.out.call hbr rfl
   have H := KH.out.below hbr
   have HP := KHP.out.below hbr
   have HD := KHD.out.below hbr
   have hst := Khst.out.below hbr
   have hT0 := blkb KhT0.out hbr
   have hT1 := blkb KhT1.out hbr
   have hwj : IntKind.i64.wrap ((j : Int) + 1) = ((j + 1 : Nat) : Int) := by rw [wrapI (by omega)]; simp
   by_cases hlt2 : j < n
   rotate_left
   ·obtain rfl : n = j := by omega
    have HOM3 : Hid (RowI w4 w0.heap.size go n n (Im.imgN n DS d (k + 1))) := Lib.hid (by
     have h := HRW.out
     have e : Im.mix (Im.imgN n DS d k) (Im.imgN n DS d (k + 1)) n = Im.imgN n DS d (k + 1) := by
      have h1 := Im.mix_full (a := Im.imgN n DS d k) (b := Im.imgN n DS d (k + 1)) (by rw [HIL.out, HIL.out])
      rwa [HIL.out] at h1
     rw [e] at h
     exact h)
    go_wp2
    go_roundw
    case rel => exact ⟨k + 1, by omega, rfl, HOM3, HG5⟩
    case measure => simp [intOf]; omega
   have hjn2 : (j : Int) < (n : Int) := by omega
   have hj02 : (0 : Int) ≤ (j : Int) := by omega
   have hdc : w4.cell? ⟨gx, j, none⟩ = some (.int .i64 (Im.at0 x j)) := by
    have h := (HRX.out.gb HG6.out hgxo).get hlt2
    rwa [Nat.zero_add] at h
   have hgx5 : gx < w4.heap.size := Nat.lt_of_lt_of_le HGX.out HG6.out.size
   have HDJ : Hid (0 ≤ Im.at0 x j → Im.at0 x j < (ln : Int)) := Lib.hid (fun h => by rw [HXD.out] at h ⊢; exact dlp_lt (by rw [HLN.out]; exact hlt2) h)
   have HHJ : Hid (p.h = true → Im.at0 x j = -1) := Lib.hid (fun h => by rw [HXD.out]; exact dlp_hole h (by rw [HLN.out]; exact hlt2))
   have HSJ := Lib.hid (HSUK.out j hlt2)
   have hbj := HBK.out j hlt2
   have HMG : Hid (Im.at0 (Im.mix (Im.imgN n DS d k) (Im.imgN n DS d (k + 1)) j) j = Im.at0 (Im.imgN n DS d k) j) := Lib.hid (by rw [Im.mix_get (by rw [HIL.out]; exact hlt2), if_neg (Nat.lt_irrefl j)])
   generalize hdj : Im.at0 x j = dj at hdc HDJ HSJ HHJ
   clear hdj
   by_cases hd0 : 0 ≤ dj
   rotate_left
   ·have hdd : decide ((0 : Int) ≤ dj) = false := by simpa using hd0
    have HRW2 : Hid (RowI w4 w0.heap.size go n n (Im.mix (Im.imgN n DS d k) (Im.imgN n DS d (k + 1)) (j + 1))) := Lib.hid (by
     rw [Im.mix_keep (by rw [HSJ.out]; unfold Im.pick; rw [if_neg hd0]; omega)]
     exact HRW.out)
    clear hd0
    go_wp2
    go_roundw
    case rel => exact ⟨j + 1, by omega, rfl, HRW2, HG5, HG6⟩
    case measure => simp [intOf]; omega
   have hdl := HDJ.out hd0
   obtain ⟨q, rfl⟩ : ∃ q : Nat, dj = q := ⟨dj.toNat, by omega⟩
   have hq : q < ln := by omega
   have hyl : y.length = ln := by
    have h := HSHK.out
    unfold Mo.okT at h
    cases hph : p.h
    ·rw [hph] at h; simp at h; omega
    ·have := HHJ.out hph; omega
   have hdd : decide ((0 : Int) ≤ (q : Int)) = true := by simp
   have hql : (q : Int) < (ln : Int) := by omega
   have hq02 : (0 : Int) ≤ (q : Int) := by omega
   obtain ⟨db', doff', y', ya, yc, he, hy', hdb, hyc, hry⟩ := HD.at hlt
   cases he
   obtain rfl : y = y' := by rw [HYX.out] at hy'; exact Option.some.inj hy'
   rw [hyl] at hyc hry
   obtain ⟨mb, moff, mx, rfl, hmx, hmb, hmc⟩ := hry.at hq
   have hmx2 : Im.at0 y q = mx := by simp [Im.at0, List.getD_eq_getElem?_getD, hmx]
   have hmr := HYV.out mx (List.mem_of_getElem? hmx)
   have hpk : Im.pick y (q : Int) = mx := by unfold Im.pick; rw [if_pos (Int.natCast_nonneg q), Int.toNat_natCast, hmx2]
   rw [hpk] at HSJ
   have hrc := (HRW.out.cell hlt2).1
   have hrf := (HRW.out.cell hlt2).2.1
   have hgtl := (HRW.out.cell hlt2).2.2
   rw [HMG.out] at hrc
   generalize hyv : Im.at0 (Im.imgN n DS d k) j = yv at hrc hbj HSJ
   have HYW := Lib.hid hyv
   have hk16 : (k : Int) * 1048576 ≤ 16 * 1048576 := Int.mul_le_mul_of_nonneg_right (by omega) (by omega)
   have hwy : IntKind.i64.wrap (yv + mx) = yv + mx := wrapI (by omega)
   clear hmr hmx hmx2 hyv hd0 hdl hbj hpk hk16 hy'
   go_wp2
   refine wp_region_splitG 13 (by kernel_rfl) (by kernel_rfl) ?_
   simp only [List.take_succ_cons, List.take_zero, List.drop_succ_cons, List.drop_zero]
   repeat (go_big_quiet_step ((first | fail)))
   refine wpQuiet_nil (gw_out ?_)
   intro wq hbw
   have hrow2 := HRW.out.below hbw
   have qc := (hrow2.cell hlt2).1
   have qf := (hrow2.cell hlt2).2.1
   rw [HMG.out, HYW.out] at qc
   have HRW2 : Hid (RowI (wq.setCell ⟨go, j, none⟩ (.int .i64 (yv + mx))) w0.heap.size go n n (Im.mix (Im.imgN n DS d k) (Im.imgN n DS d (k + 1)) (j + 1))) := Lib.hid (by
    have h := hrow2.set j (yv + mx)
    have e := Im.mix_set (a := Im.imgN n DS d k) (b := Im.imgN n DS d (k + 1)) (j := j) (by rw [HIL.out]; exact hlt2)
    rw [HSJ.out] at e
    rw [e] at h
    exact h)
   have HG7 : Hid (w2.grownBy (wq.setCell ⟨go, j, none⟩ (.int .i64 (yv + mx))) (some go)) := Lib.hid (gb_set (gb_call HG5.out (hbw.mono HG5.out.size)))
   have HG8 : Hid (w3.grownBy (wq.setCell ⟨go, j, none⟩ (.int .i64 (yv + mx))) (some go)) := Lib.hid (gb_set (gb_call HG6.out (hbw.mono HG6.out.size)))
   clear hrow2 hrc hrf hdc hmc hyc hry
   go_wp2
   go_roundw
   case rel => exact ⟨j + 1, by omega, rfl, HRW2, HG7, HG8⟩
   case measure => simp [intOf]; omega
end Go.Proofs.YtdimmlljjmmdbaaGreatDoor
namespace Go.Proofs.YtdimmlljjmmdbaaGreatDoor
open Go.RowKit
set_option maxHeartbeats 4000000
set_option maxRecDepth 20000
namespace Mo
/-- what is wrong with a model, and with traces -/
def mdl (c r : Int) (l : List Int) (un len most : Int) (ps : List Pr) (ms : List Int) : Int := first [surv c r l un len most ps, first [when ((ms.length : Int) != (l.length : Int)) 2, allw ms (-1000) 1000]]
noncomputable def dta (c r : Int) (l : List Int) (un len most : Int) (ps : List Pr) (d : List (List Int)) : Int := first [surv c r l un len most ps, dat len ps d]
theorem mdl_zero {c r : Int} {l : List Int} {un len most : Int} {ps : List Pr} {ms : List Int} (h : mdl c r l un len most ps ms = 0) : surv c r l un len most ps = 0 ∧ ms.length = l.length ∧ ∀ k, k < ms.length → -1000 ≤ Im.at0 ms k ∧ Im.at0 ms k ≤ 1000 := by
 have h1 := first_zero h
 have h2 := first_zero (h1 (first [when ((ms.length : Int) != (l.length : Int)) 2, allw ms (-1000) 1000]) (by simp))
 have h3 := (when_zero (by decide)).1 (h2 (when ((ms.length : Int) != (l.length : Int)) 2) (by simp))
 have h4 := allw_ok.1 (h2 (allw ms (-1000) 1000) (by simp))
 refine ⟨h1 _ List.mem_cons_self, ?_, fun k hk => ?_⟩
 ·have : (ms.length : Int) = (l.length : Int) := by simpa using h3
  omega
 ·have := h4 (Im.at0 ms k) (by simp [Im.at0, List.getD_eq_getElem?_getD, hk])
  omega
theorem dta_zero {c r : Int} {l : List Int} {un len most : Int} {ps : List Pr} {d : List (List Int)} (h : dta c r l un len most ps d = 0) : surv c r l un len most ps = 0 ∧ d.length = ps.length ∧ Shp len ps d ∧ ∀ x, x ∈ d → ∀ y, y ∈ x → -1048576 ≤ y ∧ y ≤ 1048576 := by
 have h1 := first_zero h
 exact ⟨h1 _ List.mem_cons_self, dat_zero (h1 (dat len ps d) (by simp))⟩
end Mo
theorem c19_ok (c r : Nat) (A : Option Addr) (n cap : Nat) (l : List Int) (un : Int) (ln : Nat) (most : Int) (P : Option Addr) (np capp : Nat) (ps : List Pr) (M : Option Addr) (capm : Nat) (ms : List Int) (w : World) (g : Im.Gr c r l) (hc : c ≤ 16) (hr : r ≤ 16) (hcp : np ≤ capp) (H : RdI w A n l) (HP : RdP w P np ps) (HM : RdI w M n ms) (hst : Steps w) (hE : Mo.mdl c r l un ln most ps ms = 0) :
  Calls Tryz.prog 19 #[.agg #[.int .i64 c, .int .i64 r, .slice A n cap], .agg #[.int .i64 un, .int .i64 (ln : Nat), .int .i64 most, .slice P np capp], .slice M n capm] w fun en w' => ∃ go, en = .returned (.tuple #[.slice (some ⟨go, 0, none⟩) np np, .int .i64 0]) ∧ w.heap.size ≤ go ∧ OutM w' w.heap.size go (trcs c l un ln most ms ps) ∧ Below w.heap.size w w' := by
 obtain ⟨hS, hml, hmb⟩ := Mo.mdl_zero hE
 obtain ⟨_, hu, hln1, _, hnp, hcl⟩ := surv_ok hS
 have hl : n ≤ 1000000 := by have h1 := H.len; have := g.len; have : c * r ≤ 16 * 16 := Nat.mul_le_mul hc hr; omega
 have hpl := HP.len
 have hp : np ≤ 1000000 := by omega
 have hm := hl
 have HLN := Lib.hid H.len
 have HCL : Hid (∀ p, p ∈ ps → (0 ≤ p.s ∧ p.s < (n : Int)) ∧ (0 ≤ p.r ∧ p.r < (n : Int))) := Lib.hid (fun p hp => by have := hcl p hp; rw [H.len] at this; exact this)
 have HMB : Hid (∀ k, k < n → -1000 ≤ Im.at0 ms k ∧ Im.at0 ms k ≤ 1000) := Lib.hid (fun k hk => hmb k (by rw [HM.len]; exact hk))
 have hn16 : np ≤ 16 := by omega
 have hl256 : 1 ≤ ln ∧ ln ≤ 256 := by omega
 have HE : Hid (Mo.first [Mo.surv c r l un ln most ps, Mo.first [Mo.when false 2, Mo.allw ms (-1000) 1000]] = 0) := Lib.hid (by have h := hE; unfold Mo.mdl at h; rw [H.len, HM.len] at h; simpa using h)
 clear hE hS hml hmb hcl hpl hnp
 obtain ⟨w0, hW⟩ : ∃ W, W = (w.alloc (Obj.cells #[.int .i64 c, .int .i64 r, .slice A n cap] 35)).alloc (Obj.cells #[.int .i64 un, .int .i64 (ln : Nat), .int .i64 most, .slice P np capp] 39) := ⟨_, rfl⟩
 have hT0 : w0.heap[w.heap.size]? = some (.cells #[.int .i64 c, .int .i64 r, .slice A n cap] 35 (0, 0)) := by rw [hW]; exact heap_old (by simp <;> omega) (heap_new (by simp))
 have hT1 : w0.heap[w.heap.size + 1]? = some (.cells #[.int .i64 un, .int .i64 (ln : Nat), .int .i64 most, .slice P np capp] 39 (0, 0)) := by rw [hW]; exact heap_new (by simp)
 have hB0 : Below w.heap.size w w0 := by rw [hW]; exact (((Below.refl _ _).alloc (by first | omega | (simp <;> omega)) _).alloc (by first | omega | (simp <;> omega)) _)
 replace H := H.below hB0
 replace HP := HP.below hB0
 replace HM := HM.below hB0
 replace hst := hst.below hB0
 go_enter Tryz.func19, Tryz.ntmps19
 go_wp2_with fail
 rw [← hW]
 clear hW
 have qhT0_0 : w0.cell? ⟨w.heap.size, 0, none⟩ = some (.int .i64 c) := cell_at hT0 rfl
 have qhT0_1 : w0.cell? ⟨w.heap.size, 1, none⟩ = some (.int .i64 r) := cell_at hT0 rfl
 have qhT0_2 : w0.cell? ⟨w.heap.size, 2, none⟩ = some (.slice A n cap) := cell_at hT0 rfl
 have qhT1_0 : w0.cell? ⟨w.heap.size + 1, 0, none⟩ = some (.int .i64 un) := cell_at hT1 rfl
 have qhT1_1 : w0.cell? ⟨w.heap.size + 1, 1, none⟩ = some (.int .i64 (ln : Nat)) := cell_at hT1 rfl
 have qhT1_2 : w0.cell? ⟨w.heap.size + 1, 2, none⟩ = some (.int .i64 most) := cell_at hT1 rfl
 have qhT1_3 : w0.cell? ⟨w.heap.size + 1, 3, none⟩ = some (.slice P np capp) := cell_at hT1 rfl
 refine wp_region_plan [(0, true), (1, true), (3, true), (4, true), (2, false), (5, false), (6, false), (7, false), (8, true)] w0.heap.size (by kernel_rfl) (by kernel_rfl) (Nat.le_refl _) (fun _ _ d _ _ h => by cases d <;> exact h) ?_
 have hC : Below w0.heap.size w0 w0 := Below.refl _ _
 have zhT0 : w.heap.size < w0.heap.size := (Array.getElem?_eq_some_iff.1 hT0).1
 have zhT1 : w.heap.size + 1 < w0.heap.size := (Array.getElem?_eq_some_iff.1 hT1).1
 repeat (first | (refine wpPlanA_skip _ rfl (by rfl) ?_; simp only [Act.put, List.setIfInBounds_toArray, List.set_cons_zero, List.set_cons_succ]) | (refine wpPlanA_soft _ ?_ rfl (by rfl) ?_ ?_; rotate_left; (intro wq hq hcq; go_simp; first | exact rfl | exact ⟨rfl, rfl⟩); simp only [Act.put, List.setIfInBounds_toArray, List.set_cons_zero, List.set_cons_succ]))
 refine wpPlanA_hard _ rfl (by rfl) (fun w1 hS K hK => ?_)
 have hB1 := hB0.call hS rfl
 replace hC := hC.call hS rfl
 replace hT0 := blkb hT0 hS
 replace hT1 := blkb hT1 hS
 replace H := H.below hS
 replace HP := HP.below hS
 replace HM := HM.below hS
 replace hst := hst.below hS
 clear hS hB0
 go_simp
 refine (c25 c r A n cap l un ln most P np capp ps _ hl hp H HP).mono ?_
 rintro e w2 ⟨rfl, hb⟩
 have hB2 := hB1.call hb rfl
 replace hC := hC.call hb rfl
 replace hT0 := blkb hT0 hb
 replace hT1 := blkb hT1 hb
 replace H := H.below hb
 replace HP := HP.below hb
 replace HM := HM.below hb
 replace hst := hst.below hb
 clear hb hB1
 refine hK _ _ hC ?_
 clear hK K
 try simp only [Act.put, List.setIfInBounds_toArray, List.set_cons_zero, List.set_cons_succ]
 refine wpPlanA_hard _ rfl (by rfl) (fun w3 hS K hK => ?_)
 have hB3 := hB2.call hS rfl
 replace hC := hC.call hS rfl
 replace hT0 := blkb hT0 hS
 replace hT1 := blkb hT1 hS
 replace H := H.below hS
 replace HP := HP.below hS
 replace HM := HM.below hS
 replace hst := hst.below hS
 clear hS hB2
 go_simp
 refine (c90 c r A n cap M n capm ms _ hm HM).mono ?_
 rintro e w4 ⟨rfl, hb⟩
 have hB4 := hB3.call hb rfl
 replace hC := hC.call hb rfl
 replace hT0 := blkb hT0 hb
 replace hT1 := blkb hT1 hb
 replace H := H.below hb
 replace HP := HP.below hb
 replace HM := HM.below hb
 replace hst := hst.below hb
 clear hb hB3
 refine hK _ _ hC ?_
 clear hK K
 try simp only [Act.put, List.setIfInBounds_toArray, List.set_cons_zero, List.set_cons_succ]
 refine wpPlanA_hard _ rfl (by rfl) (fun w5 hS K hK => ?_)
 have hB5 := hB4.call hS rfl
 replace hC := hC.call hS rfl
 replace hT0 := blkb hT0 hS
 replace hT1 := blkb hT1 hS
 replace H := H.below hS
 replace HP := HP.below hS
 replace HM := HM.below hS
 replace hst := hst.below hS
 clear hS hB4
 go_simp
 have hb : Below w5.heap.size w5 (w5.alloc (Obj.cells #[.int .i64 (Mo.surv c r l un ln most ps), .int .i64 (Mo.first [Mo.when false 2, Mo.allw ms (-1000) 1000])] 32)) := (Below.refl _ _).alloc (Nat.le_refl _) _
 have k1 : (w5.alloc (Obj.cells #[.int .i64 (Mo.surv c r l un ln most ps), .int .i64 (Mo.first [Mo.when false 2, Mo.allw ms (-1000) 1000])] 32)).heap[w5.heap.size]? = some (Obj.cells #[.int .i64 (Mo.surv c r l un ln most ps), .int .i64 (Mo.first [Mo.when false 2, Mo.allw ms (-1000) 1000])] 32) := heap_new rfl
 refine hK _ _ (hC.alloc hC.size _) ?_
 clear hK K
 replace hC := hC.call hb rfl
 have hB6 := hB5.call hb rfl
 replace hT0 := blkb hT0 hb
 replace hT1 := blkb hT1 hb
 replace H := H.below hb
 replace HP := HP.below hb
 replace HM := HM.below hb
 replace hst := hst.below hb
 clear hb hB5
 generalize hWn : w5.alloc (Obj.cells #[.int .i64 (Mo.surv c r l un ln most ps), .int .i64 (Mo.first [Mo.when false 2, Mo.allw ms (-1000) 1000])] 32) = w6 at k1 hC hB6 hT0 hT1 H HP HM hst ⊢
 clear hWn
 generalize hWn : w5.heap.size = bk1 at k1 ⊢
 clear hWn
 try simp only [Act.put, List.setIfInBounds_toArray, List.set_cons_zero, List.set_cons_succ]
 refine wpPlanA_hard _ rfl (by rfl) (fun w7 hS K hK => ?_)
 have hB7 := hB6.call hS rfl
 replace hC := hC.call hS rfl
 replace hT0 := blkb hT0 hS
 replace hT1 := blkb hT1 hS
 replace H := H.below hS
 replace HP := HP.below hS
 replace HM := HM.below hS
 replace hst := hst.below hS
 replace k1 := blkb k1 hS
 clear hS hB6
 go_simp
 refine (c89 _ 2 2 [Mo.surv c r l un ln most ps, Mo.first [Mo.when false 2, Mo.allw ms (-1000) 1000]] _ rfl (by omega) (RdS.of_block (cs := encI [Mo.surv c r l un ln most ps, Mo.first [Mo.when false 2, Mo.allw ms (-1000) 1000]]) k1 rfl)).mono ?_
 rintro e w' ⟨rfl, rfl⟩
 refine hK _ _ hC ?_
 clear hK K
 try simp only [Act.put, List.setIfInBounds_toArray, List.set_cons_zero, List.set_cons_succ]
 repeat (first | (refine wpPlanA_skip _ rfl (by rfl) ?_; simp only [Act.put, List.setIfInBounds_toArray, List.set_cons_zero, List.set_cons_succ]) | (refine wpPlanA_soft _ ?_ rfl (by rfl) ?_ ?_; rotate_left; (intro wq hq hcq; go_simp; first | exact rfl | exact ⟨rfl, rfl⟩); simp only [Act.put, List.setIfInBounds_toArray, List.set_cons_zero, List.set_cons_succ]))
 clear k1
 clear qhT0_0 qhT0_1 qhT0_2 qhT1_0 qhT1_1 qhT1_2 qhT1_3
 refine wpPlanA_nil (fun w8 hS => ?_)
 clear hC zhT0 zhT1
 have hB8 := hB7.call hS rfl
 replace hT0 := blkb hT0 hS
 replace hT1 := blkb hT1 hS
 replace H := H.below hS
 replace HP := HP.below hS
 replace HM := HM.below hS
 replace hst := hst.below hS
 clear hS hB7
 have qhT0_0 : w8.cell? ⟨w.heap.size, 0, none⟩ = some (.int .i64 c) := cell_at hT0 rfl
 have qhT0_1 : w8.cell? ⟨w.heap.size, 1, none⟩ = some (.int .i64 r) := cell_at hT0 rfl
 have qhT0_2 : w8.cell? ⟨w.heap.size, 2, none⟩ = some (.slice A n cap) := cell_at hT0 rfl
 have qhT1_0 : w8.cell? ⟨w.heap.size + 1, 0, none⟩ = some (.int .i64 un) := cell_at hT1 rfl
 have qhT1_1 : w8.cell? ⟨w.heap.size + 1, 1, none⟩ = some (.int .i64 (ln : Nat)) := cell_at hT1 rfl
 have qhT1_2 : w8.cell? ⟨w.heap.size + 1, 2, none⟩ = some (.int .i64 most) := cell_at hT1 rfl
 have qhT1_3 : w8.cell? ⟨w.heap.size + 1, 3, none⟩ = some (.slice P np capp) := cell_at hT1 rfl
 rw [HE.out]
 go_wp2_with fail
 go_wp2_with fail
 have hBq := hB8.size
 refine (c91 c r A n cap l un ln most P np capp ps M capm ms _ g hc hr hu hl256 hn16 hcp HCL.out HMB.out H HP HM hst).mono ?_
 rintro e w9 ⟨go, rfl, hgo, hro, hb⟩
 clear qhT0_0 qhT0_1 qhT0_2 qhT1_0 qhT1_1 qhT1_2 qhT1_3
 have hS := hb
 have hB9 := hB8.call hS rfl
 replace hT0 := blkb hT0 hS
 replace hT1 := blkb hT1 hS
 replace H := H.below hS
 replace HP := HP.below hS
 replace HM := HM.below hS
 replace hst := hst.below hS
 clear hS hB8
 have qhT0_0 : w9.cell? ⟨w.heap.size, 0, none⟩ = some (.int .i64 c) := cell_at hT0 rfl
 have qhT0_1 : w9.cell? ⟨w.heap.size, 1, none⟩ = some (.int .i64 r) := cell_at hT0 rfl
 have qhT0_2 : w9.cell? ⟨w.heap.size, 2, none⟩ = some (.slice A n cap) := cell_at hT0 rfl
 have qhT1_0 : w9.cell? ⟨w.heap.size + 1, 0, none⟩ = some (.int .i64 un) := cell_at hT1 rfl
 have qhT1_1 : w9.cell? ⟨w.heap.size + 1, 1, none⟩ = some (.int .i64 (ln : Nat)) := cell_at hT1 rfl
 have qhT1_2 : w9.cell? ⟨w.heap.size + 1, 2, none⟩ = some (.int .i64 most) := cell_at hT1 rfl
 have qhT1_3 : w9.cell? ⟨w.heap.size + 1, 3, none⟩ = some (.slice P np capp) := cell_at hT1 rfl
 clear hb
 have HRO := Lib.hid (hro.lower hBq)
 have HGO := Lib.hid (Nat.le_trans hBq hgo)
 clear hro
 go_wp2
 go_ret2
 exact ⟨go, rfl, HGO.out, HRO.out, hB9⟩
theorem c50_ok (c r : Nat) (A : Option Addr) (n cap : Nat) (l : List Int) (un : Int) (ln : Nat) (most : Int) (P : Option Addr) (np capp : Nat) (ps : List Pr) (D : Option Addr) (capd : Nat) (d : List (List Int)) (w : World) (g : Im.Gr c r l) (hc : c ≤ 16) (hr : r ≤ 16) (hcp : np ≤ capp) (H : RdI w A n l) (HP : RdP w P np ps) (HD : RdD w D np d) (hst : Steps w) (hE : Mo.dta c r l un ln most ps d = 0) :
  Calls Tryz.prog 50 #[.agg #[.int .i64 c, .int .i64 r, .slice A n cap], .agg #[.int .i64 un, .int .i64 (ln : Nat), .int .i64 most, .slice P np capp], .slice D np capd] w fun en w' => ∃ v, en = .returned (.tuple #[v, .int .i64 0]) ∧ w'.ownsRow w.heap.size 3 1 v n (encI (Im.image n (ps.map (dlp c l un ln most)) d)) ∧ Below w.heap.size w w' := by
 obtain ⟨hS, hml, hsh, hdv⟩ := Mo.dta_zero hE
 obtain ⟨_, hu, hln1, _, hnp, hcl⟩ := surv_ok hS
 have hl : n ≤ 1000000 := by have h1 := H.len; have := g.len; have : c * r ≤ 16 * 16 := Nat.mul_le_mul hc hr; omega
 have hpl := HP.len
 have hp : np ≤ 1000000 := by omega
 have HCL : Hid (∀ p, p ∈ ps → (0 ≤ p.s ∧ p.s < (n : Int)) ∧ (0 ≤ p.r ∧ p.r < (n : Int))) := Lib.hid (fun p hp => by have := hcl p hp; rw [H.len] at this; exact this)
 have hn16 : np ≤ 16 := by omega
 have hl256 : 1 ≤ ln ∧ ln ≤ 256 := by omega
 have hlens : ∀ x, x ∈ d → x.length ≤ 1000000 := fun x hx => by
  obtain ⟨j, hj, hxj⟩ := List.getElem_of_mem hx
  have hjp : j < ps.length := by omega
  have h := hsh j ps[j] x (List.getElem?_eq_getElem hjp) (by rw [← hxj]; exact List.getElem?_eq_getElem hj)
  unfold Mo.okT at h
  split at h <;> omega
 have HLE := Lib.hid hlens
 have HSH := Lib.hid hsh
 have HDV := Lib.hid hdv
 have HE : Hid (Mo.first [Mo.surv c r l un ln most ps, Mo.dat ln ps d] = 0) := Lib.hid hE
 clear hE hS hml hsh hdv hcl hpl hnp hlens
 obtain ⟨w0, hW⟩ : ∃ W, W = (w.alloc (Obj.cells #[.int .i64 c, .int .i64 r, .slice A n cap] 35)).alloc (Obj.cells #[.int .i64 un, .int .i64 (ln : Nat), .int .i64 most, .slice P np capp] 39) := ⟨_, rfl⟩
 have hT0 : w0.heap[w.heap.size]? = some (.cells #[.int .i64 c, .int .i64 r, .slice A n cap] 35 (0, 0)) := by rw [hW]; exact heap_old (by simp <;> omega) (heap_new (by simp))
 have hT1 : w0.heap[w.heap.size + 1]? = some (.cells #[.int .i64 un, .int .i64 (ln : Nat), .int .i64 most, .slice P np capp] 39 (0, 0)) := by rw [hW]; exact heap_new (by simp)
 have hB0 : Below w.heap.size w w0 := by rw [hW]; exact (((Below.refl _ _).alloc (by first | omega | (simp <;> omega)) _).alloc (by first | omega | (simp <;> omega)) _)
 replace H := H.below hB0
 replace HP := HP.below hB0
 replace HD := HD.below hB0
 replace hst := hst.below hB0
 go_enter Tryz.func50, Tryz.ntmps50
 go_wp2_with fail
 rw [← hW]
 clear hW
 have qhT0_0 : w0.cell? ⟨w.heap.size, 0, none⟩ = some (.int .i64 c) := cell_at hT0 rfl
 have qhT0_1 : w0.cell? ⟨w.heap.size, 1, none⟩ = some (.int .i64 r) := cell_at hT0 rfl
 have qhT0_2 : w0.cell? ⟨w.heap.size, 2, none⟩ = some (.slice A n cap) := cell_at hT0 rfl
 have qhT1_0 : w0.cell? ⟨w.heap.size + 1, 0, none⟩ = some (.int .i64 un) := cell_at hT1 rfl
 have qhT1_1 : w0.cell? ⟨w.heap.size + 1, 1, none⟩ = some (.int .i64 (ln : Nat)) := cell_at hT1 rfl
 have qhT1_2 : w0.cell? ⟨w.heap.size + 1, 2, none⟩ = some (.int .i64 most) := cell_at hT1 rfl
 have qhT1_3 : w0.cell? ⟨w.heap.size + 1, 3, none⟩ = some (.slice P np capp) := cell_at hT1 rfl
 go_wp2_with fail
 refine (c102 c r A n cap l un ln most P np capp ps D np capd d _ hl hp hp HLE.out HP HD H).mono ?_
 rintro e w1 ⟨rfl, hb⟩
 clear qhT0_0 qhT0_1 qhT0_2 qhT1_0 qhT1_1 qhT1_2 qhT1_3
 have hS := hb
 have hB1 := hB0.call hS rfl
 replace hT0 := blkb hT0 hS
 replace hT1 := blkb hT1 hS
 replace H := H.below hS
 replace HP := HP.below hS
 replace HD := HD.below hS
 replace hst := hst.below hS
 clear hS hB0
 have qhT0_0 : w1.cell? ⟨w.heap.size, 0, none⟩ = some (.int .i64 c) := cell_at hT0 rfl
 have qhT0_1 : w1.cell? ⟨w.heap.size, 1, none⟩ = some (.int .i64 r) := cell_at hT0 rfl
 have qhT0_2 : w1.cell? ⟨w.heap.size, 2, none⟩ = some (.slice A n cap) := cell_at hT0 rfl
 have qhT1_0 : w1.cell? ⟨w.heap.size + 1, 0, none⟩ = some (.int .i64 un) := cell_at hT1 rfl
 have qhT1_1 : w1.cell? ⟨w.heap.size + 1, 1, none⟩ = some (.int .i64 (ln : Nat)) := cell_at hT1 rfl
 have qhT1_2 : w1.cell? ⟨w.heap.size + 1, 2, none⟩ = some (.int .i64 most) := cell_at hT1 rfl
 have qhT1_3 : w1.cell? ⟨w.heap.size + 1, 3, none⟩ = some (.slice P np capp) := cell_at hT1 rfl
 clear hb
 rw [HE.out]
 go_wp2_with fail
 go_wp2_with fail
 have hBq := hB1.size
 refine (c104 c r A n cap l un ln most P np capp ps D capd d _ g hc hr hu hl256 hn16 hcp HCL.out HSH.out HDV.out H HP HD hst).mono ?_
 rintro e w2 ⟨vo, rfl, hro, hb⟩
 clear qhT0_0 qhT0_1 qhT0_2 qhT1_0 qhT1_1 qhT1_2 qhT1_3
 have hS := hb
 have hB2 := hB1.call hS rfl
 replace hT0 := blkb hT0 hS
 replace hT1 := blkb hT1 hS
 replace H := H.below hS
 replace HP := HP.below hS
 replace HD := HD.below hS
 replace hst := hst.below hS
 clear hS hB1
 have qhT0_0 : w2.cell? ⟨w.heap.size, 0, none⟩ = some (.int .i64 c) := cell_at hT0 rfl
 have qhT0_1 : w2.cell? ⟨w.heap.size, 1, none⟩ = some (.int .i64 r) := cell_at hT0 rfl
 have qhT0_2 : w2.cell? ⟨w.heap.size, 2, none⟩ = some (.slice A n cap) := cell_at hT0 rfl
 have qhT1_0 : w2.cell? ⟨w.heap.size + 1, 0, none⟩ = some (.int .i64 un) := cell_at hT1 rfl
 have qhT1_1 : w2.cell? ⟨w.heap.size + 1, 1, none⟩ = some (.int .i64 (ln : Nat)) := cell_at hT1 rfl
 have qhT1_2 : w2.cell? ⟨w.heap.size + 1, 2, none⟩ = some (.int .i64 most) := cell_at hT1 rfl
 have qhT1_3 : w2.cell? ⟨w.heap.size + 1, 3, none⟩ = some (.slice P np capp) := cell_at hT1 rfl
 clear hb
 have HRO := Lib.hid (own_lower hro hBq)
 clear hro
 go_wp2
 go_ret2
 exact ⟨vo, rfl, HRO.out, hB2⟩
end Go.Proofs.YtdimmlljjmmdbaaGreatDoor
namespace Go.Proofs.YtdimmlljjmmdbaaGreatDoor
open Go.RowKit
set_option maxHeartbeats 4000000
set_option maxRecDepth 20000
namespace Mo
theorem first_app {E : Int} (h : E ≠ 0) (ys : List Int) : ∀ xs : List Int, first xs = E → first (xs ++ ys) = E
 | [], e => absurd e.symm h
 | x :: xs, e => by
  rw [first_cons] at e
  rw [List.cons_append, first_cons]
  by_cases hx : x = 0
  ·rw [if_neg (by simp [hx])] at e ⊢
   exact first_app h ys xs e
  ·rw [if_pos (by simpa using hx)] at e ⊢
   exact e
theorem surv_a {c r : Int} {l : List Int} {un len most : Int} {ps : List Pr} {E : Int} (hE : first [ground c r l, range un 1 1000, range len 1 256, range most 0 256] = E) (h : E ≠ 0) : surv c r l un len most ps = E := by
 have e : surv0 c r l un len most ps.length = E := first_app h [when (decide (16 < (ps.length : Int))) 5] _ hE
 unfold surv
 rw [e, first_nz h]
theorem surv_b {c r : Int} {l : List Int} {un len most : Int} {ps : List Pr} (hE : first [ground c r l, range un 1 1000, range len 1 256, range most 0 256] = 0) (h : 16 < ps.length) : surv c r l un len most ps = 5 := by
 have h1 := first_zero hE
 have e1 := h1 (ground c r l) (by simp)
 have e2 := h1 (range un 1 1000) (by simp)
 have e3 := h1 (range len 1 256) (by simp)
 have e4 := h1 (range most 0 256) (by simp)
 have e5 : decide (16 < (ps.length : Int)) = true := by simp; omega
 unfold surv surv0
 rw [e1, e2, e3, e4, e5]; rfl
theorem surv_c {c r : Int} {l : List Int} {un len most : Int} {ps : List Pr} (hE : first [ground c r l, range un 1 1000, range len 1 256, range most 0 256] = 0) (h : ¬ 16 < ps.length) : surv c r l un len most ps = first (ps.map (pair l.length)) := by
 have h1 := first_zero hE
 have e1 := h1 (ground c r l) (by simp)
 have e2 := h1 (range un 1 1000) (by simp)
 have e3 := h1 (range len 1 256) (by simp)
 have e4 := h1 (range most 0 256) (by simp)
 have e5 : decide (16 < (ps.length : Int)) = false := by simp; omega
 unfold surv surv0
 rw [e1, e2, e3, e4, e5]
 have : first [0, 0, 0, 0, when false 5] = 0 := rfl
 rw [this, first_z rfl, first_one]
end Mo
def ShP (Q : Prop) (e : Ending) : Prop := ∃ b : Bool, e = .returned (.bool b) ∧ (b = true → Q)
theorem c16 (c r : Int) (A : Option Addr) (n cap : Nat) (w : World) :
  Calls Tryz.prog 16 #[.agg #[.int .i64 c, .int .i64 r, .slice A n cap]] w fun en w' => ShP (n ≤ 30) en ∧ Below w.heap.size w w' := by
 have hB : Below w.heap.size w (w.alloc (Obj.cells #[.int .i64 c, .int .i64 r, .slice A n cap] 24)) := (Below.refl _ _).alloc (Nat.le_refl _) _
 go_enter Tryz.func16, Tryz.ntmps16
 go_wp2
 all_goals go_ret
 all_goals exact ⟨⟨_, rfl, by simp <;> omega⟩, hB⟩
theorem c17 (un len most : Int) (P : Option Addr) (np capp : Nat) (w : World) :
  Calls Tryz.prog 17 #[.agg #[.int .i64 un, .int .i64 len, .int .i64 most, .slice P np capp]] w fun en w' => ShP (np ≤ 17) en ∧ Below w.heap.size w w' := by
 have hB : Below w.heap.size w (w.alloc (Obj.cells #[.int .i64 un, .int .i64 len, .int .i64 most, .slice P np capp] 27)) := (Below.refl _ _).alloc (Nat.le_refl _) _
 go_enter Tryz.func17, Tryz.ntmps17
 go_wp2
 all_goals go_ret
 all_goals exact ⟨⟨_, rfl, by simp <;> omega⟩, hB⟩
theorem c26 (c r : Int) (A : Option Addr) (n cap : Nat) (l : List Int) (un len most : Int) (P : Option Addr) (np capp : Nat) (ps : List Pr) (w : World) (hl : n ≤ 1000000) (hp : np ≤ 1000000) (H : RdI w A n l) (HP : RdP w P np ps) :
  Calls Tryz.prog 26 #[.agg #[.int .i64 c, .int .i64 r, .slice A n cap], .agg #[.int .i64 un, .int .i64 len, .int .i64 most, .slice P np capp]] w fun en w' => en = .returned (.int .i64 (Mo.surv c r l un len most ps)) ∧ Below w.heap.size w w' := by
 have HLN := Lib.hid H.len
 have HPN := Lib.hid HP.len
 obtain ⟨E, hE⟩ : ∃ E, E = Mo.first [Mo.ground c r l, Mo.range un 1 1000, Mo.range len 1 256, Mo.range most 0 256] := ⟨_, rfl⟩
 obtain ⟨V, hV⟩ : ∃ V, V = Mo.surv c r l un len most ps := ⟨_, rfl⟩
 have HE := Lib.hid hE
 have HA : Hid (E ≠ 0 → V = E) := Lib.hid (fun h => by rw [hV, Mo.surv_a hE.symm h])
 have HC1 : Hid (E = 0 → 16 < np → V = 5) := Lib.hid (fun h h2 => by rw [hV, Mo.surv_b (by rw [← hE, h]) (by rw [HPN.out]; exact h2)])
 have HC2 : Hid (E = 0 → ¬ 16 < np → V = Mo.first (ps.map (Mo.pair n))) := Lib.hid (fun h h2 => by rw [hV, Mo.surv_c (by rw [← hE, h]) (by rw [HPN.out]; exact h2), HLN.out])
 rw [← hV]
 clear hE hV
 obtain ⟨w0, hW⟩ : ∃ W, W = (w.alloc (Obj.cells #[.int .i64 c, .int .i64 r, .slice A n cap] 24)).alloc (Obj.cells #[.int .i64 un, .int .i64 len, .int .i64 most, .slice P np capp] 27) := ⟨_, rfl⟩
 have hT0 : w0.heap[w.heap.size]? = some (.cells #[.int .i64 c, .int .i64 r, .slice A n cap] 24 (0, 0)) := by rw [hW]; exact heap_old (by simp <;> omega) (heap_new (by simp))
 have hT1 : w0.heap[w.heap.size + 1]? = some (.cells #[.int .i64 un, .int .i64 len, .int .i64 most, .slice P np capp] 27 (0, 0)) := by rw [hW]; exact heap_new (by simp)
 have hB0 : Below w.heap.size w w0 := by rw [hW]; exact (((Below.refl _ _).alloc (by first | omega | (simp <;> omega)) _).alloc (by first | omega | (simp <;> omega)) _)
 replace H := H.below hB0
 replace HP := HP.below hB0
 go_enter Tryz.func26, Tryz.ntmps26
 go_wp2_with fail
 rw [← hW]
 clear hW
 have qhT0_0 : w0.cell? ⟨w.heap.size, 0, none⟩ = some (.int .i64 c) := cell_at hT0 rfl
 have qhT0_1 : w0.cell? ⟨w.heap.size, 1, none⟩ = some (.int .i64 r) := cell_at hT0 rfl
 have qhT0_2 : w0.cell? ⟨w.heap.size, 2, none⟩ = some (.slice A n cap) := cell_at hT0 rfl
 have qhT1_0 : w0.cell? ⟨w.heap.size + 1, 0, none⟩ = some (.int .i64 un) := cell_at hT1 rfl
 have qhT1_1 : w0.cell? ⟨w.heap.size + 1, 1, none⟩ = some (.int .i64 len) := cell_at hT1 rfl
 have qhT1_2 : w0.cell? ⟨w.heap.size + 1, 2, none⟩ = some (.int .i64 most) := cell_at hT1 rfl
 have qhT1_3 : w0.cell? ⟨w.heap.size + 1, 3, none⟩ = some (.slice P np capp) := cell_at hT1 rfl
 refine wp_region_plan [(0, true), (2, true), (3, true), (5, true), (6, true), (8, true), (9, true), (1, false), (4, false), (7, false), (10, false), (11, false), (12, false), (13, true)] w0.heap.size (by kernel_rfl) (by kernel_rfl) (Nat.le_refl _) (fun _ _ d _ _ h => by cases d <;> exact h) ?_
 have hC : Below w0.heap.size w0 w0 := Below.refl _ _
 have zhT0 : w.heap.size < w0.heap.size := (Array.getElem?_eq_some_iff.1 hT0).1
 have zhT1 : w.heap.size + 1 < w0.heap.size := (Array.getElem?_eq_some_iff.1 hT1).1
 repeat (first | (refine wpPlanA_skip _ rfl (by rfl) ?_; simp only [Act.put, List.setIfInBounds_toArray, List.set_cons_zero, List.set_cons_succ]) | (refine wpPlanA_soft _ ?_ rfl (by rfl) ?_ ?_; rotate_left; (intro wq hq hcq; go_simp; first | exact rfl | exact ⟨rfl, rfl⟩); simp only [Act.put, List.setIfInBounds_toArray, List.set_cons_zero, List.set_cons_succ]))
 refine wpPlanA_hard _ rfl (by rfl) (fun w1 hS K hK => ?_)
 have hB1 := hB0.call hS rfl
 replace hC := hC.call hS rfl
 replace hT0 := blkb hT0 hS
 replace hT1 := blkb hT1 hS
 replace H := H.below hS
 replace HP := HP.below hS
 clear hS hB0
 go_simp
 refine (c65 c r A n cap l _ hl H).mono ?_
 rintro e w2 ⟨rfl, hb⟩
 have hB2 := hB1.call hb rfl
 replace hC := hC.call hb rfl
 replace hT0 := blkb hT0 hb
 replace hT1 := blkb hT1 hb
 replace H := H.below hb
 replace HP := HP.below hb
 clear hb hB1
 refine hK _ _ hC ?_
 clear hK K
 try simp only [Act.put, List.setIfInBounds_toArray, List.set_cons_zero, List.set_cons_succ]
 refine wpPlanA_hard _ rfl (by rfl) (fun w3 hS K hK => ?_)
 have hB3 := hB2.call hS rfl
 replace hC := hC.call hS rfl
 replace hT0 := blkb hT0 hS
 replace hT1 := blkb hT1 hS
 replace H := H.below hS
 replace HP := HP.below hS
 clear hS hB2
 go_simp
 refine (c42 un 1 1000 _).mono ?_
 rintro e w' ⟨rfl, rfl⟩
 refine hK _ _ hC ?_
 clear hK K
 try simp only [Act.put, List.setIfInBounds_toArray, List.set_cons_zero, List.set_cons_succ]
 refine wpPlanA_hard _ rfl (by rfl) (fun w4 hS K hK => ?_)
 have hB4 := hB3.call hS rfl
 replace hC := hC.call hS rfl
 replace hT0 := blkb hT0 hS
 replace hT1 := blkb hT1 hS
 replace H := H.below hS
 replace HP := HP.below hS
 clear hS hB3
 go_simp
 refine (c42 len 1 256 _).mono ?_
 rintro e w' ⟨rfl, rfl⟩
 refine hK _ _ hC ?_
 clear hK K
 try simp only [Act.put, List.setIfInBounds_toArray, List.set_cons_zero, List.set_cons_succ]
 refine wpPlanA_hard _ rfl (by rfl) (fun w5 hS K hK => ?_)
 have hB5 := hB4.call hS rfl
 replace hC := hC.call hS rfl
 replace hT0 := blkb hT0 hS
 replace hT1 := blkb hT1 hS
 replace H := H.below hS
 replace HP := HP.below hS
 clear hS hB4
 go_simp
 refine (c42 most 0 256 _).mono ?_
 rintro e w' ⟨rfl, rfl⟩
 refine hK _ _ hC ?_
 clear hK K
 try simp only [Act.put, List.setIfInBounds_toArray, List.set_cons_zero, List.set_cons_succ]
 refine wpPlanA_hard _ rfl (by rfl) (fun w6 hS K hK => ?_)
 have hB6 := hB5.call hS rfl
 replace hC := hC.call hS rfl
 replace hT0 := blkb hT0 hS
 replace hT1 := blkb hT1 hS
 replace H := H.below hS
 replace HP := HP.below hS
 clear hS hB5
 go_simp
 have hb : Below w6.heap.size w6 (w6.alloc (Obj.cells #[.int .i64 (Mo.ground c r l), .int .i64 (Mo.range un 1 1000), .int .i64 (Mo.range len 1 256), .int .i64 (Mo.range most 0 256)] 3)) := (Below.refl _ _).alloc (Nat.le_refl _) _
 have k1 : (w6.alloc (Obj.cells #[.int .i64 (Mo.ground c r l), .int .i64 (Mo.range un 1 1000), .int .i64 (Mo.range len 1 256), .int .i64 (Mo.range most 0 256)] 3)).heap[w6.heap.size]? = some (Obj.cells #[.int .i64 (Mo.ground c r l), .int .i64 (Mo.range un 1 1000), .int .i64 (Mo.range len 1 256), .int .i64 (Mo.range most 0 256)] 3) := heap_new rfl
 refine hK _ _ (hC.alloc hC.size _) ?_
 clear hK K
 replace hC := hC.call hb rfl
 have hB7 := hB6.call hb rfl
 replace hT0 := blkb hT0 hb
 replace hT1 := blkb hT1 hb
 replace H := H.below hb
 replace HP := HP.below hb
 clear hb hB6
 generalize hWn : w6.alloc (Obj.cells #[.int .i64 (Mo.ground c r l), .int .i64 (Mo.range un 1 1000), .int .i64 (Mo.range len 1 256), .int .i64 (Mo.range most 0 256)] 3) = w7 at k1 hC hB7 hT0 hT1 H HP ⊢
 clear hWn
 generalize hWn : w6.heap.size = bk1 at k1 ⊢
 clear hWn
 try simp only [Act.put, List.setIfInBounds_toArray, List.set_cons_zero, List.set_cons_succ]
 refine wpPlanA_hard _ rfl (by rfl) (fun w8 hS K hK => ?_)
 have hB8 := hB7.call hS rfl
 replace hC := hC.call hS rfl
 replace hT0 := blkb hT0 hS
 replace hT1 := blkb hT1 hS
 replace H := H.below hS
 replace HP := HP.below hS
 replace k1 := blkb k1 hS
 clear hS hB7
 go_simp
 refine (c98 _ 4 4 [Mo.ground c r l, Mo.range un 1 1000, Mo.range len 1 256, Mo.range most 0 256] _ rfl (by omega) (RdS.of_block (cs := encI [Mo.ground c r l, Mo.range un 1 1000, Mo.range len 1 256, Mo.range most 0 256]) k1 rfl)).mono ?_
 rintro e w' ⟨rfl, rfl⟩
 refine hK _ _ hC ?_
 clear hK K
 try simp only [Act.put, List.setIfInBounds_toArray, List.set_cons_zero, List.set_cons_succ]
 repeat (first | (refine wpPlanA_skip _ rfl (by rfl) ?_; simp only [Act.put, List.setIfInBounds_toArray, List.set_cons_zero, List.set_cons_succ]) | (refine wpPlanA_soft _ ?_ rfl (by rfl) ?_ ?_; rotate_left; (intro wq hq hcq; go_simp; first | exact rfl | exact ⟨rfl, rfl⟩); simp only [Act.put, List.setIfInBounds_toArray, List.set_cons_zero, List.set_cons_succ]))
 clear k1
 clear qhT0_0 qhT0_1 qhT0_2 qhT1_0 qhT1_1 qhT1_2 qhT1_3
 refine wpPlanA_nil (fun w9 hS => ?_)
 clear hC zhT0 zhT1
 have hB9 := hB8.call hS rfl
 replace hT0 := blkb hT0 hS
 replace hT1 := blkb hT1 hS
 replace H := H.below hS
 replace HP := HP.below hS
 clear hS hB8
 have qhT0_0 : w9.cell? ⟨w.heap.size, 0, none⟩ = some (.int .i64 c) := cell_at hT0 rfl
 have qhT0_1 : w9.cell? ⟨w.heap.size, 1, none⟩ = some (.int .i64 r) := cell_at hT0 rfl
 have qhT0_2 : w9.cell? ⟨w.heap.size, 2, none⟩ = some (.slice A n cap) := cell_at hT0 rfl
 have qhT1_0 : w9.cell? ⟨w.heap.size + 1, 0, none⟩ = some (.int .i64 un) := cell_at hT1 rfl
 have qhT1_1 : w9.cell? ⟨w.heap.size + 1, 1, none⟩ = some (.int .i64 len) := cell_at hT1 rfl
 have qhT1_2 : w9.cell? ⟨w.heap.size + 1, 2, none⟩ = some (.int .i64 most) := cell_at hT1 rfl
 have qhT1_3 : w9.cell? ⟨w.heap.size + 1, 3, none⟩ = some (.slice P np capp) := cell_at hT1 rfl
 rw [← HE.out]
 by_cases hE0 : E = 0
 rotate_left
 ·
   have hef : (E != 0) = true := by simpa using hE0
   have HAE := Lib.hid (HA.out hE0)
   clear hE0
   go_wp2
   go_ret
   exact ⟨ret_int HAE.out.symm, hB9⟩
 have hef : (E != 0) = false := by simp [hE0]
 by_cases h16 : 16 < np
 ·
   have hd16 : decide ((16 : Int) < (np : Int)) = true := by simp; omega
   have HAE := Lib.hid (HC1.out hE0 h16)
   clear hE0
   go_wp2
   go_ret
   exact ⟨ret_int HAE.out.symm, hB9⟩
 have hd16 : decide ((16 : Int) < (np : Int)) = false := by simp; omega
 have HV := Lib.hid (HC2.out hE0 h16)
 clear hE0
 have hst0 : Hid (V = Mo.first ((ps.map (Mo.pair n)).drop 0)) := Lib.hid HV.out
 go_wp2_with fail
 go_loopw [6] (fun i wr => ∃ k : Nat, k ≤ np ∧ i = .int .i64 k ∧ Hid (V = Mo.first ((ps.map (Mo.pair n)).drop k)) ∧ Below w9.heap.size w9 wr) (fun i _ => np - (intOf i).toNat)
 case atStart => exact ⟨0, Nat.zero_le _, rfl, hst0, Below.refl _ _⟩
 case round =>
  clear hst0
  obtain ⟨k, hk, rfl, HVK, hbr⟩ := hrel
  obtain ⟨w10, hww⟩ : ∃ W, W = wr := ⟨_, rfl⟩
  subst hww
  have hB10 := hB9.call hbr rfl
  replace hT0 := blkb hT0 hbr
  replace hT1 := blkb hT1 hbr
  replace H := H.below hbr
  replace HP := HP.below hbr
  clear hB9
  have qhT0_0 : w10.cell? ⟨w.heap.size, 0, none⟩ = some (.int .i64 c) := cell_at hT0 rfl
  have qhT0_1 : w10.cell? ⟨w.heap.size, 1, none⟩ = some (.int .i64 r) := cell_at hT0 rfl
  have qhT0_2 : w10.cell? ⟨w.heap.size, 2, none⟩ = some (.slice A n cap) := cell_at hT0 rfl
  have qhT1_0 : w10.cell? ⟨w.heap.size + 1, 0, none⟩ = some (.int .i64 un) := cell_at hT1 rfl
  have qhT1_1 : w10.cell? ⟨w.heap.size + 1, 1, none⟩ = some (.int .i64 len) := cell_at hT1 rfl
  have qhT1_2 : w10.cell? ⟨w.heap.size + 1, 2, none⟩ = some (.int .i64 most) := cell_at hT1 rfl
  have qhT1_3 : w10.cell? ⟨w.heap.size + 1, 3, none⟩ = some (.slice P np capp) := cell_at hT1 rfl
  have hwk : IntKind.i64.wrap ((k : Int) + 1) = ((k + 1 : Nat) : Int) := by rw [wrapI (by omega)]; simp
  by_cases hlt : k < np
  rotate_left
  ·
    obtain rfl : np = k := by omega
    have HV0 : Hid (V = 0) := Lib.hid (by
     rw [HVK.out, List.drop_of_length_le (by rw [List.length_map, HPN.out]; exact Nat.le_refl _)]; rfl)
    go_wp2
    go_ret
    exact ⟨ret_int HV0.out.symm, hB10⟩
  have hkm2 : (k : Int) < (np : Int) := by omega
  have hk02 : (0 : Int) ≤ (k : Int) := by omega
  obtain ⟨pb, poff, p, rfl, hpx, hpb, hp0, hp1, hp2⟩ := HP.at hlt
  have HPX := Lib.hid hpx
  have HST : Hid (V = if Mo.pair n p ≠ 0 then Mo.pair n p else Mo.first ((ps.map (Mo.pair n)).drop (k + 1))) := Lib.hid (by
   rw [HVK.out, Mo.first_drop _ k (by rw [List.length_map, HPN.out]; exact hlt)]
   have : (ps.map (Mo.pair n))[k]'(by rw [List.length_map, HPN.out]; exact hlt) = Mo.pair n p := by
    have h := List.getElem?_eq_some_iff.1 hpx
    obtain ⟨h1, h2⟩ := h
    simp [h2]
   rw [this])
  clear hpx hp2
  go_wp2_with fail
  refine wp_region_plan [(0, true), (1, true), (2, true), (3, true), (4, true), (5, true), (6, true), (8, true), (9, true), (10, true), (11, true), (12, true), (13, true), (14, true), (7, false), (15, false), (16, false), (17, false), (18, true)] w10.heap.size (by kernel_rfl) (by kernel_rfl) (Nat.le_refl _) (fun _ _ d _ _ h => by cases d <;> exact h) ?_
  have hC : Below w10.heap.size w10 w10 := Below.refl _ _
  have zhT0 : w.heap.size < w10.heap.size := (Array.getElem?_eq_some_iff.1 hT0).1
  have zhT1 : w.heap.size + 1 < w10.heap.size := (Array.getElem?_eq_some_iff.1 hT1).1
  repeat (first | (refine wpPlanA_skip _ rfl (by rfl) ?_; simp only [Act.put, List.setIfInBounds_toArray, List.set_cons_zero, List.set_cons_succ]) | (refine wpPlanA_soft _ ?_ rfl (by rfl) ?_ ?_; rotate_left; (intro wq hq hcq; go_simp; first | exact rfl | exact ⟨rfl, rfl⟩); simp only [Act.put, List.setIfInBounds_toArray, List.set_cons_zero, List.set_cons_succ]))
  refine wpPlanA_hard _ rfl (by rfl) (fun w11 hS K hK => ?_)
  have hB11 := hB10.call hS rfl
  replace hC := hC.call hS rfl
  replace hT0 := blkb hT0 hS
  replace hT1 := blkb hT1 hS
  replace H := H.below hS
  replace HP := HP.below hS
  replace hbr := hbr.call hS rfl
  clear hS hB10
  go_simp
  refine (c47 c r A n cap p.s _).mono ?_
  rintro e w12 ⟨rfl, hb⟩
  have hB12 := hB11.call hb rfl
  replace hC := hC.call hb rfl
  replace hT0 := blkb hT0 hb
  replace hT1 := blkb hT1 hb
  replace H := H.below hb
  replace HP := HP.below hb
  replace hbr := hbr.call hb rfl
  clear hb hB11
  refine hK _ _ hC ?_
  clear hK K
  try simp only [Act.put, List.setIfInBounds_toArray, List.set_cons_zero, List.set_cons_succ]
  refine wpPlanA_hard _ rfl (by rfl) (fun w13 hS K hK => ?_)
  have hB13 := hB12.call hS rfl
  replace hC := hC.call hS rfl
  replace hT0 := blkb hT0 hS
  replace hT1 := blkb hT1 hS
  replace H := H.below hS
  replace HP := HP.below hS
  replace hbr := hbr.call hS rfl
  clear hS hB12
  go_simp
  refine (c47 c r A n cap p.r _).mono ?_
  rintro e w14 ⟨rfl, hb⟩
  have hB14 := hB13.call hb rfl
  replace hC := hC.call hb rfl
  replace hT0 := blkb hT0 hb
  replace hT1 := blkb hT1 hb
  replace H := H.below hb
  replace HP := HP.below hb
  replace hbr := hbr.call hb rfl
  clear hb hB13
  refine hK _ _ hC ?_
  clear hK K
  try simp only [Act.put, List.setIfInBounds_toArray, List.set_cons_zero, List.set_cons_succ]
  refine wpPlanA_hard _ rfl (by rfl) (fun w15 hS K hK => ?_)
  have hB15 := hB14.call hS rfl
  replace hC := hC.call hS rfl
  replace hT0 := blkb hT0 hS
  replace hT1 := blkb hT1 hS
  replace H := H.below hS
  replace HP := HP.below hS
  replace hbr := hbr.call hS rfl
  clear hS hB14
  go_simp
  have hb : Below w15.heap.size w15 (w15.alloc (Obj.cells #[.int .i64 (Mo.cell n p.s), .int .i64 (Mo.cell n p.r)] 3)) := (Below.refl _ _).alloc (Nat.le_refl _) _
  have k1 : (w15.alloc (Obj.cells #[.int .i64 (Mo.cell n p.s), .int .i64 (Mo.cell n p.r)] 3)).heap[w15.heap.size]? = some (Obj.cells #[.int .i64 (Mo.cell n p.s), .int .i64 (Mo.cell n p.r)] 3) := heap_new rfl
  refine hK _ _ (hC.alloc hC.size _) ?_
  clear hK K
  replace hC := hC.call hb rfl
  have hB16 := hB15.call hb rfl
  replace hT0 := blkb hT0 hb
  replace hT1 := blkb hT1 hb
  replace H := H.below hb
  replace HP := HP.below hb
  replace hbr := hbr.call hb rfl
  clear hb hB15
  generalize hWn : w15.alloc (Obj.cells #[.int .i64 (Mo.cell n p.s), .int .i64 (Mo.cell n p.r)] 3) = w16 at k1 hC hB16 hT0 hT1 H HP hbr ⊢
  clear hWn
  generalize hWn : w15.heap.size = bk1 at k1 ⊢
  clear hWn
  try simp only [Act.put, List.setIfInBounds_toArray, List.set_cons_zero, List.set_cons_succ]
  refine wpPlanA_hard _ rfl (by rfl) (fun w17 hS K hK => ?_)
  have hB17 := hB16.call hS rfl
  replace hC := hC.call hS rfl
  replace hT0 := blkb hT0 hS
  replace hT1 := blkb hT1 hS
  replace H := H.below hS
  replace HP := HP.below hS
  replace hbr := hbr.call hS rfl
  replace k1 := blkb k1 hS
  clear hS hB16
  go_simp
  refine (c98 _ 2 2 [Mo.cell n p.s, Mo.cell n p.r] _ rfl (by omega) (RdS.of_block (cs := encI [Mo.cell n p.s, Mo.cell n p.r]) k1 rfl)).mono ?_
  rintro e w' ⟨rfl, rfl⟩
  refine hK _ _ hC ?_
  clear hK K
  try simp only [Act.put, List.setIfInBounds_toArray, List.set_cons_zero, List.set_cons_succ]
  repeat (first | (refine wpPlanA_skip _ rfl (by rfl) ?_; simp only [Act.put, List.setIfInBounds_toArray, List.set_cons_zero, List.set_cons_succ]) | (refine wpPlanA_soft _ ?_ rfl (by rfl) ?_ ?_; rotate_left; (intro wq hq hcq; go_simp; first | exact rfl | exact ⟨rfl, rfl⟩); simp only [Act.put, List.setIfInBounds_toArray, List.set_cons_zero, List.set_cons_succ]))
  clear k1
  clear hp0 hp1
  clear qhT0_0 qhT0_1 qhT0_2 qhT1_0 qhT1_1 qhT1_2 qhT1_3
  refine wpPlanA_nil (fun w18 hS => ?_)
  clear hC zhT0 zhT1
  have hB18 := hB17.call hS rfl
  replace hT0 := blkb hT0 hS
  replace hT1 := blkb hT1 hS
  replace H := H.below hS
  replace HP := HP.below hS
  replace hbr := hbr.call hS rfl
  clear hS hB17
  have qhT0_0 : w18.cell? ⟨w.heap.size, 0, none⟩ = some (.int .i64 c) := cell_at hT0 rfl
  have qhT0_1 : w18.cell? ⟨w.heap.size, 1, none⟩ = some (.int .i64 r) := cell_at hT0 rfl
  have qhT0_2 : w18.cell? ⟨w.heap.size, 2, none⟩ = some (.slice A n cap) := cell_at hT0 rfl
  have qhT1_0 : w18.cell? ⟨w.heap.size + 1, 0, none⟩ = some (.int .i64 un) := cell_at hT1 rfl
  have qhT1_1 : w18.cell? ⟨w.heap.size + 1, 1, none⟩ = some (.int .i64 len) := cell_at hT1 rfl
  have qhT1_2 : w18.cell? ⟨w.heap.size + 1, 2, none⟩ = some (.int .i64 most) := cell_at hT1 rfl
  have qhT1_3 : w18.cell? ⟨w.heap.size + 1, 3, none⟩ = some (.slice (some ⟨pb, poff, none⟩) np capp) := cell_at hT1 rfl
  have hpr : Mo.first [Mo.cell n p.s, Mo.cell n p.r] = Mo.pair n p := rfl
  rw [hpr]
  clear hpr
  generalize Mo.pair (n : Int) p = e at HST ⊢
  have HN := Lib.hid hbr
  by_cases he0 : e = 0
  ·
    have hef : (e != 0) = false := by simp [he0]
    have HV2 : Hid (V = Mo.first ((ps.map (Mo.pair n)).drop (k + 1))) := Lib.hid (by rw [HST.out, if_neg (by simp [he0])])
    clear hbr
    go_wp2
    go_roundw
    case rel => exact ⟨k + 1, by omega, rfl, HV2, HN.out⟩
    case measure => simp [intOf]; omega
  have hef2 : (e != 0) = true := by simpa using he0
  have HV2 : Hid (V = e) := Lib.hid (by rw [HST.out, if_pos he0])
  go_wp2
  go_ret
  exact ⟨ret_int HV2.out.symm, hB18⟩
theorem c110_ne (un len most : Int) (P : Option Addr) (np capp : Nat) (ps : List Pr) (D : Option Addr) (m capd : Nat) (d : List (List Int)) (w : World) (hmm : ¬ m = np) (hp : np ≤ 1000000) (hd : m ≤ 1000000) (hdl : ∀ x, x ∈ d → x.length ≤ 1000000) (HP : RdP w P np ps) (HD : RdD w D m d) :
  Calls Tryz.prog 110 #[.agg #[.int .i64 un, .int .i64 len, .int .i64 most, .slice P np capp], .slice D m capd] w fun en w' => en = .returned (.int .i64 (Mo.dat len ps d)) ∧ Below w.heap.size w w' := by
 have HPL := Lib.hid HP.len
 have HDL := Lib.hid HD.len
 have Hdl := Lib.hid hdl
 clear hdl
 obtain ⟨V, hV⟩ : ∃ V, V = Mo.dat len ps d := ⟨_, rfl⟩
 rw [← hV]
 have HV := Lib.hid hV
 clear hV
 have hne : ((m : Int) != (np : Int)) = true := by simp; omega
 have HV2 : Hid (V = 2) := Lib.hid (by rw [HV.out]; exact Mo.dat_len (by rw [HPL.out, HDL.out]; exact hmm))
 clear hmm
 obtain ⟨w0, hW⟩ : ∃ W, W = w.alloc (Obj.cells #[.int .i64 un, .int .i64 len, .int .i64 most, .slice P np capp] 27) := ⟨_, rfl⟩
 have hT0 : w0.heap[w.heap.size]? = some (.cells #[.int .i64 un, .int .i64 len, .int .i64 most, .slice P np capp] 27 (0, 0)) := by rw [hW]; exact heap_new (by simp)
 have hB0 : Below w.heap.size w w0 := by rw [hW]; exact ((Below.refl _ _).alloc (by first | omega | (simp <;> omega)) _)
 replace HP := HP.below hB0
 replace HD := HD.below hB0
 go_enter Tryz.func110, Tryz.ntmps110
 go_wp2_with fail
 rw [← hW]
 clear hW
 have qhT0_0 : w0.cell? ⟨w.heap.size, 0, none⟩ = some (.int .i64 un) := cell_at hT0 rfl
 have qhT0_1 : w0.cell? ⟨w.heap.size, 1, none⟩ = some (.int .i64 len) := cell_at hT0 rfl
 have qhT0_2 : w0.cell? ⟨w.heap.size, 2, none⟩ = some (.int .i64 most) := cell_at hT0 rfl
 have qhT0_3 : w0.cell? ⟨w.heap.size, 3, none⟩ = some (.slice P np capp) := cell_at hT0 rfl
 go_wp2
 go_ret
 exact ⟨ret_int HV2.out.symm, hB0⟩
theorem c110_eq (un len most : Int) (P : Option Addr) (m capp : Nat) (ps : List Pr) (D : Option Addr) (capd : Nat) (d : List (List Int)) (w : World) (hd : m ≤ 1000000) (hdl : ∀ x, x ∈ d → x.length ≤ 1000000) (HP : RdP w P m ps) (HD : RdD w D m d) :
  Calls Tryz.prog 110 #[.agg #[.int .i64 un, .int .i64 len, .int .i64 most, .slice P m capp], .slice D m capd] w fun en w' => en = .returned (.int .i64 (Mo.dat len ps d)) ∧ Below w.heap.size w w' := by
 have HPL := Lib.hid HP.len
 have HDL := Lib.hid HD.len
 have Hdl := Lib.hid hdl
 clear hdl
 obtain ⟨V, hV⟩ : ∃ V, V = Mo.dat len ps d := ⟨_, rfl⟩
 rw [← hV]
 have HV := Lib.hid hV
 clear hV
 have hne : ((m : Int) != (m : Int)) = false := by simp
 obtain ⟨w0, hW⟩ : ∃ W, W = w.alloc (Obj.cells #[.int .i64 un, .int .i64 len, .int .i64 most, .slice P m capp] 27) := ⟨_, rfl⟩
 have hT0 : w0.heap[w.heap.size]? = some (.cells #[.int .i64 un, .int .i64 len, .int .i64 most, .slice P m capp] 27 (0, 0)) := by rw [hW]; exact heap_new (by simp)
 have hB0 : Below w.heap.size w w0 := by rw [hW]; exact ((Below.refl _ _).alloc (by first | omega | (simp <;> omega)) _)
 replace HP := HP.below hB0
 replace HD := HD.below hB0
 go_enter Tryz.func110, Tryz.ntmps110
 go_wp2_with fail
 rw [← hW]
 clear hW
 have qhT0_0 : w0.cell? ⟨w.heap.size, 0, none⟩ = some (.int .i64 un) := cell_at hT0 rfl
 have qhT0_1 : w0.cell? ⟨w.heap.size, 1, none⟩ = some (.int .i64 len) := cell_at hT0 rfl
 have qhT0_2 : w0.cell? ⟨w.heap.size, 2, none⟩ = some (.int .i64 most) := cell_at hT0 rfl
 have qhT0_3 : w0.cell? ⟨w.heap.size, 3, none⟩ = some (.slice P m capp) := cell_at hT0 rfl
 have hst0 : Hid (∀ (j : Nat) (p : Pr) (x : List Int), j < 0 → ps[j]? = some p → d[j]? = some x → Mo.okT len p x) := Lib.hid (fun j _ _ h => absurd h (Nat.not_lt_zero j))
 go_loopw [5] (fun i wr => ∃ k : Nat, k ≤ m ∧ i = .int .i64 k ∧ Hid (∀ (j : Nat) (p : Pr) (x : List Int), j < k → ps[j]? = some p → d[j]? = some x → Mo.okT len p x) ∧ Below w0.heap.size w0 wr) (fun i _ => m - (intOf i).toNat)
 case atStart => exact ⟨0, Nat.zero_le _, rfl, hst0, Below.refl _ _⟩
 case round =>
  clear hst0
  obtain ⟨k, hk, rfl, HC, hbr⟩ := hrel
  obtain ⟨w1, hww⟩ : ∃ W, W = wr := ⟨_, rfl⟩
  subst hww
  have hB1 := hB0.call hbr rfl
  replace hT0 := blkb hT0 hbr
  replace HP := HP.below hbr
  replace HD := HD.below hbr
  clear hB0
  have qhT0_0 : w1.cell? ⟨w.heap.size, 0, none⟩ = some (.int .i64 un) := cell_at hT0 rfl
  have qhT0_1 : w1.cell? ⟨w.heap.size, 1, none⟩ = some (.int .i64 len) := cell_at hT0 rfl
  have qhT0_2 : w1.cell? ⟨w.heap.size, 2, none⟩ = some (.int .i64 most) := cell_at hT0 rfl
  have qhT0_3 : w1.cell? ⟨w.heap.size, 3, none⟩ = some (.slice P m capp) := cell_at hT0 rfl
  have hwk : IntKind.i64.wrap ((k : Int) + 1) = ((k + 1 : Nat) : Int) := by rw [wrapI (by omega)]; simp
  by_cases hlt : k < m
  rotate_left
  ·
    obtain rfl : m = k := by omega
    have HVF : Hid (V = Mo.first (d.map fun x => Mo.allw x (-1048576) 1048576)) := Lib.hid (by
     rw [HV.out]
     refine Mo.dat_ok (by rw [HPL.out, HDL.out]) (fun j p x hp hx => HC.out j p x ?_ hp hx)
     have : j < d.length := by
      by_cases h : j < d.length
      ·exact h
      ·rw [List.getElem?_eq_none (by omega)] at hx; cases hx
     rw [HDL.out] at this; exact this)
    have hst1 : Hid (V = Mo.first ((d.map fun x => Mo.allw x (-1048576) 1048576).drop 0)) := Lib.hid HVF.out
    clear hwk hlt hk
    go_wp2_with fail
    go_loopw [7] (fun i wr => ∃ k : Nat, k ≤ m ∧ i = .int .i64 k ∧ Hid (V = Mo.first ((d.map fun x => Mo.allw x (-1048576) 1048576).drop k)) ∧ Below w1.heap.size w1 wr) (fun i _ => m - (intOf i).toNat)
    case atStart => exact ⟨0, Nat.zero_le _, rfl, hst1, Below.refl _ _⟩
    case round =>
     clear hst1
     obtain ⟨k, hk, rfl, HVK, hbr2⟩ := hrel
     obtain ⟨w2, hww⟩ : ∃ W, W = wr := ⟨_, rfl⟩
     subst hww
     have hB2 := hB1.call hbr2 rfl
     replace hT0 := blkb hT0 hbr2
     replace HP := HP.below hbr2
     replace HD := HD.below hbr2
     replace hbr := hbr.call hbr2 rfl
     clear hB1
     have qhT0_0 : w2.cell? ⟨w.heap.size, 0, none⟩ = some (.int .i64 un) := cell_at hT0 rfl
     have qhT0_1 : w2.cell? ⟨w.heap.size, 1, none⟩ = some (.int .i64 len) := cell_at hT0 rfl
     have qhT0_2 : w2.cell? ⟨w.heap.size, 2, none⟩ = some (.int .i64 most) := cell_at hT0 rfl
     have qhT0_3 : w2.cell? ⟨w.heap.size, 3, none⟩ = some (.slice P m capp) := cell_at hT0 rfl
     have hwk : IntKind.i64.wrap ((k : Int) + 1) = ((k + 1 : Nat) : Int) := by rw [wrapI (by omega)]; simp
     by_cases hlt : k < m
     rotate_left
     ·
       obtain rfl : m = k := by omega
       have HV0 : Hid (V = 0) := Lib.hid (by
        rw [HVK.out, List.drop_of_length_le (by rw [List.length_map, HDL.out]; exact Nat.le_refl _)]; rfl)
       go_wp2
       go_ret
       exact ⟨ret_int HV0.out.symm, hB2⟩
     have hkm2 : (k : Int) < (m : Int) := by omega
     have hk02 : (0 : Int) ≤ (k : Int) := by omega
     obtain ⟨db, doff, x, xa, xc, rfl, hx, hdb, hdc, hrx⟩ := HD.at hlt
     have HST : Hid (V = if Mo.allw x (-1048576) 1048576 ≠ 0 then Mo.allw x (-1048576) 1048576 else Mo.first ((d.map fun x => Mo.allw x (-1048576) 1048576).drop (k + 1))) := Lib.hid (by
      rw [HVK.out, Mo.first_drop _ k (by rw [List.length_map, HDL.out]; exact hlt)]
      have : (d.map fun x => Mo.allw x (-1048576) 1048576)[k]'(by rw [List.length_map, HDL.out]; exact hlt) = Mo.allw x (-1048576) 1048576 := by
       obtain ⟨h1, h2⟩ := List.getElem?_eq_some_iff.1 hx
       simp [h2]
      rw [this])
     have hxl := Hdl.out x (List.mem_of_getElem? hx)
     clear hx
     go_wp2_with fail
     refine (c92 xa x.length xc x _ _ _ hxl hrx).mono ?_
     rintro e w' ⟨rfl, rfl⟩
     generalize Mo.allw x (-1048576) 1048576 = e at HST ⊢
     have HN := Lib.hid hbr2
     by_cases he0 : e = 0
     ·
       have hef : (e != 0) = false := by simp [he0]
       have HV2 : Hid (V = Mo.first ((d.map fun x => Mo.allw x (-1048576) 1048576).drop (k + 1))) := Lib.hid (by rw [HST.out, if_neg (by simp [he0])])
       clear hbr2
       go_wp2
       go_roundw
       case rel => exact ⟨k + 1, by omega, rfl, HV2, HN.out⟩
       case measure => simp [intOf]; omega
     have hef2 : (e != 0) = true := by simpa using he0
     have HV2 : Hid (V = e) := Lib.hid (by rw [HST.out, if_pos he0])
     go_wp2
     go_ret
     exact ⟨ret_int HV2.out.symm, hB2⟩
  have hkm2 : (k : Int) < (m : Int) := by omega
  have hk02 : (0 : Int) ≤ (k : Int) := by omega
  obtain ⟨db, doff, x, xa, xc, rfl, hx, hdb, hdc, hrx⟩ := HD.at hlt
  obtain ⟨pb, poff, p, rfl, hpx, hpb, hp0, hp1, hp2⟩ := HP.at hlt
  obtain ⟨p0, p1, ph⟩ := p
  have HX := Lib.hid hx
  have HPX := Lib.hid hpx
  clear hx hpx hrx hp0 hp1
  have HN := Lib.hid hbr
  clear hbr
  cases ph
  ·
    by_cases hxl : (x.length : Int) = len
    ·
      have hx1 : ((x.length : Int) != len) = false := by simp [hxl]
      have HXL := Lib.hid hxl
      clear hxl
      have HC2 : Hid (∀ (j : Nat) (p : Pr) (y : List Int), j < k + 1 → ps[j]? = some p → d[j]? = some y → Mo.okT len p y) := Lib.hid (fun j p y hj hp hy => by
       by_cases h : j = k
       ·subst h
        rw [HX.out] at hy; rw [HPX.out] at hp
        cases hy; cases hp
        simp [Mo.okT]; exact HXL.out
       ·exact HC.out j p y (by omega) hp hy)
      go_wp2
      go_roundw
      case rel => exact ⟨k + 1, by omega, rfl, HC2, HN.out⟩
      case measure => simp [intOf]; omega
    ·
      have hx1 : ((x.length : Int) != len) = true := by simpa using hxl
      have HXL := Lib.hid hxl
      clear hxl
      have HV2 : Hid (V = 2) := Lib.hid (by rw [HV.out]; exact Mo.dat_bad HPX.out HX.out (by simp [Mo.okT]; exact HXL.out))
      go_wp2
      go_ret
      exact ⟨ret_int HV2.out.symm, hB1⟩
  ·
    by_cases hxl : x.length = 0
    ·
      have hx1 : ((x.length : Int) != 0) = false := by rw [hxl]; rfl
      have HXL := Lib.hid hxl
      clear hxl
      have HC2 : Hid (∀ (j : Nat) (p : Pr) (y : List Int), j < k + 1 → ps[j]? = some p → d[j]? = some y → Mo.okT len p y) := Lib.hid (fun j p y hj hp hy => by
       by_cases h : j = k
       ·subst h
        rw [HX.out] at hy; rw [HPX.out] at hp
        cases hy; cases hp
        simp only [Mo.okT, if_true]; exact HXL.out
       ·exact HC.out j p y (by omega) hp hy)
      go_wp2
      go_roundw
      case rel => exact ⟨k + 1, by omega, rfl, HC2, HN.out⟩
      case measure => simp [intOf]; omega
    ·
      have hx1 : ((x.length : Int) != 0) = true := by rw [bne_iff_ne]; omega
      have HXL := Lib.hid hxl
      clear hxl
      have HV2 : Hid (V = 2) := Lib.hid (by rw [HV.out]; exact Mo.dat_bad HPX.out HX.out (by simp only [Mo.okT, if_true]; exact HXL.out))
      go_wp2
      go_ret
      exact ⟨ret_int HV2.out.symm, hB1⟩
theorem c110 (un len most : Int) (P : Option Addr) (np capp : Nat) (ps : List Pr) (D : Option Addr) (m capd : Nat) (d : List (List Int)) (w : World) (hp : np ≤ 1000000) (hd : m ≤ 1000000) (hdl : ∀ x, x ∈ d → x.length ≤ 1000000) (HP : RdP w P np ps) (HD : RdD w D m d) : Calls Tryz.prog 110 #[.agg #[.int .i64 un, .int .i64 len, .int .i64 most, .slice P np capp], .slice D m capd] w fun en w' => en = .returned (.int .i64 (Mo.dat len ps d)) ∧ Below w.heap.size w w' := by
 by_cases hmm : m = np
 ·subst hmm
  exact c110_eq un len most P m capp ps D capd d w hd hdl HP HD
 ·exact c110_ne un len most P np capp ps D m capd d w hmm hp hd hdl HP HD
end Go.Proofs.YtdimmlljjmmdbaaGreatDoor
/- A struct stored whole into a block of its own, and loaded whole out of it, whatever its number of cells. -/
namespace Go
open Go.RowKit
theorem setCells_grown (b : Nat) : ∀ (vs : List Value) (o : Nat) (w : World), w.grownBy (w.setCells b o vs) (some b) ∧ (w.setCells b o vs).heap.size = w.heap.size ∧
  ∀ c t f, w.heap[b]? = some (.cells c t f) → ∃ c' : Array Value, (w.setCells b o vs).heap[b]? = some (.cells c' t f) ∧ c'.size = c.size
 | [], o, w => ⟨World.grownBy.refl w _, rfl, fun c t f h => ⟨c, h, rfl⟩⟩
 | v :: r, o, w => by
  obtain ⟨h1, h2, h3⟩ := setCells_grown b r (o + 1) (w.setCell ⟨b, o, none⟩ v)
  have hsz : (w.setCell ⟨b, o, none⟩ v).heap.size = w.heap.size := by simp [World.setCell]
  have hg : w.grownBy (w.setCell ⟨b, o, none⟩ v) (some b) := ⟨rfl, rfl, rfl, by rw [hsz]; exact Nat.le_refl _, fun k _ hk => Below.heap_setCell w ⟨b, o, none⟩ v k (fun e => hk (by rw [e]))⟩
  refine ⟨⟨h1.os.trans hg.os, h1.tape.trans hg.tape, h1.output.trans hg.output, Nat.le_trans hg.size h1.size, fun k hk hne => (h1.block k (by rw [hsz]; exact hk) hne).trans (hg.block k hk hne)⟩, h2.trans hsz, fun c t f hc => ?_⟩
  have : (w.setCell ⟨b, o, none⟩ v).heap[b]? = some (.cells (c.setIfInBounds o v) t f) := by
   simp [World.setCell, Array.getElem?_modify, hc]
  obtain ⟨c', hc', hs'⟩ := h3 _ _ _ this
  exact ⟨c', hc', by rw [hs']; simp⟩
theorem setCells_blk {w : World} {g : Nat} {cs : Array Value} {old : Array Value} {t : TypeId} (hh : w.heap[g]? = some (.cells old t (0, 0))) (hsz : old.size = cs.size) :
  (w.setCells g 0 cs.toList).heap[g]? = some (.cells cs t (0, 0)) := by
 obtain ⟨c', hc', hs'⟩ := (setCells_grown g cs.toList 0 w).2.2 _ _ _ hh
 rw [hc']
 have ht : w.there g 0 cs.toList.length := fun j hj => by
  have hj' : j < old.size := by rw [hsz]; simpa using hj
  constructor
  ·simp [World.cell?, hh, hj']
  ·simp [World.frozen?, hh]
 have hr := World.rangeAt_setCells_same w g 0 cs.toList ht
 have : c' = cs := by
  apply Array.ext_getElem?
  intro j
  rcases Nat.lt_or_ge j cs.size with hj | hj
  ·have := hr j cs[j] (by simp [hj])
   rw [Nat.zero_add] at this
   simp only [World.cell?, hc'] at this
   simpa [hj] using this
  ·rw [Array.getElem?_eq_none hj, Array.getElem?_eq_none (by rw [hs', hsz]; exact hj)]
 rw [this]
section
variable {P : Program}
theorem wp_store_blk {op : Oper} {a : Act} {w : World} {K : Act → World → Prop} {Q : Exit → Act → World → Prop} (ty : TypeId) (x y : Operand) (ho : op.op = .store ty x y)
  (g : Nat) (cs : Array Value) (hx : a.eval x = .pointer (some ⟨g, 0, none⟩)) (hy : a.eval y = .agg cs) {old : Array Value} {t : TypeId} (hh : w.heap[g]? = some (.cells old t (0, 0)))
  (hsz : old.size = cs.size) (hi : (P.info? ty).map (·.size) = some cs.size) (h1 : cs.all (·.oneCell') = true)
  (h : ∀ w', w'.heap[g]? = some (.cells cs t (0, 0)) → w.grownBy w' (some g) → w'.heap.size = w.heap.size → K (a.put op.dst undef) w') : op.wp P a w K Q :=
 wp_store_mid ty x y ho g 0 cs hx hy (fun j hj => by
  have hj' : j < old.size := by rw [hsz]; exact hj
  constructor
  ·simp [World.cell?, hh, hj']
  ·simp [World.frozen?, hh]) hi h1 (h _ (setCells_blk hh hsz) (setCells_grown g _ 0 w).1 (setCells_grown g _ 0 w).2.1)
theorem rangeAt_blk {w : World} {g : Nat} {cs : Array Value} {t : TypeId} {f : Nat × Nat} (hh : w.heap[g]? = some (.cells cs t f)) : w.rangeAt g 0 cs.toList := fun j v hv => by
 simp only [World.cell?, hh, Nat.zero_add]
 simpa using hv
/-- a struct result in a cell of a block -/
theorem run_loadVar_blk {w : World} {g : Nat} {cs : Array Value} {t : TypeId} {f : Nat × Nat} (hh : w.heap[g]? = some (.cells cs t f)) (ty : TypeId) (d : TypeDesc) (hu : P.underlying ty = some d) (hd : d.isRow = true) (hi : (P.info? ty).map (·.size) = some cs.size) :
  (loadVar ty ⟨g, 0, none⟩).run P w = .ok (.agg cs) w := by
 have := run_loadVar_mid (P := P) w g 0 ty cs.toList d (rangeAt_blk hh) hu hd (by simpa using hi)
 simpa using this
theorem results_blk {fn : Func} {a : Tmp} {T : TypeId} (h : fn.results = #[.cell a T]) {tmps : Array Value} {w : World} {g : Nat} {cs : Array Value} {t : TypeId} {f : Nat × Nat} (ha : tmps.getD a undef = .pointer (some ⟨g, 0, none⟩)) (hh : w.heap[g]? = some (.cells cs t f))
  (d : TypeDesc) (hu : P.underlying T = some d) (hd : d.isRow = true) (hi : (P.info? T).map (·.size) = some cs.size) : (results fn tmps).run P w = .ok (.agg cs) w := by
 have hl := run_loadVar_blk (P := P) hh T d hu hd hi
 have ha' : tmps[a]?.getD undef = .pointer (some ⟨g, 0, none⟩) := by simpa using ha
 simp [results, h, ha', asAddr, hl]
theorem results_blk_tmp {fn : Func} {a u : Tmp} {T : TypeId} (h : fn.results = #[.cell a T, .tmp u]) {tmps : Array Value} {w : World} {g : Nat} {cs : Array Value} {t : TypeId} {f : Nat × Nat} (ha : tmps.getD a undef = .pointer (some ⟨g, 0, none⟩)) (hh : w.heap[g]? = some (.cells cs t f))
  (d : TypeDesc) (hu : P.underlying T = some d) (hd : d.isRow = true) (hi : (P.info? T).map (·.size) = some cs.size) : (results fn tmps).run P w = .ok (.tuple #[.agg cs, tmps.getD u undef]) w := by
 have hl := run_loadVar_blk (P := P) hh T d hu hd hi
 have ha' : tmps[a]?.getD undef = .pointer (some ⟨g, 0, none⟩) := by simpa using ha
 simp [results, h, ha', asAddr, hl]
end
end Go
namespace Go.Proofs.YtdimmlljjmmdbaaGreatDoor
open Go.RowKit
set_option maxHeartbeats 4000000
set_option maxRecDepth 20000
theorem info148 : (Tryz.prog.info? 148).map (fun i => (i.zero, i.size, i.bytes)) = some (some (.agg #[.int .i64 0, .int .i64 0, .bool false]), 3, 24) := by kernel_rfl
theorem flat_push {ps : List Pr} {k : Nat} {p : Pr} (h : ps[k]? = some p) : (ps.take (k + 1)).flatMap Pr.enc = (ps.take k).flatMap Pr.enc ++ [.int .i64 p.s, .int .i64 p.r, .bool p.h] := by
 rw [List.take_add_one, h]
 simp [Pr.enc]
theorem own_setfar {w : World} {B : Nat} {e : TypeId} {size : Nat} {v u : Value} {n : Nat} {l : List Value} {p : Addr} (h : w.ownsRow B e size v n l) (hp : p.block < B) : (w.setCell p u).ownsRow B e size v n l := by
 obtain ⟨h1, h2 | ⟨g, cap, cs, rfl, h3, h4, h5⟩⟩ := h
 ·exact ⟨h1, .inl h2⟩
 ·exact ⟨h1, .inr ⟨g, cap, cs, rfl, h3, (set_far (p := p) u (by omega)).trans h4, h5⟩⟩
theorem c21 (un len most : Int) (P : Option Addr) (np capp : Nat) (ps : List Pr) (w : World) (hp : np ≤ 1000000) (HP : RdP w P np ps) :
  Calls Tryz.prog 21 #[.agg #[.int .i64 un, .int .i64 len, .int .i64 most, .slice P np capp]] w fun en w' => ∃ P' cap', en = .returned (.agg #[.int .i64 un, .int .i64 len, .int .i64 most, .slice P' np cap']) ∧ RdP w' P' np ps ∧ np ≤ cap' ∧ Below w.heap.size w w' := by
 have HPL := Lib.hid HP.len
 have KP := Lib.hid HP
 clear HP
 obtain ⟨i0, hi, hz0, hz1, hz2⟩ := info_parts info148
 obtain ⟨w0, hW⟩ : ∃ W, W = ((w.alloc (Obj.cells #[.int .i64 un, .int .i64 len, .int .i64 most, .slice P np capp] 27)).alloc (Obj.cells #[.int .i64 0, .int .i64 0, .int .i64 0, .slice none 0 0] 39)).alloc (Obj.cells #[.int .i64 un, .int .i64 len, .int .i64 most, .slice none 0 0] 39) := ⟨_, rfl⟩
 have hT0 : w0.heap[w.heap.size]? = some (.cells #[.int .i64 un, .int .i64 len, .int .i64 most, .slice P np capp] 27 (0, 0)) := by rw [hW]; exact heap_old (by simp <;> omega) (heap_old (by simp <;> omega) (heap_new (by simp)))
 have hT1 : w0.heap[w.heap.size + 1]? = some (.cells #[.int .i64 0, .int .i64 0, .int .i64 0, .slice none 0 0] 39 (0, 0)) := by rw [hW]; exact heap_old (by simp <;> omega) (heap_new (by simp))
 have hT2 : w0.heap[w.heap.size + 1 + 1]? = some (.cells #[.int .i64 un, .int .i64 len, .int .i64 most, .slice none 0 0] 39 (0, 0)) := by rw [hW]; exact heap_new (by simp)
 have hB0 : Below w.heap.size w w0 := by rw [hW]; exact ((((Below.refl _ _).alloc (by first | omega | (simp <;> omega)) _).alloc (by first | omega | (simp <;> omega)) _).alloc (by first | omega | (simp <;> omega)) _)
 go_enter Tryz.func21, Tryz.ntmps21
 go_wp2_with fail
 rw [← hW]
 clear hW
 have qhT0_0 : w0.cell? ⟨w.heap.size, 0, none⟩ = some (.int .i64 un) := cell_at hT0 rfl
 have qhT0_1 : w0.cell? ⟨w.heap.size, 1, none⟩ = some (.int .i64 len) := cell_at hT0 rfl
 have qhT0_2 : w0.cell? ⟨w.heap.size, 2, none⟩ = some (.int .i64 most) := cell_at hT0 rfl
 have qhT0_3 : w0.cell? ⟨w.heap.size, 3, none⟩ = some (.slice P np capp) := cell_at hT0 rfl
 have qhT1_0 : w0.cell? ⟨w.heap.size + 1, 0, none⟩ = some (.int .i64 0) := cell_at hT1 rfl
 have qhT1_1 : w0.cell? ⟨w.heap.size + 1, 1, none⟩ = some (.int .i64 0) := cell_at hT1 rfl
 have qhT1_2 : w0.cell? ⟨w.heap.size + 1, 2, none⟩ = some (.int .i64 0) := cell_at hT1 rfl
 have qhT1_3 : w0.cell? ⟨w.heap.size + 1, 3, none⟩ = some (.slice none 0 0) := cell_at hT1 rfl
 have qhT2_0 : w0.cell? ⟨w.heap.size + 1 + 1, 0, none⟩ = some (.int .i64 un) := cell_at hT2 rfl
 have qhT2_1 : w0.cell? ⟨w.heap.size + 1 + 1, 1, none⟩ = some (.int .i64 len) := cell_at hT2 rfl
 have qhT2_2 : w0.cell? ⟨w.heap.size + 1 + 1, 2, none⟩ = some (.int .i64 most) := cell_at hT2 rfl
 have qhT2_3 : w0.cell? ⟨w.heap.size + 1 + 1, 3, none⟩ = some (.slice none 0 0) := cell_at hT2 rfl
 obtain ⟨b3, hb3⟩ : ∃ b, b = w.heap.size + 1 + 1 := ⟨_, rfl⟩
 have HB3 : Hid (w.heap.size + 1 + 1 ≤ b3) := Lib.hid (by omega)
 have hgb0 : Hid (w0.grownBy w0 (some b3)) := Lib.hid (grownBy_of_below (Below.refl _ _) _)
 have hk0 : Hid (w0.heap[b3]? = some (.cells #[.int .i64 un, .int .i64 len, .int .i64 most, .slice none 0 0] 39 (0, 0))) := Lib.hid (by rw [hb3]; exact hT2)
 have HT1 : Hid (w0.heap[w.heap.size + 1]? = some (.cells #[.int .i64 0, .int .i64 0, .int .i64 0, .slice none 0 0] 39 (0, 0))) := Lib.hid hT1
 have HB0 := Lib.hid hB0
 have HLT : Hid (b3 < w0.heap.size) := Lib.hid (by rw [hb3]; exact (Array.getElem?_eq_some_iff.1 hT2).1)
 have hown0 : Hid (w0.ownsRow w0.heap.size 148 3 (.slice none 0 0) 0 ((ps.take 0).flatMap Pr.enc)) := Lib.hid (World.ownsRow_nil _ _ _ _)
 clear qhT0_0 qhT0_1 qhT0_2 qhT0_3 qhT1_0 qhT1_1 qhT1_2 qhT1_3 qhT2_0 qhT2_1 qhT2_2 qhT2_3
 clear hT0 hT1 hT2 hB0
 go_wp2_with fail
 rw [← hb3]
 clear hb3
 go_loopw [16] (fun i wr => ∃ (k : Nat) (x : Value), k ≤ np ∧ i = .int .i64 k ∧ Hid (wr.heap[b3]? = some (.cells #[.int .i64 un, .int .i64 len, .int .i64 most, x] 39 (0, 0))) ∧ Hid (wr.ownsRow w0.heap.size 148 3 x k ((ps.take k).flatMap Pr.enc)) ∧ Hid (w0.grownBy wr (some b3))) (fun i _ => np - (intOf i).toNat)
 case atStart => exact ⟨0, _, Nat.zero_le _, rfl, hk0, hown0, hgb0⟩
 case round =>
  clear hk0 hown0 hgb0
  obtain ⟨k, x, hk, rfl, HK, HOWN, HGB⟩ := hrel
  have hwk : IntKind.i64.wrap ((k : Int) + 1) = ((k + 1 : Nat) : Int) := by rw [wrapI (by omega)]; simp
  have hbr : Below w.heap.size w wr := HB0.out.trans (gb_below HGB.out HB0.out.size (by have := HB3.out; omega))
  have c0 : wr.cell? ⟨b3, 0, none⟩ = some (.int .i64 un) := cell_at HK.out rfl
  have c1 : wr.cell? ⟨b3, 1, none⟩ = some (.int .i64 len) := cell_at HK.out rfl
  have c2 : wr.cell? ⟨b3, 2, none⟩ = some (.int .i64 most) := cell_at HK.out rfl
  have c3 : wr.cell? ⟨b3, 3, none⟩ = some x := cell_at HK.out rfl
  have hb3l : b3 < wr.heap.size := (Array.getElem?_eq_some_iff.1 HK.out).1
  by_cases hlt : k < np
  rotate_left
  ·obtain rfl : np = k := by omega
   have e : (ps.take np).flatMap Pr.enc = ps.flatMap Pr.enc := by rw [List.take_of_length_le (by rw [HPL.out]; exact Nat.le_refl _)]
   have h0 := HOWN.out
   rw [e] at h0
   obtain ⟨A', cap', hx, hr, hnc, _, _⟩ := own_form h0
   subst hx
   have HR : Hid (RdP wr A' np ps) := Lib.hid hr
   have k1 : wr.heap[w.heap.size + 1]? = some (.cells #[.int .i64 0, .int .i64 0, .int .i64 0, .slice none 0 0] 39 (0, 0)) := (HGB.out.block _ (by have := HLT.out; have := HB3.out; omega) (fun e => by have := HB3.out; have := Option.some.inj e; omega)).trans HT1.out
   have HBR := Lib.hid hbr
   have f0 : wr.frozen? ⟨w.heap.size + 1, 0, none⟩ = false := free_at k1
   have f1 : wr.frozen? ⟨w.heap.size + 1, 1, none⟩ = false := free_at k1
   have f2 : wr.frozen? ⟨w.heap.size + 1, 2, none⟩ = false := free_at k1
   have f3 : wr.frozen? ⟨w.heap.size + 1, 3, none⟩ = false := free_at k1
   have d0 := cell_at (i := 0) k1 rfl
   have d1 := cell_at (i := 1) k1 rfl
   have d2 := cell_at (i := 2) k1 rfl
   have d3 := cell_at (i := 3) k1 rfl
   clear h0 hr e hbr
   have hlt1 : (⟨w.heap.size + 1, 0, none⟩ : Addr).block < w0.heap.size := by show w.heap.size + 1 < _; have := HLT.out; have := HB3.out; omega
   have hT2 := set_blk (i := 3) (set_blk (i := 2) (set_blk (i := 1) (set_blk (i := 0) k1 (.int .i64 un)) (.int .i64 len)) (.int .i64 most)) (.slice A' np cap')
   have hbf := (((HBR.out.setCell (p := ⟨w.heap.size + 1, 0, none⟩) (by show _ ≤ w.heap.size + 1; omega) (.int .i64 un)).setCell (p := ⟨w.heap.size + 1, 1, none⟩) (by show _ ≤ w.heap.size + 1; omega) (.int .i64 len)).setCell (p := ⟨w.heap.size + 1, 2, none⟩) (by show _ ≤ w.heap.size + 1; omega) (.int .i64 most)).setCell (p := ⟨w.heap.size + 1, 3, none⟩) (by show _ ≤ w.heap.size + 1; omega) (.slice A' np cap')
   have hof := own_setfar (p := ⟨w.heap.size + 1, 3, none⟩) (u := .slice A' np cap') (own_setfar (p := ⟨w.heap.size + 1, 2, none⟩) (u := .int .i64 most) (own_setfar (p := ⟨w.heap.size + 1, 1, none⟩) (u := .int .i64 len) (own_setfar (p := ⟨w.heap.size + 1, 0, none⟩) (u := .int .i64 un) HOWN.out hlt1) hlt1) hlt1) hlt1
   have e2 : (ps.take np).flatMap Pr.enc = ps.flatMap Pr.enc := by rw [List.take_of_length_le (by rw [HPL.out]; exact Nat.le_refl _)]
   rw [e2] at hof
   obtain ⟨A2, cp2, he, hr2, _⟩ := own_form hof
   cases he
   have HRF := Lib.hid hr2
   have HT2 := Lib.hid hT2
   have HBF := Lib.hid hbf
   clear hr2 hT2 hbf hof e2 hlt1 HOWN
   go_wp2_with fail
   exact bodyPost_ret (results_blk rfl rfl HT2.out _ Tryz.underlying39 rfl (by kernel_rfl)) rfl ⟨_, _, rfl, HRF.out, hnc, HBF.out⟩
  have hkm2 : (k : Int) < (np : Int) := by omega
  have hk02 : (0 : Int) ≤ (k : Int) := by omega
  have HP := KP.out.below hbr
  obtain ⟨pb, poff, p, rfl, hpx, hpb, hp0, hp1, hp2⟩ := HP.at hlt
  have HPX := Lib.hid hpx
  clear hpx HP
  have hown := HOWN.out
  have hszn : w0.heap.size ≤ wr.heap.size := HGB.out.size
  go_wp2_with (at_builtin; refine wpList_append_own _ rfl _ _ 37 rfl w0.heap.size 148 i0 (.agg #[.int .i64 0, .int .i64 0, .bool false]) 3 24 Tryz.underlying37 hi hz0 hz1 hz2 rfl (by decide) _ _ _ rfl ((hown.alloc _).alloc _) ⟨wr.heap.size + 1, 0, none⟩ 1 1 [.int .i64 p.s, .int .i64 p.r, .bool p.h] rfl rfl ?c1 ?c2 ?c3 ?c4 ?c5 ?_)
  case c1 => exact news_one _ _ (by simp)
  case c2 => intro x hx; simp at hx; rcases hx with rfl | rfl | rfl <;> rfl
  case c3 => unfold maxLen; omega
  case c4 => omega
  case c5 => simp; omega
  intro x' wz hown3 hg3 _
  obtain ⟨Ax, capx, rfl, _⟩ := own_form hown3
  have hal := below2 wr (Obj.cells #[.int .i64 p.s, .int .i64 p.r, .bool p.h] 101) (Obj.cells #[.int .i64 p.s, .int .i64 p.r, .bool p.h] 148)
  have hxb : ∀ g, x.ownBlock = some g → w0.heap.size ≤ g := fun g hg => (hown.lt g hg).1
  have k3 : wz.heap[b3]? = some (.cells #[.int .i64 un, .int .i64 len, .int .i64 most, x] 39 (0, 0)) := by
   have h1 := blkb HK.out hal
   exact (hg3.block b3 (Array.getElem?_eq_some_iff.1 h1).1 (fun e => by have := hxb b3 e.symm; have := HLT.out; omega)).trans h1
  have q3 : wz.cell? ⟨b3, 3, none⟩ = some x := cell_at k3 rfl
  have qf : wz.frozen? ⟨b3, 3, none⟩ = false := free_at k3
  have q0 : wz.cell? ⟨b3, 0, none⟩ = some (.int .i64 un) := cell_at k3 rfl
  have HGB2 : Hid (w0.grownBy (wz.setCell ⟨b3, 3, none⟩ (.slice Ax (k + 1) capx)) (some b3)) := Lib.hid (by
   have h1 := gb_call HGB.out (hal.mono hszn)
   have h2 : Below w0.heap.size ((wr.alloc (Obj.cells #[.int .i64 p.s, .int .i64 p.r, .bool p.h] 101)).alloc (Obj.cells #[.int .i64 p.s, .int .i64 p.r, .bool p.h] 148)) wz := (Below.refl _ _).grown hg3 (by simp; omega) hxb
   exact gb_set (gb_call h1 h2))
  have HK2 : Hid ((wz.setCell ⟨b3, 3, none⟩ (.slice Ax (k + 1) capx)).heap[b3]? = some (.cells #[.int .i64 un, .int .i64 len, .int .i64 most, .slice Ax (k + 1) capx] 39 (0, 0))) := Lib.hid (set_blk (i := 3) k3 _)
  have HOWN2 : Hid ((wz.setCell ⟨b3, 3, none⟩ (.slice Ax (k + 1) capx)).ownsRow w0.heap.size 148 3 (.slice Ax (k + 1) capx) (k + 1) ((ps.take (k + 1)).flatMap Pr.enc)) := Lib.hid (by
   rw [flat_push HPX.out]
   exact own_setfar hown3 (by show b3 < _; exact HLT.out))
  clear hown3 hg3 hal hxb k3 hown c0 c1 c2 c3 hp0 hp1 hp2 hszn
  go_wp2
  go_roundw
  case rel => exact ⟨k + 1, .slice Ax (k + 1) capx, by omega, by go_num, HK2, HOWN2, HGB2⟩
  case measure => simp [intOf]; omega
end Go.Proofs.YtdimmlljjmmdbaaGreatDoor
namespace Go.Proofs.YtdimmlljjmmdbaaGreatDoor
open Go.RowKit
set_option maxHeartbeats 4000000
set_option maxRecDepth 20000
theorem RwM.of_own {w : World} {B : Nat} {v : Value} {x : List Int} (h : w.ownsRow B 3 1 v x.length (encI x)) : RwM w B v x := by
 obtain ⟨h1, ⟨h2, h3⟩ | ⟨g, cap, cs, rfl, h3, h4, h5, h6, h7, h8⟩⟩ := h
 ·exact .inl ⟨h2, List.eq_nil_of_length_eq_zero h3⟩
 ·exact .inr ⟨g, cap, rfl, cs, h4, by simpa using h7, h5, by unfold maxLen at h6; omega, rfl, by simpa using h8, h3⟩
theorem RwM.grown {w w' : World} {B B2 : Nat} {v : Value} {y : List Int} {x : Value} {k : Nat} {xs : List Value} (h : RwM w B v y) (hown : w.ownsRow B2 22 1 x k xs) (hg : w.grownBy w' x.ownBlock) : RwM w' B v y := by
 rcases h with h | ⟨g, cp, h1, h2⟩
 ·exact .inl h
 ·exact .inr ⟨g, cp, h1, h2.grown hown hg⟩
theorem RwM.lower {w : World} {B B' : Nat} {v : Value} {x : List Int} (h : RwM w B v x) (hb : B' ≤ B) : RwM w B' v x := by
 rcases h with h | ⟨g, cp, h1, h2⟩
 ·exact .inl h
 ·exact .inr ⟨g, cp, h1, h2.lower hb⟩
/-- slices of the call's own that read as rows -/
def VR (w : World) (B : Nat) (rows : List (List Int)) (vs : List Value) (k : Nat) : Prop :=
 vs.length = k ∧ ∀ (j : Nat) (x : List Int), j < k → rows[j]? = some x → ∃ v, vs[j]? = some v ∧ RwM w B v x
theorem VR.below {w w' : World} {B : Nat} {rows : List (List Int)} {vs : List Value} {k : Nat} (h : VR w B rows vs k) (hb : Below w.heap.size w w') : VR w' B rows vs k :=
 ⟨h.1, fun j x hj hx => by obtain ⟨v, h1, h2⟩ := h.2 j x hj hx; exact ⟨v, h1, h2.below hb⟩⟩
theorem VR.push {w w' : World} {B B2 : Nat} {rows : List (List Int)} {vs : List Value} {k : Nat} {v : Value} {y : List Int} {x : Value} {xs : List Value} (h : VR w B rows vs k) (hown : w.ownsRow B2 22 1 x k xs) (hg : w.grownBy w' x.ownBlock) (hy : rows[k]? = some y) (hr : RwM w B v y) :
  VR w' B rows (vs ++ [v]) (k + 1) := by
 refine ⟨by simp [h.1], fun j q hj hq => ?_⟩
 by_cases e : j = k
 ·subst e
  rw [hy] at hq
  cases hq
  exact ⟨v, by rw [List.getElem?_append_right (by rw [h.1]; exact Nat.le_refl _), h.1]; simp, hr.grown hown hg⟩
 ·obtain ⟨u, h1, h2⟩ := h.2 j q (by omega) hq
  exact ⟨u, by rw [List.getElem?_append_left (by rw [h.1]; omega)]; exact h1, h2.grown hown hg⟩
theorem VR.rd {w : World} {B : Nat} {rows : List (List Int)} {vs : List Value} {A : Option Addr} (h : VR w B rows vs rows.length) (hr : RdS w 1 A rows.length vs) : RdD w A rows.length rows := by
 refine ⟨vs, hr, rfl, fun k x hx => ?_⟩
 have hk : k < rows.length := by
  by_cases h : k < rows.length
  ·exact h
  ·rw [List.getElem?_eq_none (by omega)] at hx; cases hx
 obtain ⟨v, h1, h2⟩ := h.2 k x hk hx
 rcases h2 with ⟨rfl, rfl⟩ | ⟨g, cp, rfl, h2⟩
 ·exact ⟨none, 0, h1, ⟨rfl, fun h => absurd h (Nat.lt_irrefl _)⟩⟩
 ·exact ⟨some ⟨g, 0, none⟩, cp, h1, h2.rd⟩
end Go.Proofs.YtdimmlljjmmdbaaGreatDoor
/- Plain laws of chapter 07: inner products, step by step, and their bounds. -/
namespace Im
def innK (a b : List Int) : Nat → Int
 | 0 => 0
 | k + 1 => innK a b k + at0 a k * at0 b k
theorem innK_cons (x y : Int) (a b : List Int) : ∀ k, innK (x :: a) (y :: b) (k + 1) = x * y + innK a b k
 | 0 => by simp [innK, at0]
 | k + 1 => by
  have ih := innK_cons x y a b k
  show innK (x :: a) (y :: b) (k + 1) + at0 (x :: a) (k + 1) * at0 (y :: b) (k + 1) = x * y + (innK a b k + at0 a k * at0 b k)
  rw [ih]
  have e1 : at0 (x :: a) (k + 1) = at0 a k := rfl
  have e2 : at0 (y :: b) (k + 1) = at0 b k := rfl
  rw [e1, e2, Int.add_assoc]
theorem innK_full : ∀ {a b : List Int} {n : Nat}, a.length = n → b.length = n → innK a b n = inner a b
 | [], [], _, h, _ => by subst h; rfl
 | x :: a, y :: b, 0, h, _ => by simp at h
 | x :: a, y :: b, n + 1, h, h' => by
  rw [innK_cons, innK_full (by simpa using h) (by simpa using h')]; rfl
 | [], _ :: _, _, h, h' => by subst h; simp at h'
 | _ :: _, [], _, h, h' => by subst h'; simp at h
theorem mul_le {C x y : Int} (hC : 0 ≤ C) (hx : -C ≤ x ∧ x ≤ C) (hy : -C ≤ y ∧ y ≤ C) : -(C * C) ≤ x * y ∧ x * y ≤ C * C := by
 have h1 : 0 ≤ (C - x) * (C + y) := Int.mul_nonneg (by omega) (by omega)
 have h2 : 0 ≤ (C + x) * (C - y) := Int.mul_nonneg (by omega) (by omega)
 have h3 : 0 ≤ (C - x) * (C - y) := Int.mul_nonneg (by omega) (by omega)
 have h4 : 0 ≤ (C + x) * (C + y) := Int.mul_nonneg (by omega) (by omega)
 simp only [Int.add_mul, Int.sub_mul, Int.mul_add, Int.mul_sub] at h1 h2 h3 h4
 have e1 : C * y = y * C := Int.mul_comm _ _
 have e2 : x * C = C * x := Int.mul_comm _ _
 rw [e1, e2] at *
 omega
theorem innK_le {a b : List Int} {C : Int} (hC : 0 ≤ C) (ha : ∀ i, -C ≤ at0 a i ∧ at0 a i ≤ C) (hb : ∀ i, -C ≤ at0 b i ∧ at0 b i ≤ C) : ∀ k : Nat, -((k : Int) * (C * C)) ≤ innK a b k ∧ innK a b k ≤ (k : Int) * (C * C)
 | 0 => by simp [innK]
 | k + 1 => by
  have ih := innK_le hC ha hb k
  have h := mul_le hC (ha k) (hb k)
  have e : ((k + 1 : Nat) : Int) * (C * C) = (k : Int) * (C * C) + C * C := by rw [Int.natCast_add, Int.add_mul]; simp
  rw [e]
  show -((k : Int) * (C * C) + C * C) ≤ innK a b k + at0 a k * at0 b k ∧ innK a b k + at0 a k * at0 b k ≤ (k : Int) * (C * C) + C * C
  omega
theorem at0_le {l : List Int} {C : Int} (hC : 0 ≤ C) (h : ∀ x, x ∈ l → -C ≤ x ∧ x ≤ C) (i : Nat) : -C ≤ at0 l i ∧ at0 l i ≤ C := by
 unfold at0
 rw [List.getD_eq_getElem?_getD]
 cases hh : l[i]? with
 | none => simp; omega
 | some v => simpa using h v (List.mem_of_getElem? hh)
end Im
namespace Go.Proofs.YtdimmlljjmmdbaaGreatDoor
open Go.RowKit
set_option maxHeartbeats 4000000
set_option maxRecDepth 20000
theorem c107 (A B : Option Addr) (n cap cap2 : Nat) (a b : List Int) (w : World) (hn : n ≤ 4096) (H : RdI w A n a) (G : RdI w B n b) (ha : ∀ x, x ∈ a → -16777216 ≤ x ∧ x ≤ 16777216) (hb : ∀ x, x ∈ b → -16777216 ≤ x ∧ x ≤ 16777216) :
  Calls Tryz.prog 107 #[.slice A n cap, .slice B n cap2] w fun en w' => en = .returned (.int .i64 (Im.inner a b)) ∧ w = w' := by
 have HV : Hid (Im.innK a b n = Im.inner a b) := Lib.hid (Im.innK_full H.len G.len)
 rw [← HV.out]
 have HA0 := Im.at0_le (by omega) ha
 have HB0 := Im.at0_le (by omega) hb
 have HLE := Lib.hid (Im.innK_le (by omega) HA0 HB0)
 have HMU := Lib.hid (fun k => Im.mul_le (by omega) (HA0 k) (HB0 k))
 have HH := Lib.hid H
 have GG := Lib.hid G
 clear H G ha hb HV HA0 HB0
 go_enter Tryz.func107, Tryz.ntmps107
 go_wp2
 go_loop [5, 10] (fun S i => ∃ k : Nat, k ≤ n ∧ i = .int .i64 k ∧ S = .int .i64 (Im.innK a b k)) (fun _ i => n - (intOf i).toNat)
 case atStart => exact ⟨0, Nat.zero_le _, rfl, rfl⟩
 case round =>
  obtain ⟨k, hk, rfl, rfl⟩ := hrel
  by_cases hlt : k < n
  ·obtain ⟨p, poff, rfl, hp, _⟩ := HH.out.2 (by omega)
   obtain ⟨q, qoff, rfl, hq, _⟩ := GG.out.2 (by omega)
   have c1 := HH.out.get hlt
   have c2 := GG.out.get hlt
   have hwk : IntKind.i64.wrap ((k : Int) + 1) = ((k + 1 : Nat) : Int) := by rw [wrapI (by omega)]; simp
   have hk2 : (k : Int) < (n : Int) := by omega
   have hk0 : (0 : Int) ≤ (k : Int) := by omega
   have h1 := HMU.out k
   have h2 := HLE.out k
   have h3 : (k : Int) * (16777216 * 16777216) ≤ 4096 * (16777216 * 16777216) := Int.mul_le_mul_of_nonneg_right (by omega) (by decide)
   have HN : Hid (Im.innK a b (k + 1) = Im.innK a b k + Im.at0 a k * Im.at0 b k) := Lib.hid rfl
   have hw1 : IntKind.i64.wrap (Im.at0 a k * Im.at0 b k) = Im.at0 a k * Im.at0 b k := wrapI (by omega)
   have hw2 : IntKind.i64.wrap (Im.innK a b k + Im.at0 a k * Im.at0 b k) = Im.innK a b k + Im.at0 a k * Im.at0 b k := wrapI (by omega)
   clear h1 h2 h3
   generalize Im.at0 a k = x at *
   generalize Im.at0 b k = y at *
   generalize Im.innK a b k = S at *
   go_wp2
   go_round
   case rel => exact ⟨k + 1, by omega, rfl, by rw [HN.out]⟩
   case measure => simp [intOf]; omega
  ·obtain rfl : n = k := by omega
   go_wp2
   go_ret
   exact ⟨rfl, rfl⟩
namespace Mo
/-- what is wrong with two lists for 'Inner' -/
def innA (a b : List Int) : Int := first [when ((a.length : Int) != (b.length : Int)) 2, when (decide (4096 < (a.length : Int))) 5]
def innB (a b : List Int) : Int := first [allw a (-16777216) 16777216, allw b (-16777216) 16777216]
def innE (a b : List Int) : Int := first [innA a b, innB a b]
def innV (a b : List Int) : Int := if innE a b = 0 then Im.inner a b else 0
end Mo
theorem c40 (A B : Option Addr) (n m cap cap2 : Nat) (a b : List Int) (w : World) (hn : n ≤ 1000000) (hm : m ≤ 1000000) (H : RdI w A n a) (G : RdI w B m b) :
  Calls Tryz.prog 40 #[.slice A n cap, .slice B m cap2] w fun en w' => en = .returned (.tuple #[.int .i64 (Mo.innV a b), .int .i64 (Mo.innE a b)]) ∧ Below w.heap.size w w' := by
 have HAL := Lib.hid H.len
 have HBL := Lib.hid G.len
 obtain ⟨E, hE⟩ : ∃ E, E = Mo.innA a b := ⟨_, rfl⟩
 obtain ⟨F, hF⟩ : ∃ E, E = Mo.innB a b := ⟨_, rfl⟩
 obtain ⟨V, hV⟩ : ∃ E, E = Mo.innV a b := ⟨_, rfl⟩
 obtain ⟨X, hX⟩ : ∃ E, E = Mo.innE a b := ⟨_, rfl⟩
 have HE : Hid (Mo.first [Mo.when ((n : Int) != (m : Int)) 2, Mo.when (decide (4096 < (n : Int))) 5] = E) := Lib.hid (by rw [hE]; unfold Mo.innA; rw [HAL.out, HBL.out])
 have HF : Hid (Mo.first [Mo.allw a (-16777216) 16777216, Mo.allw b (-16777216) 16777216] = F) := Lib.hid (by rw [hF]; rfl)
 have HXA : Hid (E ≠ 0 → X = E) := Lib.hid (fun h => by rw [hX]; unfold Mo.innE; rw [← hE, Mo.first_nz h])
 have HXB : Hid (E = 0 → X = F) := Lib.hid (fun h => by rw [hX]; unfold Mo.innE; rw [← hE, ← hF, Mo.first_z h, Mo.first_one])
 have HVZ : Hid (X ≠ 0 → V = 0) := Lib.hid (fun h => by rw [hV]; unfold Mo.innV; rw [← hX, if_neg h])
 have HVI : Hid (X = 0 → V = Im.inner a b) := Lib.hid (fun h => by rw [hV]; unfold Mo.innV; rw [← hX, if_pos h])
 rw [← hV, ← hX]
 clear hE hF hV hX
 by_cases hnm : n = m
 rotate_left
 ·
   have hne : ((n : Int) != (m : Int)) = true := by simp; omega
   have HE2 : Hid (E = 2) := Lib.hid (by rw [← HE.out, hne]; rfl)
   have HX2 := Lib.hid (HXA.out (by rw [HE2.out]; decide))
   go_enter Tryz.func40, Tryz.ntmps40
   obtain ⟨w0, hw0⟩ : ∃ W, W = w := ⟨_, rfl⟩
   subst hw0
   have hB0 : Below w0.heap.size w0 w0 := Below.refl _ _
   go_wp2_with fail
   refine (c94 true 2 _).mono ?_
   rintro e w' ⟨rfl, rfl⟩
   go_wp2_with fail
   refine (c94 (decide ((4096 : Int) < (n : Int))) 5 _).mono ?_
   rintro e w' ⟨rfl, rfl⟩
   go_wp2_with fail
   refine (c89 _ 2 2 [Mo.when true 2, Mo.when (decide ((4096 : Int) < (n : Int))) 5] _ rfl (by omega) (RdS.of_new (cs := encI [Mo.when true 2, Mo.when (decide ((4096 : Int) < (n : Int))) 5]) rfl rfl)).mono ?_
   rintro e w' ⟨rfl, rfl⟩
   obtain ⟨w1, hwn⟩ : ∃ V, V = w0.alloc (Obj.cells (encI [Mo.when true 2, Mo.when (decide ((4096 : Int) < (n : Int))) 5]).toArray 32) := ⟨_, rfl⟩
   have hbn : Below w0.heap.size w0 w1 := by rw [hwn]; exact (Below.refl _ _).alloc (Nat.le_refl _) _
   try rw [← hwn]
   clear hwn
   have hS := hbn
   have hB1 := hB0.call hS rfl
   replace H := H.below hS
   replace G := G.below hS
   clear hS hB0
   clear hbn
   have hf2 : Mo.first [Mo.when true 2, Mo.when (decide ((4096 : Int) < (n : Int))) 5] = 2 := rfl
   rw [hf2]
   clear hf2
   go_wp2
   go_ret2
   exact ⟨by rw [HVZ.out (by rw [HX2.out, HE2.out]; decide), HX2.out, HE2.out]; rfl, hB1⟩
 subst hnm
 have hne : ((n : Int) != (n : Int)) = false := by simp
 by_cases hbig : 4096 < n
 ·
   have hd : decide ((4096 : Int) < (n : Int)) = true := by simp; omega
   have HE2 : Hid (E = 5) := Lib.hid (by rw [← HE.out, hne, hd]; rfl)
   have HX2 := Lib.hid (HXA.out (by rw [HE2.out]; decide))
   go_enter Tryz.func40, Tryz.ntmps40
   obtain ⟨w0, hw0⟩ : ∃ W, W = w := ⟨_, rfl⟩
   subst hw0
   have hB0 : Below w0.heap.size w0 w0 := Below.refl _ _
   go_wp2_with fail
   refine (c94 false 2 _).mono ?_
   rintro e w' ⟨rfl, rfl⟩
   go_wp2_with fail
   refine (c94 true 5 _).mono ?_
   rintro e w' ⟨rfl, rfl⟩
   go_wp2_with fail
   refine (c89 _ 2 2 [Mo.when false 2, Mo.when true 5] _ rfl (by omega) (RdS.of_new (cs := encI [Mo.when false 2, Mo.when true 5]) rfl rfl)).mono ?_
   rintro e w' ⟨rfl, rfl⟩
   obtain ⟨w1, hwn⟩ : ∃ V, V = w0.alloc (Obj.cells (encI [Mo.when false 2, Mo.when true 5]).toArray 32) := ⟨_, rfl⟩
   have hbn : Below w0.heap.size w0 w1 := by rw [hwn]; exact (Below.refl _ _).alloc (Nat.le_refl _) _
   try rw [← hwn]
   clear hwn
   have hS := hbn
   have hB1 := hB0.call hS rfl
   replace H := H.below hS
   replace G := G.below hS
   clear hS hB0
   clear hbn
   have hf2 : Mo.first [Mo.when false 2, Mo.when true 5] = 5 := rfl
   rw [hf2]
   clear hf2
   go_wp2
   go_ret2
   exact ⟨by rw [HVZ.out (by rw [HX2.out, HE2.out]; decide), HX2.out, HE2.out]; rfl, hB1⟩
 have hd : decide ((4096 : Int) < (n : Int)) = false := by simp; omega
 have HE2 : Hid (E = 0) := Lib.hid (by rw [← HE.out, hne, hd]; rfl)
 have HX2 := Lib.hid (HXB.out HE2.out)
 go_enter Tryz.func40, Tryz.ntmps40
 obtain ⟨w0, hw0⟩ : ∃ W, W = w := ⟨_, rfl⟩
 subst hw0
 have hB0 : Below w0.heap.size w0 w0 := Below.refl _ _
 go_wp2_with fail
 refine (c94 false 2 _).mono ?_
 rintro e w' ⟨rfl, rfl⟩
 go_wp2_with fail
 refine (c94 false 5 _).mono ?_
 rintro e w' ⟨rfl, rfl⟩
 go_wp2_with fail
 refine (c89 _ 2 2 [Mo.when false 2, Mo.when false 5] _ rfl (by omega) (RdS.of_new (cs := encI [Mo.when false 2, Mo.when false 5]) rfl rfl)).mono ?_
 rintro e w' ⟨rfl, rfl⟩
 obtain ⟨w1, hwn⟩ : ∃ V, V = w0.alloc (Obj.cells (encI [Mo.when false 2, Mo.when false 5]).toArray 32) := ⟨_, rfl⟩
 have hbn : Below w0.heap.size w0 w1 := by rw [hwn]; exact (Below.refl _ _).alloc (Nat.le_refl _) _
 try rw [← hwn]
 clear hwn
 have hS := hbn
 have hB1 := hB0.call hS rfl
 replace H := H.below hS
 replace G := G.below hS
 clear hS hB0
 clear hbn
 have hf2 : Mo.first [Mo.when false 2, Mo.when false 5] = 0 := rfl
 rw [hf2]
 clear hf2
 go_wp2_with fail
 go_wp2_with fail
 refine (c113 A n cap a _ _ _ hn H).mono ?_
 rintro e w2 ⟨rfl, hb⟩
 have hS := hb
 have hB2 := hB1.call hS rfl
 replace H := H.below hS
 replace G := G.below hS
 clear hS hB1
 clear hb
 go_wp2_with fail
 refine (c113 B n cap2 b _ _ _ hn G).mono ?_
 rintro e w3 ⟨rfl, hb⟩
 have hS := hb
 have hB3 := hB2.call hS rfl
 replace H := H.below hS
 replace G := G.below hS
 clear hS hB2
 clear hb
 go_wp2_with fail
 refine (c89 _ 2 2 [Mo.allw a (-16777216) 16777216, Mo.allw b (-16777216) 16777216] _ rfl (by omega) (RdS.of_new (cs := encI [Mo.allw a (-16777216) 16777216, Mo.allw b (-16777216) 16777216]) rfl rfl)).mono ?_
 rintro e w' ⟨rfl, rfl⟩
 obtain ⟨w4, hwn⟩ : ∃ V, V = w3.alloc (Obj.cells (encI [Mo.allw a (-16777216) 16777216, Mo.allw b (-16777216) 16777216]).toArray 32) := ⟨_, rfl⟩
 have hbn : Below w3.heap.size w3 w4 := by rw [hwn]; exact (Below.refl _ _).alloc (Nat.le_refl _) _
 try rw [← hwn]
 clear hwn
 have hS := hbn
 have hB4 := hB3.call hS rfl
 replace H := H.below hS
 replace G := G.below hS
 clear hS hB3
 clear hbn
 rw [HF.out]
 by_cases hF0 : F = 0
 rotate_left
 ·
   have hff : (F != 0) = true := by simpa using hF0
   have HP : Hid (V = 0 ∧ X = F) := Lib.hid ⟨HVZ.out (by rw [HX2.out]; exact hF0), HX2.out⟩
   go_wp2
   go_ret2
   exact ⟨by rw [HP.out.1, HP.out.2]; rfl, hB4⟩
 have hff : (F != 0) = false := by simp [hF0]
 have hz := Mo.first_zero (HF.out ▸ hF0 : Mo.first [Mo.allw a (-16777216) 16777216, Mo.allw b (-16777216) 16777216] = 0)
 have hab := Mo.allw_ok.1 (hz _ List.mem_cons_self)
 have hbb := Mo.allw_ok.1 (hz (Mo.allw b (-16777216) 16777216) (by simp))
 have HP : Hid (V = Im.inner a b ∧ X = 0) := Lib.hid ⟨HVI.out (by rw [HX2.out, hF0]), by rw [HX2.out, hF0]⟩
 have HAB := Lib.hid hab
 have HBB := Lib.hid hbb
 clear hz hab hbb
 go_wp2_with fail
 refine (c107 A B n cap cap2 a b _ (by omega) H G HAB.out HBB.out).mono ?_
 rintro e w' ⟨rfl, rfl⟩
 go_wp2
 go_ret2
 exact ⟨by rw [HP.out.1, HP.out.2]; rfl, hB4⟩
end Go.Proofs.YtdimmlljjmmdbaaGreatDoor
/- Plain laws of chapter 07: misfits, step by step, and their bounds. -/
namespace Im
def sq (x : Int) : Int := x * x
theorem sq_le {C x : Int} (hC : 0 ≤ C) (h : -C ≤ x ∧ x ≤ C) : 0 ≤ sq x ∧ sq x ≤ C * C := ⟨sq_nonneg' x, (mul_le hC h h).2⟩
def misK (a b : List Int) : Nat → Int
 | 0 => 0
 | k + 1 => misK a b k + sq (at0 a k - at0 b k)
theorem misK_cons (x y : Int) (a b : List Int) : ∀ k, misK (x :: a) (y :: b) (k + 1) = sq (x - y) + misK a b k
 | 0 => by simp [misK, at0]
 | k + 1 => by
  have ih := misK_cons x y a b k
  show misK (x :: a) (y :: b) (k + 1) + sq (at0 (x :: a) (k + 1) - at0 (y :: b) (k + 1)) = sq (x - y) + (misK a b k + sq (at0 a k - at0 b k))
  rw [ih]
  have e1 : at0 (x :: a) (k + 1) = at0 a k := rfl
  have e2 : at0 (y :: b) (k + 1) = at0 b k := rfl
  rw [e1, e2, Int.add_assoc]
theorem misK_full : ∀ {a b : List Int} {n : Nat}, a.length = n → b.length = n → misK a b n = misfit a b
 | [], [], _, h, _ => by subst h; rfl
 | x :: a, y :: b, 0, h, _ => by simp at h
 | x :: a, y :: b, n + 1, h, h' => by
  rw [misK_cons, misK_full (by simpa using h) (by simpa using h')]; rfl
 | [], _ :: _, _, h, h' => by subst h; simp at h'
 | _ :: _, [], _, h, h' => by subst h'; simp at h
theorem misK_le {a b : List Int} {C : Int} (hC : 0 ≤ C) (h : ∀ i, -C ≤ at0 a i - at0 b i ∧ at0 a i - at0 b i ≤ C) : ∀ k : Nat, 0 ≤ misK a b k ∧ misK a b k ≤ (k : Int) * (C * C)
 | 0 => by simp [misK]
 | k + 1 => by
  have ih := misK_le hC h k
  have h1 := sq_le hC (h k)
  have e : ((k + 1 : Nat) : Int) * (C * C) = (k : Int) * (C * C) + C * C := by rw [Int.natCast_add, Int.add_mul]; simp
  rw [e]
  show 0 ≤ misK a b k + sq (at0 a k - at0 b k) ∧ misK a b k + sq (at0 a k - at0 b k) ≤ (k : Int) * (C * C) + C * C
  omega
def misD (T d : List (List Int)) : Nat → Int
 | 0 => 0
 | i + 1 => misD T d i + misfit (T.getD i []) (d.getD i [])
theorem misfit_append : ∀ (a b x y : List Int), a.length = x.length → misfit (a ++ b) (x ++ y) = misfit a x + misfit b y
 | [], b, [], y, _ => by simp [misfit]
 | p :: a, b, q :: x, y, h => by
  have := misfit_append a b x y (by simpa using h)
  simp only [List.cons_append, misfit]; rw [this]; omega
 | [], _, _ :: _, _, h => by simp at h
 | _ :: _, _, [], _, h => by simp at h
theorem misD_cons (x y : List Int) (T d : List (List Int)) : ∀ k, misD (x :: T) (y :: d) (k + 1) = misfit x y + misD T d k
 | 0 => by simp [misD]
 | k + 1 => by
  have ih := misD_cons x y T d k
  show misD (x :: T) (y :: d) (k + 1) + misfit ((x :: T).getD (k + 1) []) ((y :: d).getD (k + 1) []) = misfit x y + (misD T d k + misfit (T.getD k []) (d.getD k []))
  rw [ih]
  have e1 : (x :: T).getD (k + 1) [] = T.getD k [] := rfl
  have e2 : (y :: d).getD (k + 1) [] = d.getD k [] := rfl
  rw [e1, e2, Int.add_assoc]
theorem misD_full : ∀ {T d : List (List Int)} {n : Nat}, T.length = n → d.length = n → (∀ i, i < n → (T.getD i []).length = (d.getD i []).length) → misD T d n = misfit T.flatten d.flatten
 | [], [], _, h, _, _ => by subst h; rfl
 | x :: T, y :: d, 0, h, _, _ => by simp at h
 | x :: T, y :: d, n + 1, h, h', hl => by
  rw [misD_cons, misD_full (by simpa using h) (by simpa using h') (fun i hi => by have := hl (i + 1) (by omega); simpa using this)]
  rw [List.flatten_cons, List.flatten_cons, misfit_append _ _ _ _ (by simpa using hl 0 (by omega))]
 | [], _ :: _, _, h, h', _ => by subst h; simp at h'
 | _ :: _, [], _, h, h', _ => by subst h'; simp at h
theorem misD_le {T d : List (List Int)} {C : Int} {n : Nat} (h : ∀ i, i < n → 0 ≤ misfit (T.getD i []) (d.getD i []) ∧ misfit (T.getD i []) (d.getD i []) ≤ C) : ∀ k : Nat, k ≤ n → 0 ≤ misD T d k ∧ misD T d k ≤ (k : Int) * C
 | 0, _ => by simp [misD]
 | k + 1, hk => by
  have ih := misD_le h k (by omega)
  have h1 := h k (by omega)
  have e : ((k + 1 : Nat) : Int) * C = (k : Int) * C + C := by rw [Int.natCast_add, Int.add_mul]; simp
  rw [e]
  show 0 ≤ misD T d k + misfit (T.getD k []) (d.getD k []) ∧ misD T d k + misfit (T.getD k []) (d.getD k []) ≤ (k : Int) * C + C
  omega
theorem trace_le {len n : Nat} {ds ms : List Int} (h1 : ds.length = n) (h2 : ms.length = n) (hn : n ≤ 256) (hm : ∀ k, k < n → -1000 ≤ at0 ms k ∧ at0 ms k ≤ 1000) (i : Nat) : -256000 ≤ at0 (trace len ds ms) i ∧ at0 (trace len ds ms) i ≤ 256000 := by
 have h := trk_le (len := len) (ds := ds) (ms := ms) (B := 1000) (by omega) (fun k hk => hm k (by omega)) (by omega) n (by omega) i
 rw [trk_full h1 h2] at h
 have : (n : Int) * 1000 ≤ 256 * 1000 := Int.mul_le_mul_of_nonneg_right (by omega) (by omega)
 omega
end Im
