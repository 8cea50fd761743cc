/- A part of the proofs about chapter 7 (image): contracts of functions and plain laws (V82). -/
import Derived.Test.YtdimmlljjmmdbaaGreatDoorB74
import Derived.Test.YtdimmlljjmmdbaaGreatDoorA05
set_option linter.all false
namespace Go.Proofs.YtdimmlljjmmdbaaGreatDoor
open Go.RowKit Go.Shelf
set_option maxHeartbeats 8000000
set_option maxRecDepth 100000
theorem take_flat {d : List (List Int)} {k : Nat} {y : List Int} (h : d[k]? = some y) : (d.take (k + 1)).flatten = (d.take k).flatten ++ y := by
 rw [List.take_add_one, h]; simp
theorem take_flat_le (d : List (List Int)) (k : Nat) : (d.take k).flatten.length ≤ d.flatten.length := by
 have h : d.flatten = (d.take k).flatten ++ (d.drop k).flatten := by rw [← List.flatten_append, List.take_append_drop]
 rw [h, List.length_append]; omega
/-- an append of integers to own memory, in a list of operations -/
theorem wpList_app_ints {ops : Array Oper} {rest : List Oper} {o : Oper} {a : Act} {w : World} {Q : Exit → Act → World → Prop} (hgd : o.guard = none) (s x : Operand)
  (ho : o.op = .call { callee := .builtin .append, args := #[s, x], argTypes := #[22, 22] })
  (base : Nat) (v : Value) (n : Nat) (xs ys : List Int) (hs : a.eval s = v) (hown : Own w base v n (encI xs))
  (A : Option Addr) (m c : Nat) (hx : a.eval x = .slice A m c) (H : RdI w A m ys) (hnm : n + m ≤ 1000000) (hbase : base ≤ w.heap.size)
  (h : ∀ v' w', Own w' base v' (n + m) (encI (xs ++ ys)) → Below base w w' → wpList Tryz.prog ops Q rest (a.put o.dst v') w') : wpList Tryz.prog ops Q (o :: rest) a w := by
 refine wpList_plain hgd fun K hK => ?_
 exact wp_app_ints s x ho base v n xs ys hs hown A m c hx H hnm hbase (fun v' w' h1 h2 => hK _ _ (h v' w' h1 h2))
theorem c55 (D : Option Addr) (m capd : Nat) (d : List (List Int)) (w : World) (hm : m ≤ 1000000) (hfl : d.flatten.length ≤ 1000000) (HD : RdD w D m d) :
  Calls Tryz.prog 55 #[.slice D m capd] w fun en w' => ∃ v, en = .returned v ∧ Own w' w.heap.size v d.flatten.length (encI d.flatten) ∧ Below w.heap.size w w' := by
 have HDN := Lib.hid HD.len
 have HFL := Lib.hid hfl
 have hst0 : Hid (Own w w.heap.size (.slice none 0 0) ((d.take 0).flatten.length) (encI (d.take 0).flatten)) := Lib.hid (World.ownsRow_nil _ _ _ _)
 clear hfl
 go_enter Tryz.func55, Tryz.ntmps55
 go_wp2_with fail
 go_loopw [3, 4] (fun x i wr => ∃ (k : Nat), k ≤ m ∧ i = .int .i64 k ∧ Hid (Own wr w.heap.size x ((d.take k).flatten.length) (encI (d.take k).flatten)) ∧ Below w.heap.size w wr) (fun _ i _ => m - (intOf i).toNat)
 case atStart => exact ⟨0, Nat.zero_le _, rfl, hst0, Below.refl _ _⟩
 case round =>
  clear hst0
  obtain ⟨k, hk, rfl, HOW, hbr3⟩ := hrel
  have HD1 := HD.below hbr3
  by_cases hlt : k < m
  rotate_left
  ·obtain rfl : m = k := by omega
   have HF : Hid (Own wr w.heap.size u3 d.flatten.length (encI d.flatten)) := Lib.hid (by
    have h := HOW.out
    rw [List.take_of_length_le (by rw [HDN.out]; exact Nat.le_refl _)] at h
    exact h)
   clear HOW HD1
   go_wp2
   go_ret
   exact ⟨_, rfl, HF.out, hbr3⟩
  ·have hwk : IntKind.i64.wrap ((k : Int) + 1) = ((k + 1 : Nat) : Int) := by rw [wrapI (by omega)]; simp
   obtain ⟨db, doff, y, ya, yc, rfl, hy, hdb, hdc, hry⟩ := HD1.at hlt
   have HTF := Lib.hid (take_flat hy)
   have HTL := Lib.hid (take_flat_le d (k + 1))
   have HTA : Hid ((d.take (k + 1)).flatten.length = (d.take k).flatten.length + y.length) := Lib.hid (by rw [take_flat hy, List.length_append])
   clear hy HD1
   generalize hN : (d.take k).flatten.length = N at HOW HTA
   generalize hTK : (d.take k).flatten = TK at HOW HTF
   clear hN hTK
   have hyl : N + y.length ≤ 1000000 := by have := HTA.out; have := HTL.out; have := HFL.out; omega
   have hszn := hbr3.size
   obtain ⟨yn, hyn⟩ : ∃ q, q = y.length := ⟨_, rfl⟩
   rw [← hyn] at hry hdc hyl HTA
   have HYN := Lib.hid hyn
   clear hyn
   have HOO := HOW.out
   go_wp2_with (at_builtin; refine wpList_app_ints rfl _ _ rfl w.heap.size _ N TK y rfl HOO ya yn yc rfl hry hyl hszn ?_)
   intro x' wz hown3 hb3
   have HB3 : Hid (Below w.heap.size w wz) := Lib.hid (hbr3.trans hb3)
   have HO : Hid (Own wz w.heap.size x' ((d.take (k + 1)).flatten.length) (encI (d.take (k + 1)).flatten)) := Lib.hid (by
    rw [HTA.out, HTF.out]
    exact hown3)
   clear hown3 hb3 HOO
   go_wp2
   go_roundw
   case rel => exact ⟨k + 1, by omega, by go_num, HO, HB3.out⟩
   case measure => simp [intOf]; omega

theorem c54 (c r : Nat) (A : Option Addr) (n cap : Nat) (l : List Int) (un : Int) (ln : Nat) (most : Int) (P : Option Addr) (np capp : Nat) (ps : List Pr) (D : Option Addr) (capd : Nat) (d : List (List Int)) (w : World) (g : Im.Gr c r l) (hc : c ≤ 16) (hr : r ≤ 16) (hu : 1 ≤ un ∧ un ≤ 1000) (hln : 1 ≤ ln ∧ ln ≤ 256) (hnp : np ≤ 16) (hcells : ∀ p, p ∈ ps → (0 ≤ p.s ∧ p.s < (n : Int)) ∧ (0 ≤ p.r ∧ p.r < (n : Int))) (hshp : Mo.Shp (ln : Int) ps d) (hdv : ∀ x, x ∈ d → ∀ y, y ∈ x → -1048576 ≤ y ∧ y ≤ 1048576) (H : RdI w A n l) (HP : RdP w P np ps) (HD : RdD w D np d) :
  Calls Tryz.prog 54 #[.agg #[.int .i64 c, .int .i64 r, .slice A n cap], .agg #[.int .i64 un, .int .i64 (ln : Nat), .int .i64 most, .slice P np capp], .slice D np capd] w fun en w' => ∃ go, en = .returned (.slice (some ⟨go, 0, none⟩) n n) ∧ RowI w' w.heap.size go n n (Im.image n (ps.map (dlp c l un ln most)) d) ∧ Below w.heap.size w w' := by
 have HPL := Lib.hid HP.len
 have HLN := Lib.hid H.len
 have HDN := Lib.hid HD.len
 have hn0 : 0 < n := by
  have h1 := g.c1; have h2 := g.r1; have h3 := g.len
  have : 1 * 1 ≤ c * r := Nat.mul_le_mul h1 h2
  rw [← HLN.out]; omega
 have hn256 : n ≤ 256 := by
  have h3 := g.len
  have : c * r ≤ 16 * 16 := Nat.mul_le_mul hc hr
  rw [← HLN.out]; omega
 obtain ⟨i0, hi, hz0, hz1, hz2⟩ := info_parts info3
 have hmk2 := fun W => run_make_fill (P := Tryz.prog) 22 3 i0 (.int .i64 0) (fun _ => .int .i64 0) Tryz.underlying22 hi hz0 hz1 rfl n (by omega) (by rw [hz2]; omega) W
 clear hi hz0 hz1 hz2
 have HSH := Lib.hid hshp
 have HDV := Lib.hid hdv
 have HCE := Lib.hid hcells
 have HG := Lib.hid g
 clear hshp hdv hcells
 obtain ⟨DS, hDS⟩ : ∃ T, T = ps.map (dlp c l un ln most) := ⟨_, rfl⟩
 have hDN : ∀ ds, ds ∈ DS → ds.length = n := by
  intro ds hds
  rw [hDS] at hds
  obtain ⟨p, _, rfl⟩ := List.mem_map.1 hds
  rw [dlp_len, HLN.out]
 have hDL : DS.length = np := by rw [hDS]; simp [HPL.out]
 have HFIN : Hid (Im.imgN n DS d np = Im.image n (ps.map (dlp c l un ln most)) d) := Lib.hid (by
  rw [← hDS, ← hDL]
  exact Im.imgN_full (by rw [hDL, HDN.out]))
 rw [← HFIN.out]
 have HDS := Lib.hid hDS
 have HIL := Lib.hid (fun i => Im.imgN_len (data := d) hDN i)
 have HSU : Hid (∀ i, i < np → ∀ k, k < n → Im.at0 (Im.imgN n DS d (i + 1)) k = Im.at0 (Im.imgN n DS d i) k + Im.pick (d.getD i []) (Im.at0 (DS.getD i []) k)) := Lib.hid (fun i hi k hk => by
  rw [Im.imgN_succ (by rw [hDL]; exact hi) (by rw [HDN.out]; exact hi)]
  refine Im.imgFold_at ?_ (by rw [Im.imgN_len hDN]; exact hk)
  rw [Im.imgN_len hDN, List.getD_eq_getElem?_getD, List.getElem?_eq_getElem (by rw [hDL]; exact hi)]
  exact hDN _ (List.getElem_mem _))
 have HBD := Lib.hid (Im.imgN_le (n := n) (dss := DS) (data := d) (B := 1048576) (by omega) hDN HDV.out (by rw [hDL, HDN.out]))
 have HDL2 := Lib.hid hDL
 clear hDS hDN hDL
 obtain ⟨w0, hW⟩ : ∃ W, W = (w.alloc (Obj.cells #[.int .i64 c, .int .i64 r, .slice A n cap] 24)).alloc (Obj.cells #[.int .i64 un, .int .i64 (ln : Nat), .int .i64 most, .slice P np capp] 27) := ⟨_, rfl⟩
 have hT0 : w0.heap[w.heap.size]? = some (.cells #[.int .i64 c, .int .i64 r, .slice A n cap] 24 (0, 0)) := by rw [hW]; exact heap_old (by simp <;> omega) (heap_new (by simp))
 have hT1 : w0.heap[w.heap.size + 1]? = some (.cells #[.int .i64 un, .int .i64 (ln : Nat), .int .i64 most, .slice P np capp] 27 (0, 0)) := by rw [hW]; exact heap_new (by simp)
 have hB0 : Below w.heap.size w w0 := by rw [hW]; exact (((Below.refl _ _).alloc (by first | omega | (simp <;> omega)) _).alloc (by first | omega | (simp <;> omega)) _)
 replace H := H.below hB0
 replace HP := HP.below hB0
 replace HD := HD.below hB0
 go_enter Tryz.func54, Tryz.ntmps54
 have HS0 : w0.heap.size = w.heap.size + 1 + 1 := by rw [hW]; simp
 go_wp2_with fail
 rw [← hW]
 clear hW
 have qhT0_0 : w0.cell? ⟨w.heap.size, 0, none⟩ = some (.int .i64 c) := cell_at hT0 rfl
 have qhT0_1 : w0.cell? ⟨w.heap.size, 1, none⟩ = some (.int .i64 r) := cell_at hT0 rfl
 have qhT0_2 : w0.cell? ⟨w.heap.size, 2, none⟩ = some (.slice A n cap) := cell_at hT0 rfl
 have qhT1_0 : w0.cell? ⟨w.heap.size + 1, 0, none⟩ = some (.int .i64 un) := cell_at hT1 rfl
 have qhT1_1 : w0.cell? ⟨w.heap.size + 1, 1, none⟩ = some (.int .i64 (ln : Nat)) := cell_at hT1 rfl
 have qhT1_2 : w0.cell? ⟨w.heap.size + 1, 2, none⟩ = some (.int .i64 most) := cell_at hT1 rfl
 have qhT1_3 : w0.cell? ⟨w.heap.size + 1, 3, none⟩ = some (.slice P np capp) := cell_at hT1 rfl
 have z0 := cell_lt qhT0_0
 have z1 := cell_lt qhT1_0
 go_wp2_with fail
 obtain ⟨w1, hwn⟩ : ∃ V, V = w0.alloc (.cells (fillA (.int .i64 0) (fun _ => .int .i64 0) n 0) 3) := ⟨_, rfl⟩
 have hbn0 : Below w0.heap.size w0 w1 := by rw [hwn]; exact (Below.refl _ _).alloc (Nat.le_refl _) _
 obtain ⟨go, hgo'⟩ : ∃ b, b = w.heap.size + 1 + 1 := ⟨_, rfl⟩
 have hgo : go = w0.heap.size := by omega
 have ko : w1.heap[go]? = some (.cells (fillA (.int .i64 0) (fun _ => .int .i64 0) n 0) 3 (0, 0)) := by rw [hwn]; exact heap_new hgo
 have HGO : Hid (w0.heap.size ≤ go) := Lib.hid (by omega)
 have hom : Hid (RowI w1 w0.heap.size go n n (Im.imgN n DS d 0)) := Lib.hid (by
  refine ⟨_, ko, fillA_size _ _ _ _, Nat.le_refl _, by omega, by rw [Im.imgN_zero]; simp, ?_, by omega⟩
  rw [Im.imgN_zero, List.take_of_length_le (by simp [fillA])]
  apply List.ext_getElem?
  intro i
  simp [fillA, encI, List.getElem?_replicate]
  by_cases h : i < n <;> simp [h])
 have HBN : Hid (Below w0.heap.size w0 w1) := Lib.hid hbn0
 try rw [← hwn]
 rw [← hgo']
 clear hwn hgo hgo' HS0 hmk2 ko z0 z1 hbn0
 have KHD := Lib.hid HD
 have KHP := Lib.hid HP
 have KT1 := Lib.hid hT1
 go_loopw [8] (fun i wr => ∃ k : Nat, k ≤ np ∧ i = .int .i64 k ∧ Hid (RowI wr w0.heap.size go n n (Im.imgN n DS d k)) ∧ Hid (Below w0.heap.size w0 wr)) (fun i _ => np - (intOf i).toNat)
 case atStart => exact ⟨0, Nat.zero_le _, rfl, hom, HBN⟩
 case round =>
  clear hom HBN
  obtain ⟨k, hk, rfl, HOM, HBR⟩ := hrel
  have HB0 := Lib.hid hB0
  have hbr := HBR.out
  obtain ⟨w1, hww⟩ : ∃ W, W = wr := ⟨_, rfl⟩
  subst hww
  have hB1 := hB0.call hbr rfl
  replace hT0 := blkb hT0 hbr
  replace hT1 := blkb hT1 hbr
  replace H := H.below hbr
  replace HP := HP.below hbr
  replace HD := HD.below hbr
  clear hB0
  have qhT0_0 : w1.cell? ⟨w.heap.size, 0, none⟩ = some (.int .i64 c) := cell_at hT0 rfl
  have qhT0_1 : w1.cell? ⟨w.heap.size, 1, none⟩ = some (.int .i64 r) := cell_at hT0 rfl
  have qhT0_2 : w1.cell? ⟨w.heap.size, 2, none⟩ = some (.slice A n cap) := cell_at hT0 rfl
  have qhT1_0 : w1.cell? ⟨w.heap.size + 1, 0, none⟩ = some (.int .i64 un) := cell_at hT1 rfl
  have qhT1_1 : w1.cell? ⟨w.heap.size + 1, 1, none⟩ = some (.int .i64 (ln : Nat)) := cell_at hT1 rfl
  have qhT1_2 : w1.cell? ⟨w.heap.size + 1, 2, none⟩ = some (.int .i64 most) := cell_at hT1 rfl
  have qhT1_3 : w1.cell? ⟨w.heap.size + 1, 3, none⟩ = some (.slice P np capp) := cell_at hT1 rfl
  clear hbr
  have hwk : IntKind.i64.wrap ((k : Int) + 1) = ((k + 1 : Nat) : Int) := by rw [wrapI (by omega)]; simp
  by_cases hlt : k < np
  rotate_left
  ·obtain rfl : np = k := by omega
   have HF := Lib.hid (HOM.out.lower (show w.heap.size ≤ w0.heap.size from HB0.out.size))
   go_wp2
   go_ret
   exact ⟨_, rfl, HF.out, hB1⟩
  have hkm2 : (k : Int) < (np : Int) := by omega
  have hk02 : (0 : Int) ≤ (k : Int) := by omega
  obtain ⟨pb, poff, p, rfl, hpx, hpb, hp0, hp1, hp2⟩ := HP.at hlt
  have HPX := Lib.hid hpx
  have HXG : Hid (DS.getD k [] = dlp c l un ln most p) := Lib.hid (by rw [HDS.out, List.getD_eq_getElem?_getD, List.getElem?_map, hpx]; rfl)
  have hpc := HCE.out p (List.mem_of_getElem? hpx)
  obtain ⟨db, doff, y, ya, yc, rfl, hy, hdb, hdc, hry⟩ := HD.at hlt
  have HYG : Hid (d.getD k [] = y) := Lib.hid (by rw [List.getD_eq_getElem?_getD, hy]; rfl)
  have HYX := Lib.hid hy
  have HSHK := Lib.hid (HSH.out k p y hpx hy)
  have HYV := Lib.hid (HDV.out y (List.mem_of_getElem? hy))
  have hrow0 : Hid (RowI w1 w0.heap.size go n n (Im.mix (Im.imgN n DS d k) (Im.imgN n DS d (k + 1)) 0)) := by rw [Im.mix_zero]; exact HOM
  have HSUK := Lib.hid (HSU.out k hlt)
  rw [HXG.out, HYG.out] at HSUK
  have HBK := Lib.hid (HBD.out k (by rw [HDL2.out]; omega))
  have hgol := (HOM.out.cell (k := 0) (by omega)).2.2
  have HGL : Hid (go < w1.heap.size) := Lib.hid hgol
  clear hpx hp0 hp1 hp2 hy hdb hdc hry hpb hgol
  obtain ⟨p0, p1, ph⟩ := p
  dsimp only at hpc HSHK
  obtain ⟨p0, rfl⟩ : ∃ q : Nat, p0 = q := ⟨p0.toNat, by omega⟩
  obtain ⟨p1, rfl⟩ : ∃ q : Nat, p1 = q := ⟨p1.toNat, by omega⟩
  go_wp2_with fail
  refine (c29o c r A n cap l un ln most (some ⟨pb, poff, none⟩) np capp ps k p0 p1 ph w1 HG.out hc hr hu (by omega) HPX.out hlt (by omega) (by omega) (by omega) H HP).mono ?_
  rintro e w20 ⟨gx, gc, rfl, hrx, hb⟩
  obtain ⟨X, hX⟩ : ∃ D, D = dlp c l un ln most ⟨p0, p1, ph⟩ := ⟨_, rfl⟩
  have hX2 : dlL c l un ln most p0 p1 ph = X := by rw [hX]; rfl
  rw [hX2] at hrx
  rw [← hX] at HSUK
  have HXD := Lib.hid hX
  have hgxo : gx ≠ go := by
   obtain ⟨_, _, _, _, _, _, _, h⟩ := hrx
   have := HGL.out
   omega
  have hrx0 : Hid (RowI w20 0 gx gc n X) := Lib.hid (hrx.lower (Nat.zero_le _))
  have hrow1 := Lib.hid (hrow0.out.below hb)
  have hb20 := Lib.hid (HBR.out.call hb rfl)
  clear hX hX2 hrx hb hrow0 hpc
  go_wp2_with fail
  go_loopw [10] (fun i wr => ∃ j : Nat, j ≤ n ∧ i = .int .i64 j ∧ Hid (RowI wr w0.heap.size go n n (Im.mix (Im.imgN n DS d k) (Im.imgN n DS d (k + 1)) j)) ∧ Hid (RowI wr 0 gx gc n X) ∧ Hid (Below w0.heap.size w0 wr)) (fun i _ => n - (intOf i).toNat)
  case atStart => exact ⟨0, Nat.zero_le _, rfl, hrow1, hrx0, hb20⟩
  case round =>
   clear hrow1 hrx0 hb20
   obtain ⟨j, hj, rfl, HRW, HRX, HBJ⟩ := hrel
   clear qhT0_0 qhT0_1 qhT0_2 qhT1_0 qhT1_1 qhT1_2 qhT1_3
   clear H HP HD hT0 hT1
   obtain ⟨w2, hww⟩ : ∃ W, W = wr := ⟨_, rfl⟩
   subst hww
   have HD := KHD.out.below HBJ.out
   have HP := KHP.out.below HBJ.out
   have hT1 := blkb KT1.out HBJ.out
   have hwj : IntKind.i64.wrap ((j : Int) + 1) = ((j + 1 : Nat) : Int) := by rw [wrapI (by omega)]; simp
   by_cases hlt2 : j < n
   rotate_left
   ·obtain rfl : n = j := by omega
    have HOM3 : Hid (RowI w2 w0.heap.size go n n (Im.imgN n DS d (k + 1))) := Lib.hid (by
     have h := HRW.out
     have e : Im.mix (Im.imgN n DS d k) (Im.imgN n DS d (k + 1)) n = Im.imgN n DS d (k + 1) := by
      have h1 := Im.mix_full (a := Im.imgN n DS d k) (b := Im.imgN n DS d (k + 1)) (by rw [HIL.out, HIL.out])
      rwa [HIL.out] at h1
     rw [e] at h
     exact h)
    go_wp2
    go_roundw
    case rel => exact ⟨k + 1, by omega, by go_num, HOM3, HBJ⟩
    case measure => simp [intOf]; omega
   have hjn2 : (j : Int) < (n : Int) := by omega
   have hj02 : (0 : Int) ≤ (j : Int) := by omega
   have hdc := (HRX.out.cell hlt2).1
   have zgx := (HRX.out.cell hlt2).2.2
   have HDJ : Hid (0 ≤ Im.at0 X j → Im.at0 X j < (ln : Int)) := Lib.hid (fun h => by rw [HXD.out] at h ⊢; exact dlp_lt (by rw [HLN.out]; exact hlt2) h)
   have HHJ : Hid (ph = true → Im.at0 X j = -1) := Lib.hid (fun h => by rw [HXD.out]; exact dlp_hole h (by rw [HLN.out]; exact hlt2))
   have HSJ := Lib.hid (HSUK.out j hlt2)
   have hbj := HBK.out j hlt2
   have HMG : Hid (Im.at0 (Im.mix (Im.imgN n DS d k) (Im.imgN n DS d (k + 1)) j) j = Im.at0 (Im.imgN n DS d k) j) := Lib.hid (by rw [Im.mix_get (by rw [HIL.out]; exact hlt2), if_neg (Nat.lt_irrefl j)])
   generalize hdj : Im.at0 X j = dj at hdc HDJ HSJ HHJ
   clear hdj
   by_cases hd0 : 0 ≤ dj
   rotate_left
   ·have hdd : decide ((0 : Int) ≤ dj) = false := by simpa using hd0
    have HRW2 : Hid (RowI w2 w0.heap.size go n n (Im.mix (Im.imgN n DS d k) (Im.imgN n DS d (k + 1)) (j + 1))) := Lib.hid (by
     rw [Im.mix_keep (by rw [HSJ.out]; unfold Im.pick; rw [if_neg hd0]; omega)]
     exact HRW.out)
    clear hd0
    go_wp2
    go_roundw
    case rel => exact ⟨j + 1, by omega, by go_num, HRW2, HRX, HBJ⟩
    case measure => simp [intOf]; omega
   have hdl := HDJ.out hd0
   obtain ⟨q, rfl⟩ : ∃ q : Nat, dj = q := ⟨dj.toNat, by omega⟩
   have hq : q < ln := by omega
   have hyl : y.length = ln := by
    have h := HSHK.out
    unfold Mo.okT at h
    cases hph : ph
    ·rw [hph] at h; simp at h; omega
    ·have := HHJ.out hph; omega
   have hdd : decide ((0 : Int) ≤ (q : Int)) = true := by simp
   have hql : (q : Int) < (ln : Int) := by omega
   have hq02 : (0 : Int) ≤ (q : Int) := by omega
   obtain ⟨db', doff', y', ya, yc, he, hy', hdb, hyc, hry⟩ := HD.at hlt
   cases he
   obtain rfl : y = y' := by rw [HYX.out] at hy'; exact Option.some.inj hy'
   rw [hyl] at hyc hry
   obtain ⟨mb, moff, mx, rfl, hmx, hmb, hmc⟩ := hry.at hq
   have hmx2 : Im.at0 y q = mx := by simp [Im.at0, List.getD_eq_getElem?_getD, hmx]
   have hmr := HYV.out mx (List.mem_of_getElem? hmx)
   have hpk : Im.pick y (q : Int) = mx := by unfold Im.pick; rw [if_pos (Int.natCast_nonneg q), Int.toNat_natCast, hmx2]
   rw [hpk] at HSJ
   have hrc := (HRW.out.cell hlt2).1
   have hrf := (HRW.out.cell hlt2).2.1
   have hgtl := (HRW.out.cell hlt2).2.2
   rw [HMG.out] at hrc
   generalize hyv : Im.at0 (Im.imgN n DS d k) j = yv at hrc hbj HSJ
   have HYW := Lib.hid hyv
   have hk16 : (k : Int) * 1048576 ≤ 16 * 1048576 := Int.mul_le_mul_of_nonneg_right (by omega) (by omega)
   have hwy : IntKind.i64.wrap (yv + mx) = yv + mx := wrapI (by omega)
   clear hmr hmx hmx2 hyv hd0 hdl hbj hpk hk16 hy'
   go_wp2
   refine wp_region_splitG 18 (by kernel_rfl) (by kernel_rfl) ?_
   simp only [List.take_succ_cons, List.take_zero, List.drop_succ_cons, List.drop_zero]
   repeat (go_big_quiet_step ((first | fail)))
   refine wpQuiet_nil (gw_out ?_)
   intro wq hbw
   have hrow2 := HRW.out.below hbw
   have hrx2 := HRX.out.below hbw
   have qc := (hrow2.cell hlt2).1
   have qf := (hrow2.cell hlt2).2.1
   rw [HMG.out, HYW.out] at qc
   have HRW2 : Hid (RowI (wq.setCell ⟨go, j, none⟩ (.int .i64 (yv + mx))) w0.heap.size go n n (Im.mix (Im.imgN n DS d k) (Im.imgN n DS d (k + 1)) (j + 1))) := Lib.hid (by
    have h := hrow2.set j (yv + mx)
    have e := Im.mix_set (a := Im.imgN n DS d k) (b := Im.imgN n DS d (k + 1)) (j := j) (by rw [HIL.out]; exact hlt2)
    rw [HSJ.out] at e
    rw [e] at h
    exact h)
   have HRX2 : Hid (RowI (wq.setCell ⟨go, j, none⟩ (.int .i64 (yv + mx))) 0 gx gc n X) := Lib.hid (hrx2.far _ hgxo)
   have HBQ2 : Hid (Below w0.heap.size w0 (wq.setCell ⟨go, j, none⟩ (.int .i64 (yv + mx)))) := Lib.hid ((HBJ.out.call hbw rfl).setCell (p := ⟨go, j, none⟩) HGO.out _)
   clear hrow2 hrx2 hrc hrf hdc hmc hyc hry
   go_wp2
   go_roundw
   case rel => exact ⟨j + 1, by omega, by go_num, HRW2, HRX2, HBQ2⟩
   case measure => simp [intOf]; omega

end Go.Proofs.YtdimmlljjmmdbaaGreatDoor
