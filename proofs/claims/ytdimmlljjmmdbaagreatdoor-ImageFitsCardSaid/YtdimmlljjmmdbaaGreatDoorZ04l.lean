/- A part of the proofs about chapter 7 (image): contracts of functions and plain laws (V55, VC, V82, V79, V66, V53a, V67, V85). -/
import Derived.Test.YtdimmlljjmmdbaaGreatDoorZ04f
import Derived.Test.YtdimmlljjmmdbaaGreatDoorZ04g
import Derived.Test.YtdimmlljjmmdbaaGreatDoorZ04h
import Derived.Test.YtdimmlljjmmdbaaGreatDoorZ04i
import Derived.Test.YtdimmlljjmmdbaaGreatDoorZ04k
set_option linter.all false
namespace Go.Proofs.YtdimmlljjmmdbaaGreatDoor
open Go.RowKit Go.Shelf
set_option maxHeartbeats 8000000
set_option maxRecDepth 100000
theorem c33 (D : Option Addr) (m capd : Nat) (d : List (List Int)) (w : World) (hm : m ≤ 1000000) (hsh : ∀ x, x ∈ d → x.length ≤ 1000000) (HD : RdD w D m d) :
  Calls Tryz.prog 33 #[.slice D m capd] w fun en w' => ∃ B cb, en = .returned (.slice B m cb) ∧ RdD w' B m d ∧ Below w.heap.size w w' := by
 have HDN := Lib.hid HD.len
 have HSH := Lib.hid hsh
 have hst0 : Hid (VR w w.heap.size d [] 0) := Lib.hid ⟨rfl, fun j _ h => absurd h (Nat.not_lt_zero j)⟩
 clear hsh
 go_enter Tryz.func33, Tryz.ntmps33
 go_wp2_with fail
 go_loopw [3, 8] (fun x i wr => ∃ (k : Nat) (us : List Value), k ≤ m ∧ i = .int .i64 k ∧ OwnD wr w.heap.size x k us ∧ Hid (VR wr w.heap.size d us k) ∧ Below w.heap.size w wr) (fun _ i _ => m - (intOf i).toNat)
 case atStart => exact ⟨0, [], Nat.zero_le _, rfl, World.ownsRow_nil _ _ _ _, hst0, Below.refl _ _⟩
 case round =>
  clear hst0
  obtain ⟨k, us, hk, rfl, hown, HVR, hbr3⟩ := hrel
  have HD1 := HD.below hbr3
  by_cases hlt : k < m
  rotate_left
  ·obtain rfl : m = k := by omega
   obtain ⟨AO, capO, rfl, hrdO⟩ := Sl.of_own hown
   have hdO : RdD wr AO m d := by
    have e := HDN.out
    subst e
    exact HVR.out.rd hrdO
   clear hown HVR hrdO hlt hk HD HD1
   go_wp2
   go_ret
   exact ⟨AO, capO, rfl, hdO, hbr3⟩
  ·have hwk : IntKind.i64.wrap ((k : Int) + 1) = ((k + 1 : Nat) : Int) := by rw [wrapI (by omega)]; simp
   obtain ⟨db, doff, y, ya, yc, rfl, hy, hdb, hdc, hry⟩ := HD1.at hlt
   have HYX := Lib.hid hy
   have hyl := HSH.out y (List.mem_of_getElem? hy)
   clear hy HD1
   go_wp2_with fail
   refine (c22 ya y.length yc y _ hyl hry).mono ?_
   rintro e w2 ⟨v2, rfl, ho, hb⟩
   have hszq := hbr3.size
   obtain ⟨B2, cb2, rfl⟩ := own_slice ho
   have hrw : RwM w2 w.heap.size (.slice B2 y.length cb2) y := RwM.lower (RwM.of_own ho) hszq
   have hown' : w2.ownsRow w.heap.size 22 1 _ k us := own_below hown hb
   have HVR2 := Lib.hid (HVR.out.below hb)
   have HBR := Lib.hid (hbr3.call hb rfl)
   have hszn : w.heap.size ≤ w2.heap.size := HBR.out.size
   have HRW := Lib.hid hrw
   obtain ⟨i1, hi, hz0, hz1, hz2⟩ := info_parts infoSl
   clear hrw hb ho hown HVR hbr3 hry
   go_wp2_with (at_builtin; refine wpList_append_own _ rfl _ _ 31 rfl w.heap.size 22 i1 (.slice none 0 0) 1 24 Tryz.underlying31 hi hz0 hz1 hz2 rfl (by decide) _ _ _ rfl (hown'.alloc _) ⟨w2.heap.size, 0, none⟩ 1 1 [.slice B2 y.length cb2] rfl rfl (news_one _ _ (by simp)) (fun x hx => by rw [List.mem_singleton.1 hx]; rfl) (by unfold maxLen; omega) (by omega) (by simp; omega) ?_)
   intro x' wz hown3 hg3 _
   have hal : Below w2.heap.size w2 (w2.alloc (Obj.cells #[.slice B2 y.length cb2] 22)) := (Below.refl _ _).alloc (Nat.le_refl _) _
   have HB3 : Hid (Below w.heap.size w wz) := Lib.hid ((HBR.out.alloc hszn _).grown hg3 (by simp; omega) (fun g hg => (hown'.lt g hg).1))
   have HVR3 : Hid (VR wz w.heap.size d (us ++ [.slice B2 y.length cb2]) (k + 1)) := Lib.hid ((HVR2.out.below hal).push (hown'.alloc _) hg3 HYX.out (HRW.out.below hal))
   have HO : Hid (OwnD wz w.heap.size x' (k + 1) (us ++ [.slice B2 y.length cb2])) := Lib.hid hown3
   clear hown3 hg3 hal hown' hszn hi hz0 hz1 hz2 HD
   go_wp2
   go_roundw
   case rel => exact ⟨k + 1, us ++ [.slice B2 y.length cb2], by omega, by go_num, HO.out, HVR3, HB3.out⟩
   case measure => simp [intOf]; omega
end Go.Proofs.YtdimmlljjmmdbaaGreatDoor
namespace Go.Proofs.YtdimmlljjmmdbaaGreatDoor
open Go.RowKit Go.Shelf
set_option maxHeartbeats 8000000
set_option maxRecDepth 100000
theorem c22d (A : Option Addr) (n cap : Nat) (l : List Int) (w : World) (hn : n ≤ 1000000) (H : RdI w A n l) :
  Calls Tryz.prog 22 #[.slice A n cap] w fun en w' => ∃ B cb, en = .returned (.slice B n cb) ∧ RdI w' B n l ∧ Below w.heap.size w w' := by
 refine (c22 A n cap l w hn H).mono ?_
 rintro e w' ⟨v, rfl, ho, hb⟩
 obtain ⟨B, cb, rfl, hr, _⟩ := own_form ho
 exact ⟨B, cb, rfl, hr, hb⟩
theorem c20d (c r : Int) (A : Option Addr) (n cap : Nat) (l : List Int) (w : World) (hl : n ≤ 1000000) (H : RdI w A n l) :
  Calls Tryz.prog 20 #[.agg #[.int .i64 c, .int .i64 r, .slice A n cap]] w fun en w' => ∃ B cb, en = .returned (.agg #[.int .i64 c, .int .i64 r, .slice B n cb]) ∧ RdI w' B n l ∧ Below w.heap.size w w' := by
 refine (c20 c r A n cap l w hl H).mono ?_
 rintro e w' ⟨B, cb, h1, h2, _, _, h3⟩
 exact ⟨B, cb, h1, h2, h3⟩
theorem c21d (un len most : Int) (P : Option Addr) (np capp : Nat) (ps : List Pr) (w : World) (hp : np ≤ 1000000) (HP : RdP w P np ps) :
  Calls Tryz.prog 21 #[.agg #[.int .i64 un, .int .i64 len, .int .i64 most, .slice P np capp]] w fun en w' => ∃ P' cap', en = .returned (.agg #[.int .i64 un, .int .i64 len, .int .i64 most, .slice P' np cap']) ∧ (RdP w' P' np ps ∧ np ≤ cap') ∧ Below w.heap.size w w' := by
 refine (c21 un len most P np capp ps w hp HP).mono ?_
 rintro e w' ⟨B, cb, h1, h2, h3, h4⟩
 exact ⟨B, cb, h1, ⟨h2, h3⟩, h4⟩
/-- an append of integers to own memory, in a list of operations -/
theorem wpList_app_ints {ops : Array Oper} {rest : List Oper} {o : Oper} {a : Act} {w : World} {Q : Exit → Act → World → Prop} (hgd : o.guard = none) (s x : Operand)
  (ho : o.op = .call { callee := .builtin .append, args := #[s, x], argTypes := #[22, 22] })
  (base : Nat) (v : Value) (n : Nat) (xs ys : List Int) (hs : a.eval s = v) (hown : Own w base v n (encI xs))
  (A : Option Addr) (m c : Nat) (hx : a.eval x = .slice A m c) (H : RdI w A m ys) (hnm : n + m ≤ 1000000) (hbase : base ≤ w.heap.size)
  (h : ∀ v' w', Own w' base v' (n + m) (encI (xs ++ ys)) → Below base w w' → wpList Tryz.prog ops Q rest (a.put o.dst v') w') : wpList Tryz.prog ops Q (o :: rest) a w := by
 refine wpList_plain hgd fun K hK => ?_
 exact wp_app_ints s x ho base v n xs ys hs hown A m c hx H hnm hbase (fun v' w' h1 h2 => hK _ _ (h v' w' h1 h2))
theorem bl2 (w : World) (o : Obj) : Below w.heap.size w (w.alloc o) := (Below.refl _ _).alloc (Nat.le_refl _) _
theorem own_rdI {w : World} {B : Nat} {v : Value} {n : Nat} {l : List Int} (h : w.ownsRow B 3 1 v n (encI l)) : ∃ A cap, v = .slice A n cap ∧ RdI w A n l := by
 obtain ⟨A, cap, rfl, hr, _⟩ := own_form h
 exact ⟨A, cap, rfl, hr⟩
end Go.Proofs.YtdimmlljjmmdbaaGreatDoor
namespace Go.Proofs.YtdimmlljjmmdbaaGreatDoor
open Go.RowKit Go.Shelf
set_option maxHeartbeats 8000000
set_option maxRecDepth 100000
theorem take_flat {d : List (List Int)} {k : Nat} {y : List Int} (h : d[k]? = some y) : (d.take (k + 1)).flatten = (d.take k).flatten ++ y := by
 rw [List.take_add_one, h]; simp
theorem take_flat_le (d : List (List Int)) (k : Nat) : (d.take k).flatten.length ≤ d.flatten.length := by
 have h : d.flatten = (d.take k).flatten ++ (d.drop k).flatten := by rw [← List.flatten_append, List.take_append_drop]
 rw [h, List.length_append]; omega
theorem c55 (D : Option Addr) (m capd : Nat) (d : List (List Int)) (w : World) (hm : m ≤ 1000000) (hfl : d.flatten.length ≤ 1000000) (HD : RdD w D m d) :
  Calls Tryz.prog 55 #[.slice D m capd] w fun en w' => ∃ v, en = .returned v ∧ Own w' w.heap.size v d.flatten.length (encI d.flatten) ∧ Below w.heap.size w w' := by
 have HDN := Lib.hid HD.len
 have HFL := Lib.hid hfl
 have hst0 : Hid (Own w w.heap.size (.slice none 0 0) ((d.take 0).flatten.length) (encI (d.take 0).flatten)) := Lib.hid (World.ownsRow_nil _ _ _ _)
 clear hfl
 go_enter Tryz.func55, Tryz.ntmps55
 go_wp2_with fail
 go_loopw [3, 4] (fun x i wr => ∃ (k : Nat), k ≤ m ∧ i = .int .i64 k ∧ Hid (Own wr w.heap.size x ((d.take k).flatten.length) (encI (d.take k).flatten)) ∧ Below w.heap.size w wr) (fun _ i _ => m - (intOf i).toNat)
 case atStart => exact ⟨0, Nat.zero_le _, rfl, hst0, Below.refl _ _⟩
 case round =>
  clear hst0
  obtain ⟨k, hk, rfl, HOW, hbr3⟩ := hrel
  have HD1 := HD.below hbr3
  by_cases hlt : k < m
  rotate_left
  ·obtain rfl : m = k := by omega
   have HF : Hid (Own wr w.heap.size u3 d.flatten.length (encI d.flatten)) := Lib.hid (by
    have h := HOW.out
    rw [List.take_of_length_le (by rw [HDN.out]; exact Nat.le_refl _)] at h
    exact h)
   clear HOW HD1
   go_wp2
   go_ret
   exact ⟨_, rfl, HF.out, hbr3⟩
  ·have hwk : IntKind.i64.wrap ((k : Int) + 1) = ((k + 1 : Nat) : Int) := by rw [wrapI (by omega)]; simp
   obtain ⟨db, doff, y, ya, yc, rfl, hy, hdb, hdc, hry⟩ := HD1.at hlt
   have HTF := Lib.hid (take_flat hy)
   have HTL := Lib.hid (take_flat_le d (k + 1))
   have HTA : Hid ((d.take (k + 1)).flatten.length = (d.take k).flatten.length + y.length) := Lib.hid (by rw [take_flat hy, List.length_append])
   clear hy HD1
   generalize hN : (d.take k).flatten.length = N at HOW HTA
   generalize hTK : (d.take k).flatten = TK at HOW HTF
   clear hN hTK
   have hyl : N + y.length ≤ 1000000 := by have := HTA.out; have := HTL.out; have := HFL.out; omega
   have hszn := hbr3.size
   obtain ⟨yn, hyn⟩ : ∃ q, q = y.length := ⟨_, rfl⟩
   rw [← hyn] at hry hdc hyl HTA
   have HYN := Lib.hid hyn
   clear hyn
   have HOO := HOW.out
   go_wp2_with (at_builtin; refine wpList_app_ints rfl _ _ rfl w.heap.size _ N TK y rfl HOO ya yn yc rfl hry hyl hszn ?_)
   intro x' wz hown3 hb3
   have HB3 : Hid (Below w.heap.size w wz) := Lib.hid (hbr3.trans hb3)
   have HO : Hid (Own wz w.heap.size x' ((d.take (k + 1)).flatten.length) (encI (d.take (k + 1)).flatten)) := Lib.hid (by
    rw [HTA.out, HTF.out]
    exact hown3)
   clear hown3 hb3 HOO
   go_wp2
   go_roundw
   case rel => exact ⟨k + 1, by omega, by go_num, HO, HB3.out⟩
   case measure => simp [intOf]; omega
theorem c54 (c r : Nat) (A : Option Addr) (n cap : Nat) (l : List Int) (un : Int) (ln : Nat) (most : Int) (P : Option Addr) (np capp : Nat) (ps : List Pr) (D : Option Addr) (capd : Nat) (d : List (List Int)) (w : World) (g : Im.Gr c r l) (hc : c ≤ 16) (hr : r ≤ 16) (hu : 1 ≤ un ∧ un ≤ 1000) (hln : 1 ≤ ln ∧ ln ≤ 256) (hnp : np ≤ 16) (hcells : ∀ p, p ∈ ps → (0 ≤ p.s ∧ p.s < (n : Int)) ∧ (0 ≤ p.r ∧ p.r < (n : Int))) (hshp : Mo.Shp (ln : Int) ps d) (hdv : ∀ x, x ∈ d → ∀ y, y ∈ x → -1048576 ≤ y ∧ y ≤ 1048576) (H : RdI w A n l) (HP : RdP w P np ps) (HD : RdD w D np d) :
  Calls Tryz.prog 54 #[.agg #[.int .i64 c, .int .i64 r, .slice A n cap], .agg #[.int .i64 un, .int .i64 (ln : Nat), .int .i64 most, .slice P np capp], .slice D np capd] w fun en w' => ∃ go, en = .returned (.slice (some ⟨go, 0, none⟩) n n) ∧ RowI w' w.heap.size go n n (Im.image n (ps.map (dlp c l un ln most)) d) ∧ Below w.heap.size w w' := by
 have HPL := Lib.hid HP.len
 have HLN := Lib.hid H.len
 have HDN := Lib.hid HD.len
 have hn0 : 0 < n := by
  have h1 := g.c1; have h2 := g.r1; have h3 := g.len
  have : 1 * 1 ≤ c * r := Nat.mul_le_mul h1 h2
  rw [← HLN.out]; omega
 have hn256 : n ≤ 256 := by
  have h3 := g.len
  have : c * r ≤ 16 * 16 := Nat.mul_le_mul hc hr
  rw [← HLN.out]; omega
 obtain ⟨i0, hi, hz0, hz1, hz2⟩ := info_parts info3
 have hmk2 := fun W => run_make_fill (P := Tryz.prog) 22 3 i0 (.int .i64 0) (fun _ => .int .i64 0) Tryz.underlying22 hi hz0 hz1 rfl n (by omega) (by rw [hz2]; omega) W
 clear hi hz0 hz1 hz2
 have HSH := Lib.hid hshp
 have HDV := Lib.hid hdv
 have HCE := Lib.hid hcells
 have HG := Lib.hid g
 clear hshp hdv hcells
 obtain ⟨DS, hDS⟩ : ∃ T, T = ps.map (dlp c l un ln most) := ⟨_, rfl⟩
 have hDN : ∀ ds, ds ∈ DS → ds.length = n := by
  intro ds hds
  rw [hDS] at hds
  obtain ⟨p, _, rfl⟩ := List.mem_map.1 hds
  rw [dlp_len, HLN.out]
 have hDL : DS.length = np := by rw [hDS]; simp [HPL.out]
 have HFIN : Hid (Im.imgN n DS d np = Im.image n (ps.map (dlp c l un ln most)) d) := Lib.hid (by
  rw [← hDS, ← hDL]
  exact Im.imgN_full (by rw [hDL, HDN.out]))
 rw [← HFIN.out]
 have HDS := Lib.hid hDS
 have HIL := Lib.hid (fun i => Im.imgN_len (data := d) hDN i)
 have HSU : Hid (∀ i, i < np → ∀ k, k < n → Im.at0 (Im.imgN n DS d (i + 1)) k = Im.at0 (Im.imgN n DS d i) k + Im.pick (d.getD i []) (Im.at0 (DS.getD i []) k)) := Lib.hid (fun i hi k hk => by
  rw [Im.imgN_succ (by rw [hDL]; exact hi) (by rw [HDN.out]; exact hi)]
  refine Im.imgFold_at ?_ (by rw [Im.imgN_len hDN]; exact hk)
  rw [Im.imgN_len hDN, List.getD_eq_getElem?_getD, List.getElem?_eq_getElem (by rw [hDL]; exact hi)]
  exact hDN _ (List.getElem_mem _))
 have HBD := Lib.hid (Im.imgN_le (n := n) (dss := DS) (data := d) (B := 1048576) (by omega) hDN HDV.out (by rw [hDL, HDN.out]))
 have HDL2 := Lib.hid hDL
 clear hDS hDN hDL
 obtain ⟨w0, hW⟩ : ∃ W, W = (w.alloc (Obj.cells #[.int .i64 c, .int .i64 r, .slice A n cap] 24)).alloc (Obj.cells #[.int .i64 un, .int .i64 (ln : Nat), .int .i64 most, .slice P np capp] 27) := ⟨_, rfl⟩
 have hT0 : w0.heap[w.heap.size]? = some (.cells #[.int .i64 c, .int .i64 r, .slice A n cap] 24 (0, 0)) := by rw [hW]; exact heap_old (by simp <;> omega) (heap_new (by simp))
 have hT1 : w0.heap[w.heap.size + 1]? = some (.cells #[.int .i64 un, .int .i64 (ln : Nat), .int .i64 most, .slice P np capp] 27 (0, 0)) := by rw [hW]; exact heap_new (by simp)
 have hB0 : Below w.heap.size w w0 := by rw [hW]; exact (((Below.refl _ _).alloc (by first | omega | (simp <;> omega)) _).alloc (by first | omega | (simp <;> omega)) _)
 replace H := H.below hB0
 replace HP := HP.below hB0
 replace HD := HD.below hB0
 go_enter Tryz.func54, Tryz.ntmps54
 have HS0 : w0.heap.size = w.heap.size + 1 + 1 := by rw [hW]; simp
 go_wp2_with fail
 rw [← hW]
 clear hW
 have qhT0_0 : w0.cell? ⟨w.heap.size, 0, none⟩ = some (.int .i64 c) := cell_at hT0 rfl
 have qhT0_1 : w0.cell? ⟨w.heap.size, 1, none⟩ = some (.int .i64 r) := cell_at hT0 rfl
 have qhT0_2 : w0.cell? ⟨w.heap.size, 2, none⟩ = some (.slice A n cap) := cell_at hT0 rfl
 have qhT1_0 : w0.cell? ⟨w.heap.size + 1, 0, none⟩ = some (.int .i64 un) := cell_at hT1 rfl
 have qhT1_1 : w0.cell? ⟨w.heap.size + 1, 1, none⟩ = some (.int .i64 (ln : Nat)) := cell_at hT1 rfl
 have qhT1_2 : w0.cell? ⟨w.heap.size + 1, 2, none⟩ = some (.int .i64 most) := cell_at hT1 rfl
 have qhT1_3 : w0.cell? ⟨w.heap.size + 1, 3, none⟩ = some (.slice P np capp) := cell_at hT1 rfl
 have z0 := cell_lt qhT0_0
 have z1 := cell_lt qhT1_0
 go_wp2_with fail
 obtain ⟨w1, hwn⟩ : ∃ V, V = w0.alloc (.cells (fillA (.int .i64 0) (fun _ => .int .i64 0) n 0) 3) := ⟨_, rfl⟩
 have hbn0 : Below w0.heap.size w0 w1 := by rw [hwn]; exact (Below.refl _ _).alloc (Nat.le_refl _) _
 obtain ⟨go, hgo'⟩ : ∃ b, b = w.heap.size + 1 + 1 := ⟨_, rfl⟩
 have hgo : go = w0.heap.size := by omega
 have ko : w1.heap[go]? = some (.cells (fillA (.int .i64 0) (fun _ => .int .i64 0) n 0) 3 (0, 0)) := by rw [hwn]; exact heap_new hgo
 have HGO : Hid (w0.heap.size ≤ go) := Lib.hid (by omega)
 have hom : Hid (RowI w1 w0.heap.size go n n (Im.imgN n DS d 0)) := Lib.hid (by
  refine ⟨_, ko, fillA_size _ _ _ _, Nat.le_refl _, by omega, by rw [Im.imgN_zero]; simp, ?_, by omega⟩
  rw [Im.imgN_zero, List.take_of_length_le (by simp [fillA])]
  apply List.ext_getElem?
  intro i
  simp [fillA, encI, List.getElem?_replicate]
  by_cases h : i < n <;> simp [h])
 have HBN : Hid (Below w0.heap.size w0 w1) := Lib.hid hbn0
 try rw [← hwn]
 rw [← hgo']
 clear hwn hgo hgo' HS0 hmk2 ko z0 z1 hbn0
 have KHD := Lib.hid HD
 have KHP := Lib.hid HP
 have KT1 := Lib.hid hT1
 go_loopw [8] (fun i wr => ∃ k : Nat, k ≤ np ∧ i = .int .i64 k ∧ Hid (RowI wr w0.heap.size go n n (Im.imgN n DS d k)) ∧ Hid (Below w0.heap.size w0 wr)) (fun i _ => np - (intOf i).toNat)
 case atStart => exact ⟨0, Nat.zero_le _, rfl, hom, HBN⟩
 case round =>
  clear hom HBN
  obtain ⟨k, hk, rfl, HOM, HBR⟩ := hrel
  have HB0 := Lib.hid hB0
  have hbr := HBR.out
  obtain ⟨w1, hww⟩ : ∃ W, W = wr := ⟨_, rfl⟩
  subst hww
  have hB1 := hB0.call hbr rfl
  replace hT0 := blkb hT0 hbr
  replace hT1 := blkb hT1 hbr
  replace H := H.below hbr
  replace HP := HP.below hbr
  replace HD := HD.below hbr
  clear hB0
  have qhT0_0 : w1.cell? ⟨w.heap.size, 0, none⟩ = some (.int .i64 c) := cell_at hT0 rfl
  have qhT0_1 : w1.cell? ⟨w.heap.size, 1, none⟩ = some (.int .i64 r) := cell_at hT0 rfl
  have qhT0_2 : w1.cell? ⟨w.heap.size, 2, none⟩ = some (.slice A n cap) := cell_at hT0 rfl
  have qhT1_0 : w1.cell? ⟨w.heap.size + 1, 0, none⟩ = some (.int .i64 un) := cell_at hT1 rfl
  have qhT1_1 : w1.cell? ⟨w.heap.size + 1, 1, none⟩ = some (.int .i64 (ln : Nat)) := cell_at hT1 rfl
  have qhT1_2 : w1.cell? ⟨w.heap.size + 1, 2, none⟩ = some (.int .i64 most) := cell_at hT1 rfl
  have qhT1_3 : w1.cell? ⟨w.heap.size + 1, 3, none⟩ = some (.slice P np capp) := cell_at hT1 rfl
  clear hbr
  have hwk : IntKind.i64.wrap ((k : Int) + 1) = ((k + 1 : Nat) : Int) := by rw [wrapI (by omega)]; simp
  by_cases hlt : k < np
  rotate_left
  ·obtain rfl : np = k := by omega
   have HF := Lib.hid (HOM.out.lower (show w.heap.size ≤ w0.heap.size from HB0.out.size))
   go_wp2
   go_ret
   exact ⟨_, rfl, HF.out, hB1⟩
  have hkm2 : (k : Int) < (np : Int) := by omega
  have hk02 : (0 : Int) ≤ (k : Int) := by omega
  obtain ⟨pb, poff, p, rfl, hpx, hpb, hp0, hp1, hp2⟩ := HP.at hlt
  have HPX := Lib.hid hpx
  have HXG : Hid (DS.getD k [] = dlp c l un ln most p) := Lib.hid (by rw [HDS.out, List.getD_eq_getElem?_getD, List.getElem?_map, hpx]; rfl)
  have hpc := HCE.out p (List.mem_of_getElem? hpx)
  obtain ⟨db, doff, y, ya, yc, rfl, hy, hdb, hdc, hry⟩ := HD.at hlt
  have HYG : Hid (d.getD k [] = y) := Lib.hid (by rw [List.getD_eq_getElem?_getD, hy]; rfl)
  have HYX := Lib.hid hy
  have HSHK := Lib.hid (HSH.out k p y hpx hy)
  have HYV := Lib.hid (HDV.out y (List.mem_of_getElem? hy))
  have hrow0 : Hid (RowI w1 w0.heap.size go n n (Im.mix (Im.imgN n DS d k) (Im.imgN n DS d (k + 1)) 0)) := by rw [Im.mix_zero]; exact HOM
  have HSUK := Lib.hid (HSU.out k hlt)
  rw [HXG.out, HYG.out] at HSUK
  have HBK := Lib.hid (HBD.out k (by rw [HDL2.out]; omega))
  have hgol := (HOM.out.cell (k := 0) (by omega)).2.2
  have HGL : Hid (go < w1.heap.size) := Lib.hid hgol
  clear hpx hp0 hp1 hp2 hy hdb hdc hry hpb hgol
  obtain ⟨p0, p1, ph⟩ := p
  dsimp only at hpc HSHK
  obtain ⟨p0, rfl⟩ : ∃ q : Nat, p0 = q := ⟨p0.toNat, by omega⟩
  obtain ⟨p1, rfl⟩ : ∃ q : Nat, p1 = q := ⟨p1.toNat, by omega⟩
  go_wp2_with fail
  refine (c29o c r A n cap l un ln most (some ⟨pb, poff, none⟩) np capp ps k p0 p1 ph w1 HG.out hc hr hu (by omega) HPX.out hlt (by omega) (by omega) (by omega) H HP).mono ?_
  rintro e w20 ⟨gx, gc, rfl, hrx, hb⟩
  obtain ⟨X, hX⟩ : ∃ D, D = dlp c l un ln most ⟨p0, p1, ph⟩ := ⟨_, rfl⟩
  have hX2 : dlL c l un ln most p0 p1 ph = X := by rw [hX]; rfl
  rw [hX2] at hrx
  rw [← hX] at HSUK
  have HXD := Lib.hid hX
  have hgxo : gx ≠ go := by
   obtain ⟨_, _, _, _, _, _, _, h⟩ := hrx
   have := HGL.out
   omega
  have hrx0 : Hid (RowI w20 0 gx gc n X) := Lib.hid (hrx.lower (Nat.zero_le _))
  have hrow1 := Lib.hid (hrow0.out.below hb)
  have hb20 := Lib.hid (HBR.out.call hb rfl)
  clear hX hX2 hrx hb hrow0 hpc
  go_wp2_with fail
  go_loopw [10] (fun i wr => ∃ j : Nat, j ≤ n ∧ i = .int .i64 j ∧ Hid (RowI wr w0.heap.size go n n (Im.mix (Im.imgN n DS d k) (Im.imgN n DS d (k + 1)) j)) ∧ Hid (RowI wr 0 gx gc n X) ∧ Hid (Below w0.heap.size w0 wr)) (fun i _ => n - (intOf i).toNat)
  case atStart => exact ⟨0, Nat.zero_le _, rfl, hrow1, hrx0, hb20⟩
  case round =>
   clear hrow1 hrx0 hb20
   obtain ⟨j, hj, rfl, HRW, HRX, HBJ⟩ := hrel
   clear qhT0_0 qhT0_1 qhT0_2 qhT1_0 qhT1_1 qhT1_2 qhT1_3
   clear H HP HD hT0 hT1
   obtain ⟨w2, hww⟩ : ∃ W, W = wr := ⟨_, rfl⟩
   subst hww
   have HD := KHD.out.below HBJ.out
   have HP := KHP.out.below HBJ.out
   have hT1 := blkb KT1.out HBJ.out
   have hwj : IntKind.i64.wrap ((j : Int) + 1) = ((j + 1 : Nat) : Int) := by rw [wrapI (by omega)]; simp
   by_cases hlt2 : j < n
   rotate_left
   ·obtain rfl : n = j := by omega
    have HOM3 : Hid (RowI w2 w0.heap.size go n n (Im.imgN n DS d (k + 1))) := Lib.hid (by
     have h := HRW.out
     have e : Im.mix (Im.imgN n DS d k) (Im.imgN n DS d (k + 1)) n = Im.imgN n DS d (k + 1) := by
      have h1 := Im.mix_full (a := Im.imgN n DS d k) (b := Im.imgN n DS d (k + 1)) (by rw [HIL.out, HIL.out])
      rwa [HIL.out] at h1
     rw [e] at h
     exact h)
    go_wp2
    go_roundw
    case rel => exact ⟨k + 1, by omega, by go_num, HOM3, HBJ⟩
    case measure => simp [intOf]; omega
   have hjn2 : (j : Int) < (n : Int) := by omega
   have hj02 : (0 : Int) ≤ (j : Int) := by omega
   have hdc := (HRX.out.cell hlt2).1
   have zgx := (HRX.out.cell hlt2).2.2
   have HDJ : Hid (0 ≤ Im.at0 X j → Im.at0 X j < (ln : Int)) := Lib.hid (fun h => by rw [HXD.out] at h ⊢; exact dlp_lt (by rw [HLN.out]; exact hlt2) h)
   have HHJ : Hid (ph = true → Im.at0 X j = -1) := Lib.hid (fun h => by rw [HXD.out]; exact dlp_hole h (by rw [HLN.out]; exact hlt2))
   have HSJ := Lib.hid (HSUK.out j hlt2)
   have hbj := HBK.out j hlt2
   have HMG : Hid (Im.at0 (Im.mix (Im.imgN n DS d k) (Im.imgN n DS d (k + 1)) j) j = Im.at0 (Im.imgN n DS d k) j) := Lib.hid (by rw [Im.mix_get (by rw [HIL.out]; exact hlt2), if_neg (Nat.lt_irrefl j)])
   generalize hdj : Im.at0 X j = dj at hdc HDJ HSJ HHJ
   clear hdj
   by_cases hd0 : 0 ≤ dj
   rotate_left
   ·have hdd : decide ((0 : Int) ≤ dj) = false := by simpa using hd0
    have HRW2 : Hid (RowI w2 w0.heap.size go n n (Im.mix (Im.imgN n DS d k) (Im.imgN n DS d (k + 1)) (j + 1))) := Lib.hid (by
     rw [Im.mix_keep (by rw [HSJ.out]; unfold Im.pick; rw [if_neg hd0]; omega)]
     exact HRW.out)
    clear hd0
    go_wp2
    go_roundw
    case rel => exact ⟨j + 1, by omega, by go_num, HRW2, HRX, HBJ⟩
    case measure => simp [intOf]; omega
   have hdl := HDJ.out hd0
   obtain ⟨q, rfl⟩ : ∃ q : Nat, dj = q := ⟨dj.toNat, by omega⟩
   have hq : q < ln := by omega
   have hyl : y.length = ln := by
    have h := HSHK.out
    unfold Mo.okT at h
    cases hph : ph
    ·rw [hph] at h; simp at h; omega
    ·have := HHJ.out hph; omega
   have hdd : decide ((0 : Int) ≤ (q : Int)) = true := by simp
   have hql : (q : Int) < (ln : Int) := by omega
   have hq02 : (0 : Int) ≤ (q : Int) := by omega
   obtain ⟨db', doff', y', ya, yc, he, hy', hdb, hyc, hry⟩ := HD.at hlt
   cases he
   obtain rfl : y = y' := by rw [HYX.out] at hy'; exact Option.some.inj hy'
   rw [hyl] at hyc hry
   obtain ⟨mb, moff, mx, rfl, hmx, hmb, hmc⟩ := hry.at hq
   have hmx2 : Im.at0 y q = mx := by simp [Im.at0, List.getD_eq_getElem?_getD, hmx]
   have hmr := HYV.out mx (List.mem_of_getElem? hmx)
   have hpk : Im.pick y (q : Int) = mx := by unfold Im.pick; rw [if_pos (Int.natCast_nonneg q), Int.toNat_natCast, hmx2]
   rw [hpk] at HSJ
   have hrc := (HRW.out.cell hlt2).1
   have hrf := (HRW.out.cell hlt2).2.1
   have hgtl := (HRW.out.cell hlt2).2.2
   rw [HMG.out] at hrc
   generalize hyv : Im.at0 (Im.imgN n DS d k) j = yv at hrc hbj HSJ
   have HYW := Lib.hid hyv
   have hk16 : (k : Int) * 1048576 ≤ 16 * 1048576 := Int.mul_le_mul_of_nonneg_right (by omega) (by omega)
   have hwy : IntKind.i64.wrap (yv + mx) = yv + mx := wrapI (by omega)
   clear hmr hmx hmx2 hyv hd0 hdl hbj hpk hk16 hy'
   go_wp2
   refine wp_region_splitG 18 (by kernel_rfl) (by kernel_rfl) ?_
   simp only [List.take_succ_cons, List.take_zero, List.drop_succ_cons, List.drop_zero]
   repeat (go_big_quiet_step ((first | fail)))
   refine wpQuiet_nil (gw_out ?_)
   intro wq hbw
   have hrow2 := HRW.out.below hbw
   have hrx2 := HRX.out.below hbw
   have qc := (hrow2.cell hlt2).1
   have qf := (hrow2.cell hlt2).2.1
   rw [HMG.out, HYW.out] at qc
   have HRW2 : Hid (RowI (wq.setCell ⟨go, j, none⟩ (.int .i64 (yv + mx))) w0.heap.size go n n (Im.mix (Im.imgN n DS d k) (Im.imgN n DS d (k + 1)) (j + 1))) := Lib.hid (by
    have h := hrow2.set j (yv + mx)
    have e := Im.mix_set (a := Im.imgN n DS d k) (b := Im.imgN n DS d (k + 1)) (j := j) (by rw [HIL.out]; exact hlt2)
    rw [HSJ.out] at e
    rw [e] at h
    exact h)
   have HRX2 : Hid (RowI (wq.setCell ⟨go, j, none⟩ (.int .i64 (yv + mx))) 0 gx gc n X) := Lib.hid (hrx2.far _ hgxo)
   have HBQ2 : Hid (Below w0.heap.size w0 (wq.setCell ⟨go, j, none⟩ (.int .i64 (yv + mx)))) := Lib.hid ((HBJ.out.call hbw rfl).setCell (p := ⟨go, j, none⟩) HGO.out _)
   clear hrow2 hrx2 hrc hrf hdc hmc hyc hry
   go_wp2
   go_roundw
   case rel => exact ⟨j + 1, by omega, by go_num, HRW2, HRX2, HBQ2⟩
   case measure => simp [intOf]; omega
end Go.Proofs.YtdimmlljjmmdbaaGreatDoor
namespace Go.Proofs.YtdimmlljjmmdbaaGreatDoor
open Go.RowKit Go.Shelf
set_option maxHeartbeats 8000000
set_option maxRecDepth 100000
theorem c24 (c r : Nat) (A : Option Addr) (n cap : Nat) (l : List Int) (un : Int) (ln : Nat) (most : Int) (P : Option Addr) (np capp : Nat) (ps : List Pr) (M : Option Addr) (capm : Nat) (ms : List Int) (w : World) (g : Im.Gr c r l) (hc : c ≤ 16) (hr : r ≤ 16) (hu : 1 ≤ un ∧ un ≤ 1000) (hln : 1 ≤ ln ∧ ln ≤ 256) (hnp : np ≤ 16) (hcells : ∀ p, p ∈ ps → (0 ≤ p.s ∧ p.s < (n : Int)) ∧ (0 ≤ p.r ∧ p.r < (n : Int))) (hms : ∀ k, k < n → -1000 ≤ Im.at0 ms k ∧ Im.at0 ms k ≤ 1000) (H : RdI w A n l) (HP : RdP w P np ps) (HM : RdI w M n ms) :
  Calls Tryz.prog 24 #[.agg #[.int .i64 c, .int .i64 r, .slice A n cap], .agg #[.int .i64 un, .int .i64 (ln : Nat), .int .i64 most, .slice P np capp], .slice M n capm] w fun en w' => ∃ B cb, en = .returned (.slice B np cb) ∧ RdD w' B np (trcs c l un ln most ms ps) ∧ Below w.heap.size w w' := by
 have HPL := Lib.hid HP.len
 have HLN := Lib.hid H.len
 have HML := Lib.hid HM.len
 have hn0 : 0 < n := by
  have h1 := g.c1; have h2 := g.r1; have h3 := g.len
  have : 1 * 1 ≤ c * r := Nat.mul_le_mul h1 h2
  rw [← HLN.out]; omega
 have hn256 : n ≤ 256 := by
  have h3 := g.len
  have : c * r ≤ 16 * 16 := Nat.mul_le_mul hc hr
  rw [← HLN.out]; omega
 obtain ⟨i0, hi, hz0, hz1, hz2⟩ := info_parts info3
 have hmk1 := fun W => run_make_fill (P := Tryz.prog) 22 3 i0 (.int .i64 0) (fun _ => .int .i64 0) Tryz.underlying22 hi hz0 hz1 rfl ln (by omega) (by rw [hz2]; omega) W
 have HMK1 := Lib.hid hmk1
 clear hi hz0 hz1 hz2 hmk1
 have HMS := Lib.hid hms
 have HCE := Lib.hid hcells
 have HG := Lib.hid g
 clear hms hcells
 obtain ⟨TL, hTL⟩ : ∃ T, T = trcs c l un ln most ms ps := ⟨_, rfl⟩
 rw [← hTL]
 have HTL := Lib.hid hTL
 have HTN : Hid (TL.length = np) := Lib.hid (by rw [hTL]; simp [trcs, HPL.out])
 clear hTL
 obtain ⟨w0, hW⟩ : ∃ W, W = (w.alloc (Obj.cells #[.int .i64 c, .int .i64 r, .slice A n cap] 24)).alloc (Obj.cells #[.int .i64 un, .int .i64 (ln : Nat), .int .i64 most, .slice P np capp] 27) := ⟨_, rfl⟩
 have hT0 : w0.heap[w.heap.size]? = some (.cells #[.int .i64 c, .int .i64 r, .slice A n cap] 24 (0, 0)) := by rw [hW]; exact heap_old (by simp <;> omega) (heap_new (by simp))
 have hT1 : w0.heap[w.heap.size + 1]? = some (.cells #[.int .i64 un, .int .i64 (ln : Nat), .int .i64 most, .slice P np capp] 27 (0, 0)) := by rw [hW]; exact heap_new (by simp)
 have hB0 : Below w.heap.size w w0 := by rw [hW]; exact (((Below.refl _ _).alloc (by first | omega | (simp <;> omega)) _).alloc (by first | omega | (simp <;> omega)) _)
 replace H := H.below hB0
 replace HP := HP.below hB0
 replace HM := HM.below hB0
 go_enter Tryz.func24, Tryz.ntmps24
 go_wp2_with fail
 rw [← hW]
 clear hW
 have qhT0_0 : w0.cell? ⟨w.heap.size, 0, none⟩ = some (.int .i64 c) := cell_at hT0 rfl
 have qhT0_1 : w0.cell? ⟨w.heap.size, 1, none⟩ = some (.int .i64 r) := cell_at hT0 rfl
 have qhT0_2 : w0.cell? ⟨w.heap.size, 2, none⟩ = some (.slice A n cap) := cell_at hT0 rfl
 have qhT1_0 : w0.cell? ⟨w.heap.size + 1, 0, none⟩ = some (.int .i64 un) := cell_at hT1 rfl
 have qhT1_1 : w0.cell? ⟨w.heap.size + 1, 1, none⟩ = some (.int .i64 (ln : Nat)) := cell_at hT1 rfl
 have qhT1_2 : w0.cell? ⟨w.heap.size + 1, 2, none⟩ = some (.int .i64 most) := cell_at hT1 rfl
 have qhT1_3 : w0.cell? ⟨w.heap.size + 1, 3, none⟩ = some (.slice P np capp) := cell_at hT1 rfl
 have hst0 : Hid (VR w0 w0.heap.size TL [] 0) := Lib.hid ⟨rfl, fun j _ h => absurd h (Nat.not_lt_zero j)⟩
 go_wp2_with fail
 go_loopw [7, 8] (fun x i wr => ∃ (k : Nat) (us : List Value), k ≤ np ∧ i = .int .i64 k ∧ OwnD wr w0.heap.size x k us ∧ Hid (VR wr w0.heap.size TL us k) ∧ Below w0.heap.size w0 wr) (fun _ i _ => np - (intOf i).toNat)
 case atStart => exact ⟨0, [], Nat.zero_le _, rfl, World.ownsRow_nil _ _ _ _, hst0, Below.refl _ _⟩
 case round =>
  clear hst0
  obtain ⟨k, us, hk, rfl, hown, HVR, hbr⟩ := hrel
  have HB0 := Lib.hid hB0
  obtain ⟨w1, hww⟩ : ∃ W, W = wr := ⟨_, rfl⟩
  subst hww
  have hB1 := hB0.call hbr rfl
  replace hT0 := blkb hT0 hbr
  replace hT1 := blkb hT1 hbr
  replace H := H.below hbr
  replace HP := HP.below hbr
  replace HM := HM.below hbr
  clear hB0
  have qhT0_0 : w1.cell? ⟨w.heap.size, 0, none⟩ = some (.int .i64 c) := cell_at hT0 rfl
  have qhT0_1 : w1.cell? ⟨w.heap.size, 1, none⟩ = some (.int .i64 r) := cell_at hT0 rfl
  have qhT0_2 : w1.cell? ⟨w.heap.size, 2, none⟩ = some (.slice A n cap) := cell_at hT0 rfl
  have qhT1_0 : w1.cell? ⟨w.heap.size + 1, 0, none⟩ = some (.int .i64 un) := cell_at hT1 rfl
  have qhT1_1 : w1.cell? ⟨w.heap.size + 1, 1, none⟩ = some (.int .i64 (ln : Nat)) := cell_at hT1 rfl
  have qhT1_2 : w1.cell? ⟨w.heap.size + 1, 2, none⟩ = some (.int .i64 most) := cell_at hT1 rfl
  have qhT1_3 : w1.cell? ⟨w.heap.size + 1, 3, none⟩ = some (.slice P np capp) := cell_at hT1 rfl
  have HBR := Lib.hid hbr
  have hszk : w0.heap.size ≤ w1.heap.size := hbr.size
  by_cases hlt : k < np
  rotate_left
  ·obtain rfl : np = k := by omega
   obtain ⟨AO, capO, rfl, hrdO⟩ := Sl.of_own hown
   have hdO : Hid (RdD w1 AO np TL) := Lib.hid (by
    have e := HTN.out
    subst e
    exact HVR.out.rd hrdO)
   clear hown HVR hrdO hlt hk
   go_wp2
   go_ret
   exact ⟨AO, capO, rfl, hdO.out, hB1⟩
  obtain ⟨XA, xcap, rfl⟩ := own_slice hown
  have hwk : IntKind.i64.wrap ((k : Int) + 1) = ((k + 1 : Nat) : Int) := by rw [wrapI (by omega)]; simp
  have hkm2 : (k : Int) < (np : Int) := by omega
  have hk02 : (0 : Int) ≤ (k : Int) := by omega
  obtain ⟨pb, poff, p, rfl, hpx, hpb, hp0, hp1, hp2⟩ := HP.at hlt
  have HPX := Lib.hid hpx
  have HTK : Hid (TL[k]? = some (trc c l un ln most ms p)) := Lib.hid (by rw [HTL.out]; unfold trcs; rw [List.getElem?_map, hpx]; rfl)
  have hpc := HCE.out p (List.mem_of_getElem? hpx)
  clear hpx hp0 hp1
  have zp0 := cell_lt hp2
  obtain ⟨p0, p1, ph⟩ := p
  dsimp only at hp2 hpc
  cases ph
  rotate_left
  ·
    obtain ⟨i1, hi, hz0, hz1, hz2⟩ := info_parts infoSl
    have hown' : w1.ownsRow w0.heap.size 22 1 _ k us := hown
    have hszn : w0.heap.size ≤ w1.heap.size := HBR.out.size
    go_wp2_with (at_builtin; refine wpList_append_own _ rfl _ _ 31 rfl w0.heap.size 22 i1 (.slice none 0 0) 1 24 Tryz.underlying31 hi hz0 hz1 hz2 rfl (by decide) _ _ _ rfl (hown'.alloc _) ⟨w1.heap.size, 0, none⟩ 1 1 [.slice none 0 0] rfl rfl (news_one _ _ (by simp)) (fun x hx => by rw [List.mem_singleton.1 hx]; rfl) (by unfold maxLen; omega) (by omega) (by simp; omega) ?_)
    intro x' wz hown3 hg3 _
    have hal : Below w1.heap.size w1 (w1.alloc (Obj.cells #[.slice none 0 0] 22)) := (Below.refl _ _).alloc (Nat.le_refl _) _
    have HB3 : Hid (Below w0.heap.size w0 wz) := Lib.hid ((HBR.out.alloc hszn _).grown hg3 (by simp; omega) (fun g hg => (hown'.lt g hg).1))
    have HVR3 : Hid (VR wz w0.heap.size TL (us ++ [.slice none 0 0]) (k + 1)) := Lib.hid ((HVR.out.below hal).push (hown'.alloc _) hg3 HTK.out (.inl ⟨rfl, rfl⟩))
    have HO : Hid (OwnD wz w0.heap.size x' (k + 1) (us ++ [.slice none 0 0])) := Lib.hid hown3
    clear hown3 hg3 hal hown' hszn hi hz0 hz1 hz2
    go_wp2
    go_roundw
    case rel => exact ⟨k + 1, us ++ [.slice none 0 0], by omega, by go_num, HO.out, HVR3, HB3.out⟩
    case measure => simp [intOf]; omega
  have hmk1 := HMK1.out
  have z0 := cell_lt qhT0_0
  have z1 := cell_lt qhT1_0
  have zpb := hpb
  go_wp2_with fail
  obtain ⟨oI, hoI⟩ : ∃ o, o = (Obj.cells (fillA (.int .i64 0) (fun _ => .int .i64 0) ln 0) 3) := ⟨_, rfl⟩
  obtain ⟨wI, hwI⟩ : ∃ V, V = w1.alloc oI := ⟨_, rfl⟩
  have hbI : Below w1.heap.size w1 wI := by rw [hwI]; exact (Below.refl _ _).alloc (Nat.le_refl _) _
  obtain ⟨gt, hgt⟩ : ∃ b, b = w1.heap.size := ⟨_, rfl⟩
  have hrowI : RowI wI w1.heap.size gt ln ln (Im.trk ln (dlp c l un ln most ⟨p0, p1, false⟩) ms 0) := by
   have h2 : wI.heap[gt]? = some (.cells (fillA (.int .i64 0) (fun _ => .int .i64 0) ln 0) 3 (0, 0)) := by rw [hwI, hoI]; exact heap_new hgt
   refine ⟨_, h2, fillA_size _ _ _ _, Nat.le_refl _, by omega, by rw [Im.trk_len], ?_, by omega⟩
   rw [Im.trk_zero, List.take_of_length_le (by simp [fillA])]
   apply List.ext_getElem?
   intro i
   simp [fillA, encI, List.getElem?_replicate, List.getElem?_range]
   by_cases h : i < ln <;> simp [h]
  have hgtI : gt < wI.heap.size := (hrowI.cell (k := 0) (by omega)).2.2
  rw [← hoI, ← hwI, ← hgt]
  have HGT : Hid (gt = w1.heap.size) := Lib.hid hgt
  clear hmk1 z0 z1 zpb hoI hwI hgt
  obtain ⟨pa, rfl⟩ : ∃ q : Nat, p0 = q := ⟨p0.toNat, by omega⟩
  obtain ⟨pb', rfl⟩ : ∃ q : Nat, p1 = q := ⟨p1.toNat, by omega⟩
  refine (c29o c r A n cap l un ln most (some ⟨pb, poff, none⟩) np capp ps k pa pb' false wI HG.out hc hr hu (by omega) HPX.out hlt (by omega) (by omega) (by omega) (H.below hbI) (HP.below hbI)).mono ?_
  rintro e w20 ⟨gx, gc, rfl, hrx, hb⟩
  have hrow0 : Hid (RowI w20 w1.heap.size gt ln ln (Im.trk ln (dlp c l un ln most ⟨pa, pb', false⟩) ms 0)) := Lib.hid (hrowI.below hb)
  have hgx : gx ≠ gt := by
   obtain ⟨_, _, _, _, _, _, _, h⟩ := hrx
   omega
  have hrx0 := Lib.hid (hrx.lower (Nat.zero_le _))
  have hb20 : Hid (Below w1.heap.size w1 w20) := Lib.hid (hbI.call hb rfl)
  obtain ⟨D, hD⟩ : ∃ D, D = dlp c l un ln most ⟨pa, pb', false⟩ := ⟨_, rfl⟩
  have hD2 : dlL c l un ln most pa pb' false = D := by rw [hD]; rfl
  rw [hD2] at hrx0
  rw [← hD] at hrow0
  have HD := Lib.hid hD
  have HDL : Hid (∀ j, j < n → 0 ≤ Im.at0 D j → Im.at0 D j < (ln : Int)) := Lib.hid (fun j hj h => by rw [hD] at h ⊢; exact dlp_lt (by rw [HLN.out]; exact hj) h)
  have HDN : Hid (D.length = n) := Lib.hid (by rw [hD, dlp_len, HLN.out])
  have HOW := Lib.hid hown
  clear hrowI hgtI hb hbI hrx hD hD2 hown hp2 hpb hpc zp0
  go_wp2_with fail
  go_loopw [11] (fun i wr => ∃ j : Nat, j ≤ n ∧ i = .int .i64 j ∧ Hid (RowI wr w1.heap.size gt ln ln (Im.trk ln D ms j)) ∧ Hid (RowI wr 0 gx gc n D) ∧ Hid (Below w1.heap.size w1 wr)) (fun i _ => n - (intOf i).toNat)
  case atStart => exact ⟨0, Nat.zero_le _, rfl, hrow0, hrx0, hb20⟩
  case round =>
   clear hrow0 hrx0 hb20
   obtain ⟨j, hj, rfl, HRW, HRX, HBJ⟩ := hrel
   have hbj := HBJ.out
   obtain ⟨w2, hww⟩ : ∃ W, W = wr := ⟨_, rfl⟩
   subst hww
   have hB2 := hB1.call hbj rfl
   replace hT0 := blkb hT0 hbj
   replace hT1 := blkb hT1 hbj
   replace H := H.below hbj
   replace HP := HP.below hbj
   replace HM := HM.below hbj
   replace hbr := hbr.call hbj rfl
   clear hB1
   have qhT0_0 : w2.cell? ⟨w.heap.size, 0, none⟩ = some (.int .i64 c) := cell_at hT0 rfl
   have qhT0_1 : w2.cell? ⟨w.heap.size, 1, none⟩ = some (.int .i64 r) := cell_at hT0 rfl
   have qhT0_2 : w2.cell? ⟨w.heap.size, 2, none⟩ = some (.slice A n cap) := cell_at hT0 rfl
   have qhT1_0 : w2.cell? ⟨w.heap.size + 1, 0, none⟩ = some (.int .i64 un) := cell_at hT1 rfl
   have qhT1_1 : w2.cell? ⟨w.heap.size + 1, 1, none⟩ = some (.int .i64 (ln : Nat)) := cell_at hT1 rfl
   have qhT1_2 : w2.cell? ⟨w.heap.size + 1, 2, none⟩ = some (.int .i64 most) := cell_at hT1 rfl
   have qhT1_3 : w2.cell? ⟨w.heap.size + 1, 3, none⟩ = some (.slice (some ⟨pb, poff, none⟩) np capp) := cell_at hT1 rfl
   clear hbj
   have hwj : IntKind.i64.wrap ((j : Int) + 1) = ((j + 1 : Nat) : Int) := by rw [wrapI (by omega)]; simp
   by_cases hlt2 : j < n
   rotate_left
   ·
     obtain rfl : n = j := by omega
     have HRF : Hid (RowI w2 w0.heap.size gt ln ln (trc c l un ln most ms ⟨pa, pb', false⟩)) := Lib.hid (by
      have e1 : Im.trk ln D ms n = trc c l un ln most ms ⟨pa, pb', false⟩ := by rw [HD.out]; exact Im.trk_full (by rw [← HD.out]; exact HDN.out) HML.out
      have h0 := HRW.out
      rw [e1] at h0
      exact h0.lower hszk)
     have HTLN : Hid ((trc c l un ln most ms ⟨pa, pb', false⟩).length = ln) := Lib.hid (by unfold trc; rw [if_neg (by simp)]; exact Im.trace_len _ _ _)
     have HB2 := Lib.hid (HBR.out.trans (HBJ.out.mono hszk))
     have HVR2 := Lib.hid (HVR.out.below HBJ.out)
     obtain ⟨i1, hi, hz0, hz1, hz2⟩ := info_parts infoSl
     have hown' : w2.ownsRow w0.heap.size 22 1 _ k us := own_below HOW.out HBJ.out
     have hszn : w0.heap.size ≤ w2.heap.size := HB2.out.size
     go_wp2_with (at_builtin; refine wpList_append_own _ rfl _ _ 31 rfl w0.heap.size 22 i1 (.slice none 0 0) 1 24 Tryz.underlying31 hi hz0 hz1 hz2 rfl (by decide) _ _ _ rfl (hown'.alloc _) ⟨w2.heap.size, 0, none⟩ 1 1 [.slice (some ⟨gt, 0, none⟩) ln ln] rfl rfl (news_one _ _ (by simp)) (fun x hx => by rw [List.mem_singleton.1 hx]; rfl) (by unfold maxLen; omega) (by omega) (by simp; omega) ?_)
     intro x' wz hown3 hg3 _
     have hal : Below w2.heap.size w2 (w2.alloc (Obj.cells #[.slice (some ⟨gt, 0, none⟩) ln ln] 22)) := (Below.refl _ _).alloc (Nat.le_refl _) _
     have HB3 : Hid (Below w0.heap.size w0 wz) := Lib.hid ((HB2.out.alloc hszn _).grown hg3 (by simp; omega) (fun g hg => (hown'.lt g hg).1))
     have HVR3 : Hid (VR wz w0.heap.size TL (us ++ [.slice (some ⟨gt, 0, none⟩) ln ln]) (k + 1)) := Lib.hid ((HVR2.out.below hal).push (hown'.alloc _) hg3 HTK.out (.inr ⟨gt, ln, by rw [HTLN.out], by rw [HTLN.out]; exact HRF.out.below hal⟩))
     have HO : Hid (OwnD wz w0.heap.size x' (k + 1) (us ++ [.slice (some ⟨gt, 0, none⟩) ln ln])) := Lib.hid hown3
     clear hown3 hg3 hal hown' hszn hi hz0 hz1 hz2
     go_wp2
     go_roundw
     case rel => exact ⟨k + 1, us ++ [.slice (some ⟨gt, 0, none⟩) ln ln], by omega, by go_num, HO.out, HVR3, HB3.out⟩
     case measure => simp [intOf]; omega
   have hjn2 : (j : Int) < (n : Int) := by omega
   have hj02 : (0 : Int) ≤ (j : Int) := by omega
   have hdc := (HRX.out.cell hlt2).1
   have zgx := (HRX.out.cell hlt2).2.2
   have HDJ := Lib.hid (HDL.out j hlt2)
   have HTS : Hid (Im.trk ln D ms (j + 1) = Im.addAt (Im.trk ln D ms j) (Im.at0 D j) (Im.at0 ms j)) := Lib.hid (Im.trk_succ (by rw [HDN.out]; exact hlt2) (by rw [HML.out]; exact hlt2))
   generalize hdj : Im.at0 D j = dj at hdc HDJ HTS
   clear hdj
   by_cases hd0 : 0 ≤ dj
   rotate_left
   ·
     have hdd : decide ((0 : Int) ≤ dj) = false := by simpa using hd0
     have hdd2 : decide (dj < 0) = true := by simp; omega
     have HRW2 : Hid (RowI w2 w1.heap.size gt ln ln (Im.trk ln D ms (j + 1))) := Lib.hid (by
      rw [HTS.out]
      unfold Im.addAt
      rw [if_neg hd0]
      exact HRW.out)
     clear hd0
     go_wp2
     go_roundw
     case rel => exact ⟨j + 1, by omega, by go_num, HRW2, HRX, HBJ⟩
     case measure => simp [intOf]; omega
   have hdl := HDJ.out hd0
   obtain ⟨q, rfl⟩ : ∃ q : Nat, dj = q := ⟨dj.toNat, by omega⟩
   have hq : q < ln := by omega
   have hdd : decide ((0 : Int) ≤ (q : Int)) = true := by simp
   have hql : (q : Int) < (ln : Int) := by omega
   have hq0 : (0 : Int) ≤ (q : Int) := by omega
   obtain ⟨mb, moff, mx, rfl, hmx, hmb, hmc⟩ := HM.at hlt2
   have hmx2 : Im.at0 ms j = mx := by simp [Im.at0, List.getD_eq_getElem?_getD, hmx]
   have hmr := HMS.out j hlt2
   rw [hmx2] at hmr HTS
   have htl := Im.trk_le (len := ln) (ds := D) (ms := ms) (B := 1000) (by omega) (fun k hk => HMS.out k (by rw [← HML.out]; exact hk)) (by rw [HDN.out, HML.out]) j (by rw [HDN.out]; exact hj) q
   have hrc := (HRW.out.cell hq).1
   have hrf := (HRW.out.cell hq).2.1
   have hgtl := (HRW.out.cell hq).2.2
   generalize hyv : Im.at0 (Im.trk ln D ms j) q = yv at hrc htl
   have HYV := Lib.hid hyv
   have hwy : IntKind.i64.wrap (yv + mx) = yv + mx := wrapI (by omega)
   clear hmr htl hmx hmx2 hyv hd0 hdl
   go_wp2
   refine wp_region_splitG 18 (by kernel_rfl) (by kernel_rfl) ?_
   simp only [List.take_succ_cons, List.take_zero, List.drop_succ_cons, List.drop_zero]
   repeat (go_big_quiet_step ((first | fail)))
   refine wpQuiet_nil (gw_out ?_)
   intro wq hbw
   have hrow2 := HRW.out.below hbw
   have hrx2 := HRX.out.below hbw
   have qc := (hrow2.cell hq).1
   have qf := (hrow2.cell hq).2.1
   rw [HYV.out] at qc
   have HRW2 : Hid (RowI (wq.setCell ⟨gt, q, none⟩ (.int .i64 (yv + mx))) w1.heap.size gt ln ln (Im.trk ln D ms (j + 1))) := Lib.hid (by
    rw [HTS.out]
    unfold Im.addAt
    rw [if_pos (Int.natCast_nonneg q), Int.toNat_natCast, HYV.out]
    exact hrow2.set q (yv + mx))
   have HRX2 : Hid (RowI (wq.setCell ⟨gt, q, none⟩ (.int .i64 (yv + mx))) 0 gx gc n D) := Lib.hid (hrx2.far _ hgx)
   have HBQ2 : Hid (Below w1.heap.size w1 (wq.setCell ⟨gt, q, none⟩ (.int .i64 (yv + mx)))) := Lib.hid ((HBJ.out.call hbw rfl).setCell (p := ⟨gt, q, none⟩) (by show _ ≤ gt; rw [HGT.out]; exact Nat.le_refl _) _)
   clear hrow2 hrx2 hrc hrf hdc hmc
   go_wp2
   go_roundw
   case rel => exact ⟨j + 1, by omega, by go_num, HRW2, HRX2, HBQ2⟩
   case measure => simp [intOf]; omega
end Go.Proofs.YtdimmlljjmmdbaaGreatDoor
namespace Go.Proofs.YtdimmlljjmmdbaaGreatDoor
open Go.RowKit Go.Shelf
set_option maxHeartbeats 8000000
set_option maxRecDepth 100000
theorem first_two (a b c : Int) : Mo.first [Mo.first [a, b], c] = Mo.first [a, b, c] := by
 by_cases ha : a = 0
 ·subst ha; simp [Mo.first]
  by_cases hb : b = 0
  ·subst hb; simp
  ·simp [hb]
 ·simp [Mo.first, ha]
theorem first_mdl (a b : Int) : Mo.first [a, b] = if a ≠ 0 then a else b := by
 by_cases ha : a = 0
 ·subst ha; simp [Mo.first]
  intro h; exact h.symm
 ·simp [Mo.first, ha]
theorem c23 (c r : Int) (A : Option Addr) (n cap : Nat) (l : List Int) (un len most : Int) (P : Option Addr) (np capp : Nat) (ps : List Pr) (M : Option Addr) (m capm : Nat) (ms : List Int) (w : World) (hl : n ≤ 1000000) (hp : np ≤ 1000000) (hm : m ≤ 1000000) (H : RdI w A n l) (HP : RdP w P np ps) (HM : RdI w M m ms) :
  Calls Tryz.prog 23 #[.agg #[.int .i64 c, .int .i64 r, .slice A n cap], .agg #[.int .i64 un, .int .i64 len, .int .i64 most, .slice P np capp], .slice M m capm] w fun en w' => en = .returned (.int .i64 (Mo.mdl c r l un len most ps ms)) ∧ Below w.heap.size w w' := by
 have HLN := Lib.hid H.len
 have HMN := Lib.hid HM.len
 obtain ⟨X, hX⟩ : ∃ X, X = Mo.mdl c r l un len most ps ms := ⟨_, rfl⟩
 rw [← hX]
 have HX : Hid (X = if Mo.surv c r l un len most ps ≠ 0 then Mo.surv c r l un len most ps else Mo.first [Mo.when ((m : Int) != (n : Int)) 2, Mo.allw ms (-1000) 1000]) := Lib.hid (by rw [hX]; unfold Mo.mdl; rw [first_mdl, HMN.out, HLN.out])
 clear hX
 obtain ⟨w0, hW⟩ : ∃ W, W = (w.alloc (Obj.cells #[.int .i64 c, .int .i64 r, .slice A n cap] 24)).alloc (Obj.cells #[.int .i64 un, .int .i64 len, .int .i64 most, .slice P np capp] 27) := ⟨_, rfl⟩
 have hT0 : w0.heap[w.heap.size]? = some (.cells #[.int .i64 c, .int .i64 r, .slice A n cap] 24 (0, 0)) := by rw [hW]; exact heap_old (by simp <;> omega) (heap_new (by simp))
 have hT1 : w0.heap[w.heap.size + 1]? = some (.cells #[.int .i64 un, .int .i64 len, .int .i64 most, .slice P np capp] 27 (0, 0)) := by rw [hW]; exact heap_new (by simp)
 have hB0 : Below w.heap.size w w0 := by rw [hW]; exact (((Below.refl _ _).alloc (by first | omega | (simp <;> omega)) _).alloc (by first | omega | (simp <;> omega)) _)
 replace H := H.below hB0
 replace HP := HP.below hB0
 replace HM := HM.below hB0
 go_enter Tryz.func23, Tryz.ntmps23
 go_wp2_with fail
 rw [← hW]
 clear hW
 have qhT0_0 : w0.cell? ⟨w.heap.size, 0, none⟩ = some (.int .i64 c) := cell_at hT0 rfl
 have qhT0_1 : w0.cell? ⟨w.heap.size, 1, none⟩ = some (.int .i64 r) := cell_at hT0 rfl
 have qhT0_2 : w0.cell? ⟨w.heap.size, 2, none⟩ = some (.slice A n cap) := cell_at hT0 rfl
 have qhT1_0 : w0.cell? ⟨w.heap.size + 1, 0, none⟩ = some (.int .i64 un) := cell_at hT1 rfl
 have qhT1_1 : w0.cell? ⟨w.heap.size + 1, 1, none⟩ = some (.int .i64 len) := cell_at hT1 rfl
 have qhT1_2 : w0.cell? ⟨w.heap.size + 1, 2, none⟩ = some (.int .i64 most) := cell_at hT1 rfl
 have qhT1_3 : w0.cell? ⟨w.heap.size + 1, 3, none⟩ = some (.slice P np capp) := cell_at hT1 rfl
 go_wp2_with fail
 refine (c26 c r A n cap l un len most P np capp ps _ hl hp H HP).mono ?_
 rintro e w1 ⟨rfl, hb⟩
 clear qhT0_0 qhT0_1 qhT0_2 qhT1_0 qhT1_1 qhT1_2 qhT1_3
 have hS := hb
 have hB1 := hB0.call hS rfl
 replace hT0 := blkb hT0 hS
 replace hT1 := blkb hT1 hS
 replace H := H.below hS
 replace HP := HP.below hS
 replace HM := HM.below hS
 clear hS hB0
 have qhT0_0 : w1.cell? ⟨w.heap.size, 0, none⟩ = some (.int .i64 c) := cell_at hT0 rfl
 have qhT0_1 : w1.cell? ⟨w.heap.size, 1, none⟩ = some (.int .i64 r) := cell_at hT0 rfl
 have qhT0_2 : w1.cell? ⟨w.heap.size, 2, none⟩ = some (.slice A n cap) := cell_at hT0 rfl
 have qhT1_0 : w1.cell? ⟨w.heap.size + 1, 0, none⟩ = some (.int .i64 un) := cell_at hT1 rfl
 have qhT1_1 : w1.cell? ⟨w.heap.size + 1, 1, none⟩ = some (.int .i64 len) := cell_at hT1 rfl
 have qhT1_2 : w1.cell? ⟨w.heap.size + 1, 2, none⟩ = some (.int .i64 most) := cell_at hT1 rfl
 have qhT1_3 : w1.cell? ⟨w.heap.size + 1, 3, none⟩ = some (.slice P np capp) := cell_at hT1 rfl
 clear hb
 obtain ⟨E, hE⟩ : ∃ E, E = Mo.surv c r l un len most ps := ⟨_, rfl⟩
 rw [← hE]
 have HE := Lib.hid hE
 clear hE
 by_cases hE0 : E = 0
 rotate_left
 ·
   have hef : (E != 0) = true := by simpa using hE0
   have HV : Hid (X = E) := Lib.hid (by rw [HX.out, ← HE.out, if_pos hE0])
   clear hE0
   go_wp2
   go_ret
   exact ⟨ret_int HV.out.symm, hB1⟩
 have hef : (E != 0) = false := by simp [hE0]
 have HV : Hid (X = Mo.first [Mo.when ((m : Int) != (n : Int)) 2, Mo.allw ms (-1000) 1000]) := Lib.hid (by rw [HX.out, ← HE.out, if_neg (by simp [hE0])])
 clear hE0
 by_cases hmn : m = n
 rotate_left
 ·
   have hne : ((m : Int) != (n : Int)) = true := by simp; omega
   have HW : Hid (X = 2) := Lib.hid (by rw [HV.out, hne]; exact Mo.first_nz (by decide) _)
   clear hmn
   go_wp2
   go_ret
   exact ⟨ret_int HW.out.symm, hB1⟩
 have hne : ((m : Int) != (n : Int)) = false := by simp; omega
 have HW : Hid (X = Mo.allw ms (-1000) 1000) := Lib.hid (by rw [HV.out, hne]; show Mo.first [0, _] = _; rw [Mo.first_z rfl, Mo.first_one])
 clear hmn
 go_wp2_with fail
 refine (c92 M m capm ms _ _ _ hm HM).mono ?_
 rintro e w' ⟨rfl, rfl⟩
 rw [← HW.out]
 go_wp2
 go_ret
 exact ⟨rfl, hB1⟩
theorem c36 (c r : Int) (A : Option Addr) (n cap : Nat) (l : List Int) (un len most : Int) (P : Option Addr) (np capp : Nat) (ps : List Pr) (M : Option Addr) (m capm : Nat) (ms : List Int) (D : Option Addr) (md capd : Nat) (d : List (List Int)) (w : World) (hl : n ≤ 1000000) (hp : np ≤ 1000000) (hm : m ≤ 1000000) (hd : md ≤ 1000000) (hdl : ∀ x, x ∈ d → x.length ≤ 1000000) (H : RdI w A n l) (HP : RdP w P np ps) (HM : RdI w M m ms) (HD : RdD w D md d) :
  Calls Tryz.prog 36 #[.agg #[.int .i64 c, .int .i64 r, .slice A n cap], .agg #[.int .i64 un, .int .i64 len, .int .i64 most, .slice P np capp], .slice M m capm, .slice D md capd] w fun en w' => en = .returned (.int .i64 (Mo.fit c r l un len most ps ms d)) ∧ Below w.heap.size w w' := by
 have HDL := Lib.hid hdl
 obtain ⟨X, hX⟩ : ∃ X, X = Mo.fit c r l un len most ps ms d := ⟨_, rfl⟩
 rw [← hX]
 have HX : Hid (X = if Mo.mdl c r l un len most ps ms ≠ 0 then Mo.mdl c r l un len most ps ms else Mo.dat len ps d) := Lib.hid (by rw [hX]; unfold Mo.fit; rw [← first_two]; exact first_mdl _ _)
 clear hX hdl
 obtain ⟨w0, hW⟩ : ∃ W, W = (w.alloc (Obj.cells #[.int .i64 c, .int .i64 r, .slice A n cap] 24)).alloc (Obj.cells #[.int .i64 un, .int .i64 len, .int .i64 most, .slice P np capp] 27) := ⟨_, rfl⟩
 have hT0 : w0.heap[w.heap.size]? = some (.cells #[.int .i64 c, .int .i64 r, .slice A n cap] 24 (0, 0)) := by rw [hW]; exact heap_old (by simp <;> omega) (heap_new (by simp))
 have hT1 : w0.heap[w.heap.size + 1]? = some (.cells #[.int .i64 un, .int .i64 len, .int .i64 most, .slice P np capp] 27 (0, 0)) := by rw [hW]; exact heap_new (by simp)
 have hB0 : Below w.heap.size w w0 := by rw [hW]; exact (((Below.refl _ _).alloc (by first | omega | (simp <;> omega)) _).alloc (by first | omega | (simp <;> omega)) _)
 replace H := H.below hB0
 replace HP := HP.below hB0
 replace HM := HM.below hB0
 replace HD := HD.below hB0
 go_enter Tryz.func36, Tryz.ntmps36
 go_wp2_with fail
 rw [← hW]
 clear hW
 have qhT0_0 : w0.cell? ⟨w.heap.size, 0, none⟩ = some (.int .i64 c) := cell_at hT0 rfl
 have qhT0_1 : w0.cell? ⟨w.heap.size, 1, none⟩ = some (.int .i64 r) := cell_at hT0 rfl
 have qhT0_2 : w0.cell? ⟨w.heap.size, 2, none⟩ = some (.slice A n cap) := cell_at hT0 rfl
 have qhT1_0 : w0.cell? ⟨w.heap.size + 1, 0, none⟩ = some (.int .i64 un) := cell_at hT1 rfl
 have qhT1_1 : w0.cell? ⟨w.heap.size + 1, 1, none⟩ = some (.int .i64 len) := cell_at hT1 rfl
 have qhT1_2 : w0.cell? ⟨w.heap.size + 1, 2, none⟩ = some (.int .i64 most) := cell_at hT1 rfl
 have qhT1_3 : w0.cell? ⟨w.heap.size + 1, 3, none⟩ = some (.slice P np capp) := cell_at hT1 rfl
 go_wp2_with fail
 refine (c23 c r A n cap l un len most P np capp ps M m capm ms _ hl hp hm H HP HM).mono ?_
 rintro e w1 ⟨rfl, hb⟩
 clear qhT0_0 qhT0_1 qhT0_2 qhT1_0 qhT1_1 qhT1_2 qhT1_3
 have hS := hb
 have hB1 := hB0.call hS rfl
 replace hT0 := blkb hT0 hS
 replace hT1 := blkb hT1 hS
 replace H := H.below hS
 replace HP := HP.below hS
 replace HM := HM.below hS
 replace HD := HD.below hS
 clear hS hB0
 have qhT0_0 : w1.cell? ⟨w.heap.size, 0, none⟩ = some (.int .i64 c) := cell_at hT0 rfl
 have qhT0_1 : w1.cell? ⟨w.heap.size, 1, none⟩ = some (.int .i64 r) := cell_at hT0 rfl
 have qhT0_2 : w1.cell? ⟨w.heap.size, 2, none⟩ = some (.slice A n cap) := cell_at hT0 rfl
 have qhT1_0 : w1.cell? ⟨w.heap.size + 1, 0, none⟩ = some (.int .i64 un) := cell_at hT1 rfl
 have qhT1_1 : w1.cell? ⟨w.heap.size + 1, 1, none⟩ = some (.int .i64 len) := cell_at hT1 rfl
 have qhT1_2 : w1.cell? ⟨w.heap.size + 1, 2, none⟩ = some (.int .i64 most) := cell_at hT1 rfl
 have qhT1_3 : w1.cell? ⟨w.heap.size + 1, 3, none⟩ = some (.slice P np capp) := cell_at hT1 rfl
 clear hb
 obtain ⟨E, hE⟩ : ∃ E, E = Mo.mdl c r l un len most ps ms := ⟨_, rfl⟩
 rw [← hE]
 have HE := Lib.hid hE
 clear hE
 by_cases hE0 : E = 0
 rotate_left
 ·
   have hef : (E != 0) = true := by simpa using hE0
   have HV : Hid (X = E) := Lib.hid (by rw [HX.out, ← HE.out, if_pos hE0])
   clear hE0
   go_wp2
   go_ret
   exact ⟨ret_int HV.out.symm, hB1⟩
 have hef : (E != 0) = false := by simp [hE0]
 have HV : Hid (X = Mo.dat len ps d) := Lib.hid (by rw [HX.out, ← HE.out, if_neg (by simp [hE0])])
 clear hE0
 go_wp2_with fail
 refine (c110 un len most P np capp ps D md capd d _ hp hd HDL.out HP HD).mono ?_
 rintro e w2 ⟨rfl, hb⟩
 clear qhT0_0 qhT0_1 qhT0_2 qhT1_0 qhT1_1 qhT1_2 qhT1_3
 have hS := hb
 have hB2 := hB1.call hS rfl
 replace hT0 := blkb hT0 hS
 replace hT1 := blkb hT1 hS
 replace H := H.below hS
 replace HP := HP.below hS
 replace HM := HM.below hS
 replace HD := HD.below hS
 clear hS hB1
 have qhT0_0 : w2.cell? ⟨w.heap.size, 0, none⟩ = some (.int .i64 c) := cell_at hT0 rfl
 have qhT0_1 : w2.cell? ⟨w.heap.size, 1, none⟩ = some (.int .i64 r) := cell_at hT0 rfl
 have qhT0_2 : w2.cell? ⟨w.heap.size, 2, none⟩ = some (.slice A n cap) := cell_at hT0 rfl
 have qhT1_0 : w2.cell? ⟨w.heap.size + 1, 0, none⟩ = some (.int .i64 un) := cell_at hT1 rfl
 have qhT1_1 : w2.cell? ⟨w.heap.size + 1, 1, none⟩ = some (.int .i64 len) := cell_at hT1 rfl
 have qhT1_2 : w2.cell? ⟨w.heap.size + 1, 2, none⟩ = some (.int .i64 most) := cell_at hT1 rfl
 have qhT1_3 : w2.cell? ⟨w.heap.size + 1, 3, none⟩ = some (.slice P np capp) := cell_at hT1 rfl
 clear hb
 rw [← HV.out]
 go_wp2
 go_ret
 exact ⟨rfl, hB2⟩
theorem c46 (c r : Int) (A : Option Addr) (n cap : Nat) (l : List Int) (un len most : Int) (P : Option Addr) (np capp : Nat) (ps : List Pr) (D : Option Addr) (md capd : Nat) (d : List (List Int)) (F : Option Addr) (me cape : Nat) (e : List (List Int)) (w : World) (hl : n ≤ 1000000) (hp : np ≤ 1000000) (hd : md ≤ 1000000) (hdl : ∀ x, x ∈ d → x.length ≤ 1000000) (he : me ≤ 1000000) (hel : ∀ x, x ∈ e → x.length ≤ 1000000) (H : RdI w A n l) (HP : RdP w P np ps) (HD : RdD w D md d) (HF : RdD w F me e) :
  Calls Tryz.prog 46 #[.agg #[.int .i64 c, .int .i64 r, .slice A n cap], .agg #[.int .i64 un, .int .i64 len, .int .i64 most, .slice P np capp], .slice D md capd, .slice F me cape] w fun en w' => en = .returned (.int .i64 (Mo.bth c r l un len most ps d e)) ∧ Below w.heap.size w w' := by
 have HDL := Lib.hid hdl
 have HEL := Lib.hid hel
 obtain ⟨X, hX⟩ : ∃ X, X = Mo.bth c r l un len most ps d e := ⟨_, rfl⟩
 rw [← hX]
 have HX : Hid (X = if Mo.dta c r l un len most ps d ≠ 0 then Mo.dta c r l un len most ps d else Mo.dat len ps e) := Lib.hid (by rw [hX]; unfold Mo.bth; exact first_mdl _ _)
 clear hX hdl hel
 obtain ⟨w0, hW⟩ : ∃ W, W = (w.alloc (Obj.cells #[.int .i64 c, .int .i64 r, .slice A n cap] 24)).alloc (Obj.cells #[.int .i64 un, .int .i64 len, .int .i64 most, .slice P np capp] 27) := ⟨_, rfl⟩
 have hT0 : w0.heap[w.heap.size]? = some (.cells #[.int .i64 c, .int .i64 r, .slice A n cap] 24 (0, 0)) := by rw [hW]; exact heap_old (by simp <;> omega) (heap_new (by simp))
 have hT1 : w0.heap[w.heap.size + 1]? = some (.cells #[.int .i64 un, .int .i64 len, .int .i64 most, .slice P np capp] 27 (0, 0)) := by rw [hW]; exact heap_new (by simp)
 have hB0 : Below w.heap.size w w0 := by rw [hW]; exact (((Below.refl _ _).alloc (by first | omega | (simp <;> omega)) _).alloc (by first | omega | (simp <;> omega)) _)
 replace H := H.below hB0
 replace HP := HP.below hB0
 replace HD := HD.below hB0
 replace HF := HF.below hB0
 go_enter Tryz.func46, Tryz.ntmps46
 go_wp2_with fail
 rw [← hW]
 clear hW
 have qhT0_0 : w0.cell? ⟨w.heap.size, 0, none⟩ = some (.int .i64 c) := cell_at hT0 rfl
 have qhT0_1 : w0.cell? ⟨w.heap.size, 1, none⟩ = some (.int .i64 r) := cell_at hT0 rfl
 have qhT0_2 : w0.cell? ⟨w.heap.size, 2, none⟩ = some (.slice A n cap) := cell_at hT0 rfl
 have qhT1_0 : w0.cell? ⟨w.heap.size + 1, 0, none⟩ = some (.int .i64 un) := cell_at hT1 rfl
 have qhT1_1 : w0.cell? ⟨w.heap.size + 1, 1, none⟩ = some (.int .i64 len) := cell_at hT1 rfl
 have qhT1_2 : w0.cell? ⟨w.heap.size + 1, 2, none⟩ = some (.int .i64 most) := cell_at hT1 rfl
 have qhT1_3 : w0.cell? ⟨w.heap.size + 1, 3, none⟩ = some (.slice P np capp) := cell_at hT1 rfl
 go_wp2_with fail
 refine (c52 c r A n cap l un len most P np capp ps D md capd d _ hl hp hd HDL.out HP HD H).mono ?_
 rintro e w1 ⟨rfl, hb⟩
 clear qhT0_0 qhT0_1 qhT0_2 qhT1_0 qhT1_1 qhT1_2 qhT1_3
 have hS := hb
 have hB1 := hB0.call hS rfl
 replace hT0 := blkb hT0 hS
 replace hT1 := blkb hT1 hS
 replace H := H.below hS
 replace HP := HP.below hS
 replace HD := HD.below hS
 replace HF := HF.below hS
 clear hS hB0
 have qhT0_0 : w1.cell? ⟨w.heap.size, 0, none⟩ = some (.int .i64 c) := cell_at hT0 rfl
 have qhT0_1 : w1.cell? ⟨w.heap.size, 1, none⟩ = some (.int .i64 r) := cell_at hT0 rfl
 have qhT0_2 : w1.cell? ⟨w.heap.size, 2, none⟩ = some (.slice A n cap) := cell_at hT0 rfl
 have qhT1_0 : w1.cell? ⟨w.heap.size + 1, 0, none⟩ = some (.int .i64 un) := cell_at hT1 rfl
 have qhT1_1 : w1.cell? ⟨w.heap.size + 1, 1, none⟩ = some (.int .i64 len) := cell_at hT1 rfl
 have qhT1_2 : w1.cell? ⟨w.heap.size + 1, 2, none⟩ = some (.int .i64 most) := cell_at hT1 rfl
 have qhT1_3 : w1.cell? ⟨w.heap.size + 1, 3, none⟩ = some (.slice P np capp) := cell_at hT1 rfl
 clear hb
 obtain ⟨E, hE⟩ : ∃ E, E = Mo.dta c r l un len most ps d := ⟨_, rfl⟩
 rw [← hE]
 have HE := Lib.hid hE
 clear hE
 by_cases hE0 : E = 0
 rotate_left
 ·
   have hef : (E != 0) = true := by simpa using hE0
   have HV : Hid (X = E) := Lib.hid (by rw [HX.out, ← HE.out, if_pos hE0])
   clear hE0
   go_wp2
   go_ret
   exact ⟨ret_int HV.out.symm, hB1⟩
 have hef : (E != 0) = false := by simp [hE0]
 have HV : Hid (X = Mo.dat len ps e) := Lib.hid (by rw [HX.out, ← HE.out, if_neg (by simp [hE0])])
 clear hE0
 go_wp2_with fail
 refine (c110 un len most P np capp ps F me cape e _ hp he HEL.out HP HF).mono ?_
 rintro e w2 ⟨rfl, hb⟩
 clear qhT0_0 qhT0_1 qhT0_2 qhT1_0 qhT1_1 qhT1_2 qhT1_3
 have hS := hb
 have hB2 := hB1.call hS rfl
 replace hT0 := blkb hT0 hS
 replace hT1 := blkb hT1 hS
 replace H := H.below hS
 replace HP := HP.below hS
 replace HD := HD.below hS
 replace HF := HF.below hS
 clear hS hB1
 have qhT0_0 : w2.cell? ⟨w.heap.size, 0, none⟩ = some (.int .i64 c) := cell_at hT0 rfl
 have qhT0_1 : w2.cell? ⟨w.heap.size, 1, none⟩ = some (.int .i64 r) := cell_at hT0 rfl
 have qhT0_2 : w2.cell? ⟨w.heap.size, 2, none⟩ = some (.slice A n cap) := cell_at hT0 rfl
 have qhT1_0 : w2.cell? ⟨w.heap.size + 1, 0, none⟩ = some (.int .i64 un) := cell_at hT1 rfl
 have qhT1_1 : w2.cell? ⟨w.heap.size + 1, 1, none⟩ = some (.int .i64 len) := cell_at hT1 rfl
 have qhT1_2 : w2.cell? ⟨w.heap.size + 1, 2, none⟩ = some (.int .i64 most) := cell_at hT1 rfl
 have qhT1_3 : w2.cell? ⟨w.heap.size + 1, 3, none⟩ = some (.slice P np capp) := cell_at hT1 rfl
 clear hb
 rw [← HV.out]
 go_wp2
 go_ret
 exact ⟨rfl, hB2⟩
end Go.Proofs.YtdimmlljjmmdbaaGreatDoor
namespace Go.Proofs.YtdimmlljjmmdbaaGreatDoor
open Go.RowKit Go.Shelf
set_option maxHeartbeats 8000000
set_option maxRecDepth 100000
theorem c111z (A B : Option Addr) (n cap cap2 : Nat) (a b : List Int) (w : World) (hn : n ≤ 4096) (H : RdI w A n a) (G : RdI w B n b) (ha : ∀ x, x ∈ a → -16777216 ≤ x ∧ x ≤ 16777216) (hb : ∀ x, x ∈ b → -16777216 ≤ x ∧ x ≤ 16777216) :
  Calls Tryz.prog 111 #[.slice A n cap, .slice B n cap2] w fun en w' => en = .returned (.int .i64 (Im.inner a b)) ∧ Below w.heap.size w w' := by
 have HV : Hid (Im.innK a b n = Im.inner a b) := Lib.hid (Im.innK_full H.len G.len)
 rw [← HV.out]
 have HA0 := Im.at0_le (by omega) ha
 have HB0 := Im.at0_le (by omega) hb
 have HLE := Lib.hid (Im.innK_le (by omega) HA0 HB0)
 have HMU := Lib.hid (fun k => Im.mul_le (by omega) (HA0 k) (HB0 k))
 have HH := Lib.hid H
 have GG := Lib.hid G
 clear H G ha hb HV HA0 HB0
 go_enter Tryz.func111, Tryz.ntmps111
 go_wp2
 go_loopw [5, 6] (fun S i wr => Below w.heap.size w wr ∧ ∃ k : Nat, k ≤ n ∧ i = .int .i64 k ∧ S = .int .i64 (Im.innK a b k)) (fun _ i _ => n - (intOf i).toNat)
 case atStart => exact ⟨Below.refl _ _, 0, Nat.zero_le _, rfl, rfl⟩
 case round =>
  obtain ⟨hbel, k, hk, rfl, rfl⟩ := hrel
  have HBL := Lib.hid hbel
  by_cases hlt : k < n
  ·obtain ⟨p, poff, rfl, hp, _⟩ := (HH.out.below hbel).2 (by omega)
   obtain ⟨q, qoff, rfl, hq, _⟩ := (GG.out.below hbel).2 (by omega)
   have c1 := (HH.out.below hbel).get hlt
   have c2 := (GG.out.below hbel).get hlt
   have hwk : IntKind.i64.wrap ((k : Int) + 1) = ((k + 1 : Nat) : Int) := by rw [wrapI (by omega)]; simp
   have hk2 : (k : Int) < (n : Int) := by omega
   have hk0 : (0 : Int) ≤ (k : Int) := by omega
   have h1 := HMU.out k
   have h2 := HLE.out k
   have h3 : (k : Int) * (16777216 * 16777216) ≤ 4096 * (16777216 * 16777216) := Int.mul_le_mul_of_nonneg_right (by omega) (by decide)
   have HN : Hid (Im.innK a b (k + 1) = Im.innK a b k + Im.at0 a k * Im.at0 b k) := Lib.hid rfl
   have hw1 : IntKind.i64.wrap (Im.at0 a k * Im.at0 b k) = Im.at0 a k * Im.at0 b k := wrapI (by omega)
   have hw2 : IntKind.i64.wrap (Im.innK a b k + Im.at0 a k * Im.at0 b k) = Im.innK a b k + Im.at0 a k * Im.at0 b k := wrapI (by omega)
   clear h1 h2 h3 hbel
   generalize Im.at0 a k = x at *
   generalize Im.at0 b k = y at *
   generalize Im.innK a b k = S at *
   go_wp2
   refine wp_region_growG (by kernel_rfl) (by kernel_rfl) ?_
   repeat (go_big_quiet_step ((first | fail)))
   refine wpQuiet_nil (gw_out ?_)
   intro w3 hb3
   have HB3 : Hid (Below w.heap.size w w3) := Lib.hid (HBL.out.call hb3 rfl)
   clear hb3
   go_wp2
   go_roundw
   case rel => exact ⟨HB3.out, k + 1, by omega, rfl, by rw [HN.out]⟩
   case measure => simp [intOf]; omega
  ·obtain rfl : n = k := by omega
   clear hbel
   go_wp2
   go_ret
   exact ⟨rfl, HBL.out⟩
end Go.Proofs.YtdimmlljjmmdbaaGreatDoor
namespace Go.Proofs.YtdimmlljjmmdbaaGreatDoor
open Go.RowKit Go.Shelf
set_option maxHeartbeats 8000000
set_option maxRecDepth 100000
theorem c48s (D : Option Addr) (m capd : Nat) (d : List (List Int)) (w : World) (hd : m ≤ 9223372036854775807) (HD : RdD w D m d) :
  Calls Tryz.prog 48 #[.slice D m capd] w fun en w' => ShP ((m ≤ 5 ∨ m = 17) ∧ ∀ x, x ∈ d → x.length ≤ 45) en ∧ ((m ≤ 5 ∧ ∀ x, x ∈ d → x.length ≤ 45) → en = .returned (.bool true)) ∧ Below w.heap.size w w' := by
 have HDN := Lib.hid HD.len
 go_enter Tryz.func48, Tryz.ntmps48
 go_wp2
 go_loopw [3] (fun i wr => ∃ k : Nat, k ≤ m ∧ i = .int .i64 k ∧ Hid (∀ (j : Nat) (x : List Int), j < k → d[j]? = some x → x.length ≤ 45) ∧ Below w.heap.size w wr) (fun i _ => m - (intOf i).toNat)
 case atStart => exact ⟨0, Nat.zero_le _, rfl, Lib.hid (fun j _ h => absurd h (Nat.not_lt_zero j)), Below.refl _ _⟩
 case round =>
  obtain ⟨k, hk, rfl, HC, hB⟩ := hrel
  by_cases hlt : k < m
  ·have hwk : IntKind.i64.wrap ((k : Int) + 1) = ((k + 1 : Nat) : Int) := by rw [wrapI (by omega)]; simp
   have hkm2 : (k : Int) < (m : Int) := by omega
   have hk02 : (0 : Int) ≤ (k : Int) := by omega
   obtain ⟨db, doff, x, xa, xc, rfl, hx, hdb, hdc, hrx⟩ := (HD.below hB).at hlt
   have HX := Lib.hid hx
   clear hx hrx
   by_cases hx45 : x.length ≤ 45
   ·have hd1 : decide ((45 : Int) < (x.length : Int)) = false := by simp; omega
    have HC2 : Hid (∀ (j : Nat) (y : List Int), j < k + 1 → d[j]? = some y → y.length ≤ 45) := Lib.hid (fun j y hj hy => by
     by_cases h : j = k
     ·subst h; rw [HX.out] at hy; cases hy; exact hx45
     ·exact HC.out j y (by omega) hy)
    go_wp2
    go_roundw
    case rel => exact ⟨k + 1, by omega, rfl, HC2, hB⟩
    case measure => simp [intOf]; omega
   ·have hd1 : decide ((45 : Int) < (x.length : Int)) = true := by simp; omega
    have HXM := Lib.hid (List.mem_of_getElem? HX.out)
    go_wp2
    go_ret
    exact ⟨⟨false, rfl, fun h => by cases h⟩, fun h => absurd (h.2 _ HXM.out) hx45, hB⟩
  ·obtain rfl : m = k := by omega
   have HA : Hid (∀ x, x ∈ d → x.length ≤ 45) := Lib.hid (fun x hx => by
    obtain ⟨j, hj, hxj⟩ := List.getElem_of_mem hx
    exact HC.out j x (by rw [← HDN.out]; exact hj) (by rw [← hxj]; exact List.getElem?_eq_getElem hj))
   by_cases h5 : m ≤ 5
   ·have hd5 : decide ((m : Int) ≤ 5) = true := by simp; omega
    go_wp2
    all_goals go_ret
    all_goals exact ⟨⟨_, rfl, fun _ => ⟨.inl h5, HA.out⟩⟩, fun _ => rfl, hB⟩
   ·have hd5 : decide ((m : Int) ≤ 5) = false := by simp; omega
    by_cases h17 : m = 17
    ·have hd17 : ((m : Int) == 17) = true := by simp; omega
     have H17 := Lib.hid h17
     clear h17
     go_wp2
     all_goals go_ret
     all_goals exact ⟨⟨_, rfl, fun _ => ⟨.inr H17.out, HA.out⟩⟩, fun h => absurd h.1 h5, hB⟩
    ·have hd17 : ((m : Int) == 17) = false := by simp; omega
     go_wp2
     all_goals go_ret
     all_goals exact ⟨⟨_, rfl, fun h => by cases h⟩, fun h => absurd h.1 h5, hB⟩
theorem c31s (D E M : Option Addr) (n m k cd ce cm : Nat) (dl el : List (List Int)) (s f x : Int) (w : World) (hn : n ≤ 9223372036854775807) (hm : m ≤ 9223372036854775807) (HD : RdD w D n dl) (HE : RdD w E m el) :
  Calls Tryz.prog 31 #[.agg #[.slice D n cd, .slice E m ce, .slice M k cm, .int .i64 s, .int .i64 f, .int .i64 x]] w fun en w' => ShP (((n ≤ 5 ∨ n = 17) ∧ ∀ x, x ∈ dl → x.length ≤ 45) ∧ ((m ≤ 5 ∨ m = 17) ∧ ∀ x, x ∈ el → x.length ≤ 45) ∧ k ≤ 30) en ∧ Below w.heap.size w w' := by
 obtain ⟨w0, hW⟩ : ∃ W, W = w.alloc (Obj.cells #[.slice D n cd, .slice E m ce, .slice M k cm, .int .i64 s, .int .i64 f, .int .i64 x] 55) := ⟨_, rfl⟩
 have hT0 : w0.heap[w.heap.size]? = some (.cells #[.slice D n cd, .slice E m ce, .slice M k cm, .int .i64 s, .int .i64 f, .int .i64 x] 55 (0, 0)) := by rw [hW]; exact heap_new (by simp)
 have hB0 : Below w.heap.size w w0 := by rw [hW]; exact (Below.refl _ _).alloc (Nat.le_refl _) _
 have H1 := HD.below hB0
 have H2 := HE.below hB0
 clear HD HE
 go_enter Tryz.func31, Tryz.ntmps31
 go_wp2_with fail
 rw [← hW]
 clear hW
 have q0 : w0.cell? ⟨w.heap.size, 0, none⟩ = some (.slice D n cd) := cell_at hT0 rfl
 have q1 : w0.cell? ⟨w.heap.size, 1, none⟩ = some (.slice E m ce) := cell_at hT0 rfl
 have q2 : w0.cell? ⟨w.heap.size, 2, none⟩ = some (.slice M k cm) := cell_at hT0 rfl
 have z2 := cell_lt q2
 go_wp2_with fail
 refine (c48s D n cd dl _ hn H1).mono ?_
 rintro e w1 ⟨⟨b1, rfl, hP1⟩, _, hb⟩
 have hB1 := hB0.call hb rfl
 replace hT0 := blkb hT0 hb
 replace H2 := H2.below hb
 clear hb q0 q1 q2 z2 hB0
 have q1 : w1.cell? ⟨w.heap.size, 1, none⟩ = some (.slice E m ce) := cell_at hT0 rfl
 have q2 : w1.cell? ⟨w.heap.size, 2, none⟩ = some (.slice M k cm) := cell_at hT0 rfl
 have z2 := cell_lt q2
 have HP1 := Lib.hid hP1
 clear hP1
 cases b1
 ·go_wp2
  go_ret
  exact ⟨⟨_, rfl, fun h => by simp at h⟩, hB1⟩
 go_wp2_with fail
 refine (c48s E m ce el _ hm H2).mono ?_
 rintro e w2 ⟨⟨b2, rfl, hP2⟩, _, hb⟩
 have hB2 := hB1.call hb rfl
 replace hT0 := blkb hT0 hb
 clear hb q1 q2 z2 hB1
 have q2 : w2.cell? ⟨w.heap.size, 2, none⟩ = some (.slice M k cm) := cell_at hT0 rfl
 have z2 := cell_lt q2
 have HP2 := Lib.hid hP2
 clear hP2
 cases b2
 ·go_wp2
  go_ret
  exact ⟨⟨_, rfl, fun h => by simp at h⟩, hB2⟩
 go_wp2
 all_goals go_ret
 all_goals exact ⟨⟨_, rfl, fun h => ⟨HP1.out trivial, HP2.out trivial, by simp at h <;> omega⟩⟩, hB2⟩
/-- the pairs' holes and samples -/
noncomputable def prs (c : Nat) (l : List Int) (un : Int) (ln : Nat) (most : Int) (ps : List Pr) : List (Bool × List Int) := ps.map fun p => (p.h, dlp c l un ln most p)
theorem prs_traces (c : Nat) (l : List Int) (un : Int) (ln : Nat) (most : Int) (ms : List Int) (ps : List Pr) : Im.traces ln (prs c l un ln most ps) ms = trcs c l un ln most ms ps := by
 unfold Im.traces prs trcs
 rw [List.map_map]
 refine List.map_congr_left fun p _ => ?_
 simp [trc]
theorem at0_mem {l : List Int} {x : Int} (h : x ∈ l) : ∃ k, k < l.length ∧ Im.at0 l k = x := by
 obtain ⟨k, hk, e⟩ := List.getElem_of_mem h
 exact ⟨k, hk, by simp [Im.at0, List.getD_eq_getElem?_getD, hk, e]⟩
theorem dlp_d {c : Nat} {l : List Int} {un : Int} {ln : Nat} {most : Int} {p : Pr} (hln : 1 ≤ ln) : ∀ d, d ∈ dlp c l un ln most p → d < (ln : Int) := by
 intro d hd
 obtain ⟨k, hk, rfl⟩ := at0_mem hd
 rw [dlp_len] at hk
 by_cases h0 : 0 ≤ Im.at0 (dlp c l un ln most p) k
 ·exact dlp_lt hk h0
 ·omega
theorem dlp_h {c : Nat} {l : List Int} {un : Int} {ln : Nat} {most : Int} {p : Pr} (hp : p.h = true) : ∀ d, d ∈ dlp c l un ln most p → d = -1 := by
 intro d hd
 obtain ⟨k, hk, rfl⟩ := at0_mem hd
 rw [dlp_len] at hk
 unfold dlp dlL
 rw [hp, Im.delays_at hk, Im.dly_hole]
theorem fits_of {c : Nat} {l : List Int} {un : Int} {ln : Nat} {most : Int} (hln : 1 ≤ ln) : ∀ {ps : List Pr} {d : List (List Int)}, d.length = ps.length → Mo.Shp ln ps d → Im.Fits ln l.length (prs c l un ln most ps) d
 | [], [], _, _ => trivial
 | [], _ :: _, h, _ => by simp at h
 | _ :: _, [], h, _ => by simp at h
 | p :: ps, x :: d, h, hs => by
  have h0 := hs 0 p x rfl rfl
  refine ⟨dlp_len _ _ _ _ _ _, ?_, fits_of hln (by simpa using h) (fun j q y h1 h2 => hs (j + 1) q y (by simpa using h1) (by simpa using h2))⟩
  unfold Mo.okT at h0
  by_cases hp : p.h = true
  ·rw [if_pos hp] at h0
   simp only [hp, if_true]
   exact ⟨List.length_eq_zero_iff.1 h0, dlp_h hp⟩
  ·rw [if_neg hp] at h0
   have hp' : p.h = false := by simpa using hp
   simp only [hp', Bool.false_eq_true, if_false]
   exact ⟨by omega, dlp_d hln⟩
end Go.Proofs.YtdimmlljjmmdbaaGreatDoor
namespace Go.Proofs.YtdimmlljjmmdbaaGreatDoor
open Go.RowKit Go.Shelf
set_option maxHeartbeats 8000000
set_option maxRecDepth 100000
theorem trcs_le {c : Nat} {l : List Int} {un : Int} {ln : Nat} {most : Int} {ms : List Int} {ps : List Pr} {n : Nat} (hln : l.length = n) (hml : ms.length = n) (hn : n ≤ 256) (hm : ∀ k, k < n → -1000 ≤ Im.at0 ms k ∧ Im.at0 ms k ≤ 1000) : ∀ x, x ∈ (trcs c l un ln most ms ps).flatten → -256000 ≤ x ∧ x ≤ 256000 := by
 intro x hx
 obtain ⟨row, hrow, hx⟩ := List.mem_flatten.1 hx
 unfold trcs at hrow
 obtain ⟨p, _, rfl⟩ := List.mem_map.1 hrow
 unfold trc at hx
 split at hx
 ·cases hx
 ·obtain ⟨i, hi, e⟩ := List.getElem_of_mem hx
  have h := Im.trace_le (len := ln) (ds := dlp c l un ln most p) (ms := ms) (by rw [dlp_len]; exact hln) hml hn hm i
  have e2 : Im.at0 (Im.trace ln (dlp c l un ln most p) ms) i = x := by simp [Im.at0, List.getD_eq_getElem?_getD, hi, e]
  rw [e2] at h; exact h
theorem fits_trcs2 {c : Nat} {l : List Int} {un : Int} {ln : Nat} {most : Int} {ps : List Pr} {ms : List Int} {d : List (List Int)} (hln : 1 ≤ ln) (hd : d.length = ps.length) (hds : Mo.Shp ln ps d) : Im.Fits ln l.length (prs c l un ln most ps) (trcs c l un ln most ms ps) := by
 rw [← prs_traces]
 exact Im.traces_fits_len (fits_of hln hd hds)
theorem flat_le2 {B : Nat} : ∀ {d : List (List Int)}, (∀ x, x ∈ d → x.length ≤ B) → d.flatten.length ≤ d.length * B
 | [], _ => by simp
 | x :: d, h => by
  have h1 := flat_le2 (d := d) (fun y hy => h y (by simp [hy]))
  have h2 := h x (by simp)
  rw [List.flatten_cons, List.length_append, List.length_cons, Nat.add_mul]
  omega
theorem at0_le {l : List Int} {B : Int} (hB : 0 ≤ B) (h : ∀ x, x ∈ l → -B ≤ x ∧ x ≤ B) (i : Nat) : -B ≤ Im.at0 l i ∧ Im.at0 l i ≤ B := by
 by_cases hi : i < l.length
 ·have e : Im.at0 l i = l[i] := by simp [Im.at0, List.getD_eq_getElem?_getD, hi]
  rw [e]; exact h _ (List.getElem_mem hi)
 ·have e : Im.at0 l i = 0 := by simp [Im.at0, List.getD_eq_getElem?_getD, List.getElem?_eq_none (Nat.le_of_not_lt hi)]
  rw [e]; omega
theorem c148 (num : Int) (den : Nat) (w : World) (hn : -1000000000 ≤ num ∧ num ≤ 1000000000) (hd : 1 ≤ den ∧ den ≤ 1000000000) :
  Calls Tryz.prog 148 #[.int .i64 num, .int .i64 (den : Int)] w fun en w' => en = .returned (.int .i64 (Nat.gcd num.natAbs den : Nat)) ∧ Below w.heap.size w w' := by
 obtain ⟨G, hG⟩ : ∃ G, G = Nat.gcd num.natAbs den := ⟨_, rfl⟩
 rw [← hG]
 have HG : Hid (Nat.gcd num.natAbs (den : Int).natAbs = G ∧ num.natAbs ≤ 1000000000 ∧ (den : Int).natAbs ≤ 1000000000) := Lib.hid ⟨by rw [hG]; rfl, by omega, by omega⟩
 clear hG
 go_enter Tryz.func148, Tryz.ntmps148
 go_wp2_with fail
 go_loopw [0, 1] (fun a b wr => ∃ x y : Int, a = .int .i64 x ∧ b = .int .i64 y ∧ Hid (Nat.gcd x.natAbs y.natAbs = G ∧ x.natAbs ≤ 1000000000 ∧ y.natAbs ≤ 1000000000) ∧ Hid (Below w.heap.size w wr)) (fun _ b _ => (intOf b).natAbs)
 case atStart => exact ⟨num, den, rfl, rfl, HG, Lib.hid (Below.refl _ _)⟩
 case round =>
  obtain ⟨x, y, rfl, rfl, HXY, HBR⟩ := hrel
  by_cases hy : y = 0
  ·subst hy
   have hx : x.natAbs = G := by have h := HXY.out.1; rwa [Int.natAbs_zero, Nat.gcd_zero_right] at h
   by_cases hx0 : x < 0
   ·have hd1 : decide (x < 0) = true := by simpa using hx0
    have hw1 : IntKind.i64.wrap (0 - x) = (G : Int) := by rw [wrapI (by have := HXY.out.2.1; omega)]; omega
    have hw2 : IntKind.i64.wrap (-x) = (G : Int) := by rw [wrapI (by have := HXY.out.2.1; omega)]; omega
    clear hx hx0
    go_wp2
    go_ret
    exact ⟨rfl, HBR.out⟩
   ·have hd1 : decide (x < 0) = false := by simpa using hx0
    obtain rfl : x = (G : Int) := by omega
    clear hx hx0
    go_wp2
    go_ret
    exact ⟨rfl, HBR.out⟩
  ·have hyf : (y != 0) = true := by simpa using hy
   have hml : (x.tmod y).natAbs = x.natAbs % y.natAbs := Int.natAbs_tmod _ _
   have hlt : x.natAbs % y.natAbs < y.natAbs := Nat.mod_lt _ (by omega)
   have HXY2 : Hid (Nat.gcd y.natAbs (x.tmod y).natAbs = G ∧ y.natAbs ≤ 1000000000 ∧ (x.tmod y).natAbs ≤ 1000000000) := Lib.hid (by
    have h := HXY.out
    refine ⟨?_, h.2.2, by omega⟩
    rw [hml, ← h.1, Nat.gcd_comm x.natAbs y.natAbs, Nat.gcd_rec y.natAbs x.natAbs, Nat.gcd_comm])
   obtain ⟨q, hq⟩ : ∃ q, x.tmod y = q := ⟨_, rfl⟩
   rw [hq] at HXY2 hml
   have hwm : IntKind.i64.wrap q = q := wrapI (by have := HXY2.out.2.2; omega)
   have hmq : q.natAbs < y.natAbs := by omega
   have HMQ := Lib.hid hmq
   clear hml hlt hmq
   go_wp2
   refine wp_region_growG (by kernel_rfl) (by kernel_rfl) ?_
   repeat (go_big_quiet_step ((first | fail)))
   refine wpQuiet_nil (gw_out ?_)
   intro wq hwq
   have HBR2 : Hid (Below w.heap.size w wq) := Lib.hid (HBR.out.call hwq rfl)
   clear hwq
   go_wp2
   go_roundw
   case rel => exact ⟨y, q, rfl, rfl, HXY2, HBR2⟩
   case measure => simp [intOf]; exact HMQ.out
theorem c112 (num : Int) (den : Nat) (w : World) (hn : -1000000000 ≤ num ∧ num ≤ 1000000000) (hd : 1 ≤ den ∧ den ≤ 1000000000) :
  Calls Tryz.prog 112 #[.int .i64 num, .int .i64 (den : Int)] w fun en w' => en = .returned (.agg #[.int .i64 (Mo.lown num den), .int .i64 (Mo.lowd num den)]) ∧ Below w.heap.size w w' := by
 obtain ⟨W, hW⟩ : ∃ W, W = w.alloc (Obj.cells #[.int .i64 0, .int .i64 0] 61) := ⟨_, rfl⟩
 have hT : W.heap[w.heap.size]? = some (.cells #[.int .i64 0, .int .i64 0] 61 (0, 0)) := by rw [hW]; exact heap_new rfl
 have HB : Hid (Below w.heap.size w W) := Lib.hid (by rw [hW]; exact (Below.refl _ _).alloc (Nat.le_refl _) _)
 obtain ⟨G, hG⟩ : ∃ G, G = Nat.gcd num.natAbs den := ⟨_, rfl⟩
 have HGP : Hid (0 < G) := Lib.hid (by rw [hG]; exact Nat.gcd_pos_of_pos_right _ hd.1)
 have HV : Hid (Mo.lown num den = num.tdiv (G : Nat) ∧ Mo.lowd num den = ((den / G : Nat) : Int)) := Lib.hid (by rw [hG]; exact ⟨rfl, rfl⟩)
 have K148 : Hid (∀ W, Calls Tryz.prog 148 #[.int .i64 num, .int .i64 (den : Int)] W fun en w' => en = .returned (.int .i64 (G : Nat)) ∧ Below W.heap.size W w') := Lib.hid (fun W => by rw [hG]; exact c148 num den W hn hd)
 clear hG
 have hd0 : decide ((den : Int) < 0) = false := by simp
 have hg0 : ¬ ((G : Int) = 0) := by have := HGP.out; omega
 have hg00 : ¬ G = 0 := by have := HGP.out; omega
 have e1 : (den : Int).tdiv (G : Int) = ((den / G : Nat) : Int) := (Int.ofNat_tdiv _ _).symm
 have e2 : IntKind.i64.wrap (num.tdiv (G : Int)) = num.tdiv (G : Int) := wrapI (by
  have h := Int.natAbs_tdiv_le_natAbs num (G : Int)
  omega)
 have hql := Nat.div_le_self den G
 have HV1 := HV.out.1
 have HV2 := HV.out.2
 obtain ⟨q, hq⟩ : ∃ q, q = den / G := ⟨_, rfl⟩
 rw [← hq] at e1 hql HV2
 have e3 : IntKind.i64.wrap (q : Int) = (q : Int) := wrapI (by omega)
 have HVV : Hid (Mo.lown num den = num.tdiv (G : Int) ∧ Mo.lowd num den = (q : Int)) := Lib.hid ⟨HV1, HV2⟩
 clear hq HV1 HV2
 go_enter Tryz.func112, Tryz.ntmps112
 go_wp2_with fail
 rw [← hW]
 clear hW
 refine (K148.out _).mono ?_
 rintro e w1 ⟨rfl, hb1⟩
 replace hT := blkb hT hb1
 have HB1 := Lib.hid (HB.out.call hb1 rfl)
 clear hb1
 go_wp2_with fail
 refine wp_region_splitG 7 (by kernel_rfl) (by kernel_rfl) ?_
 simp only [List.take_succ_cons, List.take_zero, List.drop_succ_cons, List.drop_zero]
 repeat (go_big_quiet_step ((first | fail)))
 refine wpQuiet_nil (gw_out ?_)
 intro wq hbq
 have hTq := blkb hT hbq
 have hBq := HB1.out.call hbq rfl
 have c0 : wq.cell? ⟨w.heap.size, 0, none⟩ = some (.int .i64 0) := cell_at hTq rfl
 have c1 : wq.cell? ⟨w.heap.size, 1, none⟩ = some (.int .i64 0) := cell_at hTq rfl
 have f0 : wq.frozen? ⟨w.heap.size, 0, none⟩ = false := free_at hTq
 have f1 : wq.frozen? ⟨w.heap.size, 1, none⟩ = false := free_at hTq
 have hT2 := set_blk (i := 1) (set_blk (i := 0) hTq (.int .i64 (num.tdiv (G : Int)))) (.int .i64 (q : Int))
 have hbf := (hBq.setCell (p := ⟨w.heap.size, 0, none⟩) (by show _ ≤ w.heap.size; omega) (.int .i64 (num.tdiv (G : Int)))).setCell (p := ⟨w.heap.size, 1, none⟩) (by show _ ≤ w.heap.size; omega) (.int .i64 (q : Int))
 have HT2 := Lib.hid hT2
 have HBF := Lib.hid hbf
 clear hT2 hbf hTq hBq hbq hT
 go_wp2_with fail
 exact bodyPost_ret (results_blk rfl rfl HT2.out _ Tryz.underlying61 rfl (by kernel_rfl)) rfl ⟨by rw [HVV.out.1, HVV.out.2]; rfl, HBF.out⟩
theorem c37 (c r : Nat) (A : Option Addr) (n cap : Nat) (l : List Int) (un : Int) (ln : Nat) (most : Int) (P : Option Addr) (np capp : Nat) (ps : List Pr) (M : Option Addr) (capm : Nat) (ms : List Int) (D : Option Addr) (capd : Nat) (d : List (List Int)) (w : World) (g : Im.Gr c r l) (hc : c ≤ 16) (hr : r ≤ 16) (H : RdI w A n l) (HP : RdP w P np ps) (HM : RdI w M n ms) (HD : RdD w D np d) (hE : Mo.fit c r l un ln most ps ms d = 0) :
  Calls Tryz.prog 37 #[.agg #[.int .i64 c, .int .i64 r, .slice A n cap], .agg #[.int .i64 un, .int .i64 (ln : Nat), .int .i64 most, .slice P np capp], .slice M n capm, .slice D np capd] w fun en w' => en = .returned (.int .i64 (Im.misfit (trcs c l un ln most ms ps).flatten d.flatten)) ∧ Below w.heap.size w w' := by
 obtain ⟨hE1, hE2⟩ := Mo.fit_zero hE
 have hm := Mo.mdl_zero hE1
 have hd := Mo.dta_zero hE2
 have hsv := surv_ok hd.1
 have hln := H.len
 have hpl := HP.len
 have hml := HM.len
 have hn256 : n ≤ 256 := by have := g.len; have : c * r ≤ 16 * 16 := Nat.mul_le_mul hc hr; omega
 have HSV := Lib.hid hsv
 have HLN := Lib.hid hln
 have HPL := Lib.hid hpl
 have HMS : Hid (∀ k, k < n → -1000 ≤ Im.at0 ms k ∧ Im.at0 ms k ≤ 1000) := Lib.hid (fun k hk => hm.2.2 k (by omega))
 obtain ⟨T, hT⟩ : ∃ T, T = trcs c l un ln most ms ps := ⟨_, rfl⟩
 have HTT := Lib.hid hT
 have hln1 : 1 ≤ ln := by have := hsv.2.2.1; omega
 have F1 := fits_of (c := c) (l := l) (un := un) (most := most) hln1 hd.2.1 hd.2.2.1
 have F2 := fits_trcs2 (c := c) (l := l) (un := un) (most := most) (ms := ms) hln1 hd.2.1 hd.2.2.1
 have hfl := Im.flat_len F2 F1
 have htn : T.length = np := by rw [hT]; simp [trcs, hpl]
 have hrl : ∀ x, x ∈ T → x.length ≤ 256 := by
  intro x hx
  rw [hT] at hx
  unfold trcs at hx
  obtain ⟨p, _, rfl⟩ := List.mem_map.1 hx
  have := hsv.2.2.1
  unfold trc
  split
  ·simp
  ·rw [Im.trace_len]; omega
 have htf : T.flatten.length ≤ 4096 := by
  have h1 := flat_le2 hrl
  have h2 : T.length * 256 ≤ 16 * 256 := Nat.mul_le_mul_right 256 (by have := hsv.2.2.2.2.1; omega)
  omega
 rw [← hT] at hfl ⊢
 have hb1 : ∀ x, x ∈ T.flatten → -256000 ≤ x ∧ x ≤ 256000 := by rw [hT]; exact trcs_le hln hml hn256 HMS.out
 have hb2 : ∀ x, x ∈ d.flatten → -1048576 ≤ x ∧ x ≤ 1048576 := by
  intro x hx
  obtain ⟨row, hrow, hx⟩ := List.mem_flatten.1 hx
  exact hd.2.2.2 row hrow x hx
 have HA : Hid (∀ k, -256000 ≤ Im.at0 T.flatten k ∧ Im.at0 T.flatten k ≤ 256000) := Lib.hid (at0_le (by omega) hb1)
 have HB : Hid (∀ k, -1048576 ≤ Im.at0 d.flatten k ∧ Im.at0 d.flatten k ≤ 1048576) := Lib.hid (at0_le (by omega) hb2)
 have HML : Hid (∀ k : Nat, 0 ≤ Im.misK T.flatten d.flatten k ∧ Im.misK T.flatten d.flatten k ≤ (k : Int) * (1304576 * 1304576)) := Lib.hid (Im.misK_le (by omega) (fun i => by have := HA.out i; have := HB.out i; omega))
 obtain ⟨N, hN⟩ : ∃ N, T.flatten.length = N := ⟨_, rfl⟩
 have HMF : Hid (Im.misK T.flatten d.flatten N = Im.misfit T.flatten d.flatten) := Lib.hid (Im.misK_full hN (by rw [← hfl]; exact hN))
 have hN4 : N ≤ 4096 := by omega
 have K55 : Hid (∀ (X : Option Addr) (xc : Nat) (W : World), RdD W X np T → Calls Tryz.prog 55 #[.slice X np xc] W fun en w' => ∃ Y yc, en = .returned (.slice Y N yc) ∧ RdI w' Y N T.flatten ∧ Below W.heap.size W w') := Lib.hid (fun X xc W h => (c55 X np xc T W (by have := hsv.2.2.2.2.1; omega) (by omega) h).mono (by
  rintro e w' ⟨v, rfl, ho, hb⟩
  rw [hN] at ho
  obtain ⟨Y, yc, rfl, hY⟩ := own_rdI ho
  exact ⟨Y, yc, rfl, hY, hb⟩))
 have K55d : Hid (∀ (X : Option Addr) (xc : Nat) (W : World), RdD W X np d → Calls Tryz.prog 55 #[.slice X np xc] W fun en w' => ∃ Y yc, en = .returned (.slice Y N yc) ∧ RdI w' Y N d.flatten ∧ Below W.heap.size W w') := Lib.hid (fun X xc W h => (c55 X np xc d W (by have := hsv.2.2.2.2.1; omega) (by omega) h).mono (by
  rintro e w' ⟨v, rfl, ho, hb⟩
  rw [← hfl, hN] at ho
  obtain ⟨Y, yc, rfl, hY⟩ := own_rdI ho
  exact ⟨Y, yc, rfl, hY, hb⟩))
 generalize T.flatten = TF at HA HML HMF K55 hfl hN htf hb1 ⊢
 generalize d.flatten = DF at HB HML HMF K55d hfl hb2 ⊢
 have HG := Lib.hid g
 clear hE hE1 hE2 hm hd hsv hln hpl hml hfl hN htf hb1 hb2 F1 F2 hrl htn hT
 obtain ⟨w0, hW⟩ : ∃ W, W = (w.alloc (Obj.cells #[.int .i64 c, .int .i64 r, .slice A n cap] 24)).alloc (Obj.cells #[.int .i64 un, .int .i64 (ln : Nat), .int .i64 most, .slice P np capp] 27) := ⟨_, rfl⟩
 have hT0 : w0.heap[w.heap.size]? = some (.cells #[.int .i64 c, .int .i64 r, .slice A n cap] 24 (0, 0)) := by rw [hW]; exact heap_old (by simp <;> omega) (heap_new (by simp))
 have hT1 : w0.heap[w.heap.size + 1]? = some (.cells #[.int .i64 un, .int .i64 (ln : Nat), .int .i64 most, .slice P np capp] 27 (0, 0)) := by rw [hW]; exact heap_new (by simp)
 have hB0 : Below w.heap.size w w0 := by rw [hW]; exact (((Below.refl _ _).alloc (by first | omega | (simp <;> omega)) _).alloc (by first | omega | (simp <;> omega)) _)
 replace H := H.below hB0
 replace HP := HP.below hB0
 replace HM := HM.below hB0
 replace HD := HD.below hB0
 go_enter Tryz.func37, Tryz.ntmps37
 go_wp2_with fail
 rw [← hW]
 clear hW
 have qhT0_0 : w0.cell? ⟨w.heap.size, 0, none⟩ = some (.int .i64 c) := cell_at hT0 rfl
 have qhT0_1 : w0.cell? ⟨w.heap.size, 1, none⟩ = some (.int .i64 r) := cell_at hT0 rfl
 have qhT0_2 : w0.cell? ⟨w.heap.size, 2, none⟩ = some (.slice A n cap) := cell_at hT0 rfl
 have qhT1_0 : w0.cell? ⟨w.heap.size + 1, 0, none⟩ = some (.int .i64 un) := cell_at hT1 rfl
 have qhT1_1 : w0.cell? ⟨w.heap.size + 1, 1, none⟩ = some (.int .i64 (ln : Nat)) := cell_at hT1 rfl
 have qhT1_2 : w0.cell? ⟨w.heap.size + 1, 2, none⟩ = some (.int .i64 most) := cell_at hT1 rfl
 have qhT1_3 : w0.cell? ⟨w.heap.size + 1, 3, none⟩ = some (.slice P np capp) := cell_at hT1 rfl
 go_wp2_with fail
 refine (c24 c r A n cap l un ln most P np capp ps M capm ms _ HG.out hc hr HSV.out.2.1 (by have := HSV.out.2.2.1; omega) (by have := HSV.out.2.2.2.2.1; have := HPL.out; omega) (fun p hp => by have := HSV.out.2.2.2.2.2 p hp; have := HLN.out; omega) HMS.out H HP HM).mono ?_
 rintro e w1 ⟨X1, xc1, rfl, hX1, hb⟩
 clear qhT0_0 qhT0_1 qhT0_2 qhT1_0 qhT1_1 qhT1_2 qhT1_3
 have hS := hb
 have hB1 := hB0.call hS rfl
 replace hT0 := blkb hT0 hS
 replace hT1 := blkb hT1 hS
 replace H := H.below hS
 replace HP := HP.below hS
 replace HM := HM.below hS
 replace HD := HD.below hS
 clear hS hB0
 have qhT0_0 : w1.cell? ⟨w.heap.size, 0, none⟩ = some (.int .i64 c) := cell_at hT0 rfl
 have qhT0_1 : w1.cell? ⟨w.heap.size, 1, none⟩ = some (.int .i64 r) := cell_at hT0 rfl
 have qhT0_2 : w1.cell? ⟨w.heap.size, 2, none⟩ = some (.slice A n cap) := cell_at hT0 rfl
 have qhT1_0 : w1.cell? ⟨w.heap.size + 1, 0, none⟩ = some (.int .i64 un) := cell_at hT1 rfl
 have qhT1_1 : w1.cell? ⟨w.heap.size + 1, 1, none⟩ = some (.int .i64 (ln : Nat)) := cell_at hT1 rfl
 have qhT1_2 : w1.cell? ⟨w.heap.size + 1, 2, none⟩ = some (.int .i64 most) := cell_at hT1 rfl
 have qhT1_3 : w1.cell? ⟨w.heap.size + 1, 3, none⟩ = some (.slice P np capp) := cell_at hT1 rfl
 clear hb
 rw [← HTT.out] at hX1
 go_wp2_with fail
 refine (K55.out _ _ _ hX1).mono ?_
 rintro e w2 ⟨Y1, yc1, rfl, hY1, hb⟩
 clear qhT0_0 qhT0_1 qhT0_2 qhT1_0 qhT1_1 qhT1_2 qhT1_3
 have hS := hb
 have hB2 := hB1.call hS rfl
 replace hT0 := blkb hT0 hS
 replace hT1 := blkb hT1 hS
 replace H := H.below hS
 replace HP := HP.below hS
 replace HM := HM.below hS
 replace HD := HD.below hS
 replace hX1 := hX1.below hS
 clear hS hB1
 have qhT0_0 : w2.cell? ⟨w.heap.size, 0, none⟩ = some (.int .i64 c) := cell_at hT0 rfl
 have qhT0_1 : w2.cell? ⟨w.heap.size, 1, none⟩ = some (.int .i64 r) := cell_at hT0 rfl
 have qhT0_2 : w2.cell? ⟨w.heap.size, 2, none⟩ = some (.slice A n cap) := cell_at hT0 rfl
 have qhT1_0 : w2.cell? ⟨w.heap.size + 1, 0, none⟩ = some (.int .i64 un) := cell_at hT1 rfl
 have qhT1_1 : w2.cell? ⟨w.heap.size + 1, 1, none⟩ = some (.int .i64 (ln : Nat)) := cell_at hT1 rfl
 have qhT1_2 : w2.cell? ⟨w.heap.size + 1, 2, none⟩ = some (.int .i64 most) := cell_at hT1 rfl
 have qhT1_3 : w2.cell? ⟨w.heap.size + 1, 3, none⟩ = some (.slice P np capp) := cell_at hT1 rfl
 clear hb
 go_wp2_with fail
 refine (K55d.out _ _ _ HD).mono ?_
 rintro e w3 ⟨Y2, yc2, rfl, hY2, hb⟩
 clear qhT0_0 qhT0_1 qhT0_2 qhT1_0 qhT1_1 qhT1_2 qhT1_3
 have hS := hb
 have hB3 := hB2.call hS rfl
 replace hT0 := blkb hT0 hS
 replace hT1 := blkb hT1 hS
 replace H := H.below hS
 replace HP := HP.below hS
 replace HM := HM.below hS
 replace HD := HD.below hS
 replace hX1 := hX1.below hS
 replace hY1 := hY1.below hS
 clear hS hB2
 have qhT0_0 : w3.cell? ⟨w.heap.size, 0, none⟩ = some (.int .i64 c) := cell_at hT0 rfl
 have qhT0_1 : w3.cell? ⟨w.heap.size, 1, none⟩ = some (.int .i64 r) := cell_at hT0 rfl
 have qhT0_2 : w3.cell? ⟨w.heap.size, 2, none⟩ = some (.slice A n cap) := cell_at hT0 rfl
 have qhT1_0 : w3.cell? ⟨w.heap.size + 1, 0, none⟩ = some (.int .i64 un) := cell_at hT1 rfl
 have qhT1_1 : w3.cell? ⟨w.heap.size + 1, 1, none⟩ = some (.int .i64 (ln : Nat)) := cell_at hT1 rfl
 have qhT1_2 : w3.cell? ⟨w.heap.size + 1, 2, none⟩ = some (.int .i64 most) := cell_at hT1 rfl
 have qhT1_3 : w3.cell? ⟨w.heap.size + 1, 3, none⟩ = some (.slice P np capp) := cell_at hT1 rfl
 clear hb
 clear hX1
 clear HM
 clear HP
 clear H
 clear HD
 go_wp2_with fail
 go_loopw [11, 12] (fun q i wr => ∃ k : Nat, k ≤ N ∧ i = .int .i64 k ∧ q = .int .i64 (Im.misK TF DF k) ∧ Below w3.heap.size w3 wr) (fun _ i _ => N - (intOf i).toNat)
 case atStart => exact ⟨0, Nat.zero_le _, rfl, rfl, Below.refl _ _⟩
 case round =>
  obtain ⟨k, hk, rfl, rfl, hbr⟩ := hrel
  obtain ⟨w4, hww⟩ : ∃ W, W = wr := ⟨_, rfl⟩
  subst hww
  have hB4 := hB3.call hbr rfl
  replace hT0 := blkb hT0 hbr
  replace hT1 := blkb hT1 hbr
  replace hY1 := hY1.below hbr
  replace hY2 := hY2.below hbr
  clear hB3
  have qhT0_0 : w4.cell? ⟨w.heap.size, 0, none⟩ = some (.int .i64 c) := cell_at hT0 rfl
  have qhT0_1 : w4.cell? ⟨w.heap.size, 1, none⟩ = some (.int .i64 r) := cell_at hT0 rfl
  have qhT0_2 : w4.cell? ⟨w.heap.size, 2, none⟩ = some (.slice A n cap) := cell_at hT0 rfl
  have qhT1_0 : w4.cell? ⟨w.heap.size + 1, 0, none⟩ = some (.int .i64 un) := cell_at hT1 rfl
  have qhT1_1 : w4.cell? ⟨w.heap.size + 1, 1, none⟩ = some (.int .i64 (ln : Nat)) := cell_at hT1 rfl
  have qhT1_2 : w4.cell? ⟨w.heap.size + 1, 2, none⟩ = some (.int .i64 most) := cell_at hT1 rfl
  have qhT1_3 : w4.cell? ⟨w.heap.size + 1, 3, none⟩ = some (.slice P np capp) := cell_at hT1 rfl
  have hwk : IntKind.i64.wrap ((k : Int) + 1) = ((k + 1 : Nat) : Int) := by rw [wrapI (by omega)]; simp
  by_cases hlt : k < N
  rotate_left
  ·obtain rfl : N = k := by omega
   have HF := HMF.out
   generalize Im.misK TF DF N = v at HF ⊢
   obtain rfl : v = Im.misfit TF DF := HF
   clear hbr hlt hk hwk
   go_wp2
   go_ret
   exact ⟨rfl, hB4⟩
  have hlt2 : (k : Int) < (N : Int) := by omega
  have hk0 : (0 : Int) ≤ (k : Int) := by omega
  obtain ⟨ab, ao, rfl, za⟩ := hY1.form (by omega)
  obtain ⟨bb, bo, rfl, zb⟩ := hY2.form (by omega)
  have qa := hY1.get hlt
  have qb := hY2.get hlt
  have h1 := HA.out k
  have h2 := HB.out k
  have h3 := HML.out k
  have HS : Hid (Im.misK TF DF (k + 1) = Im.misK TF DF k + (Im.at0 TF k - Im.at0 DF k) * (Im.at0 TF k - Im.at0 DF k)) := Lib.hid rfl
  have hk4 : (k : Int) * (1304576 * 1304576) ≤ 4096 * (1304576 * 1304576) := Int.mul_le_mul_of_nonneg_right (by omega) (by omega)
  generalize Im.at0 TF k = x1 at qa h1 HS
  generalize Im.at0 DF k = x2 at qb h2 HS
  generalize Im.misK TF DF k = v at h3 HS ⊢
  obtain ⟨dx, hdx⟩ : ∃ y, y = x1 - x2 := ⟨_, rfl⟩
  have hsq := Im.sq_le (C := 1304576) (x := dx) (by omega) (by omega)
  unfold Im.sq at hsq
  rw [← hdx] at HS
  obtain ⟨dq, hdq⟩ : ∃ y, y = dx * dx := ⟨_, rfl⟩
  rw [← hdq] at HS hsq
  have hw1 : IntKind.i64.wrap (x1 - x2) = dx := by rw [wrapI (by omega)]; exact hdx.symm
  have hw2 : IntKind.i64.wrap (dx * dx) = dq := by rw [← hdq]; exact wrapI (by omega)
  obtain ⟨nv, hnv⟩ : ∃ y, y = v + dq := ⟨_, rfl⟩
  have hw3 : IntKind.i64.wrap (v + dq) = nv := by rw [wrapI (by omega)]; exact hnv.symm
  rw [← hnv] at HS
  clear hdx hdq hnv h1 h2 h3 hk4 hsq
  go_wp2_with fail
  refine wp_region_plan [(0, true), (1, true), (2, true), (3, true), (4, true), (5, true), (6, true), (7, true), (8, true), (9, true), (10, true), (11, true), (12, true), (13, true), (14, true), (15, true), (16, true), (17, true), (18, true), (19, true), (20, true), (21, true)] w4.heap.size (by kernel_rfl) (by kernel_rfl) (Nat.le_refl _) (fun _ _ d _ _ h => by cases d <;> exact h) ?_
  have hC : Below w4.heap.size w4 w4 := Below.refl _ _
  have zhT0 : w.heap.size < w4.heap.size := (Array.getElem?_eq_some_iff.1 hT0).1
  have zhT1 : w.heap.size + 1 < w4.heap.size := (Array.getElem?_eq_some_iff.1 hT1).1
  repeat (first | (refine wpPlanA_skip _ rfl (by rfl) ?_; simp only [Act.put, List.setIfInBounds_toArray, List.set_cons_zero, List.set_cons_succ]) | (refine wpPlanA_soft _ ?_ rfl (by rfl) ?_ ?_; rotate_left; (intro wq hq hcq; go_simp; first | exact rfl | exact ⟨rfl, rfl⟩); simp only [Act.put, List.setIfInBounds_toArray, List.set_cons_zero, List.set_cons_succ]))
  clear qa qb za zb
  clear qhT0_0 qhT0_1 qhT0_2 qhT1_0 qhT1_1 qhT1_2 qhT1_3
  refine wpPlanA_nil (fun w5 hS => ?_)
  clear hC zhT0 zhT1
  have hB5 := hB4.call hS rfl
  replace hT0 := blkb hT0 hS
  replace hT1 := blkb hT1 hS
  replace hY1 := hY1.below hS
  replace hY2 := hY2.below hS
  replace hbr := hbr.call hS rfl
  clear hS hB4
  have qhT0_0 : w5.cell? ⟨w.heap.size, 0, none⟩ = some (.int .i64 c) := cell_at hT0 rfl
  have qhT0_1 : w5.cell? ⟨w.heap.size, 1, none⟩ = some (.int .i64 r) := cell_at hT0 rfl
  have qhT0_2 : w5.cell? ⟨w.heap.size, 2, none⟩ = some (.slice A n cap) := cell_at hT0 rfl
  have qhT1_0 : w5.cell? ⟨w.heap.size + 1, 0, none⟩ = some (.int .i64 un) := cell_at hT1 rfl
  have qhT1_1 : w5.cell? ⟨w.heap.size + 1, 1, none⟩ = some (.int .i64 (ln : Nat)) := cell_at hT1 rfl
  have qhT1_2 : w5.cell? ⟨w.heap.size + 1, 2, none⟩ = some (.int .i64 most) := cell_at hT1 rfl
  have qhT1_3 : w5.cell? ⟨w.heap.size + 1, 3, none⟩ = some (.slice P np capp) := cell_at hT1 rfl
  have HBN := Lib.hid hbr
  clear hbr
  go_wp2
  go_roundw
  case rel => exact ⟨k + 1, by omega, by go_num, by rw [HS.out], HBN.out⟩
  case measure => simp [intOf]; omega
end Go.Proofs.YtdimmlljjmmdbaaGreatDoor
