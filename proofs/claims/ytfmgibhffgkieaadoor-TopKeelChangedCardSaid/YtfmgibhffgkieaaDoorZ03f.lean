/- A part of the proofs about traces, tides and horizons: contracts of functions and plain laws (K34, K35, PlanX, K36, K37). -/
import Derived.Test.YtfmgibhffgkieaaDoorZ03c
import Derived.Test.YtfmgibhffgkieaaDoorZ03e
set_option linter.all false
namespace Go.Proofs.YtfmgibhffgkieaaDoor
open Go.RowKit Go.Shelf
set_option maxHeartbeats 8000000
set_option maxRecDepth 100000
attribute [local go_sem] Oper.semAt_some
theorem c6_1 (A : Option Addr) (n cap : Nat) (ts : List Int) (xs : Nat → Int) (e0 e1 d0 d1 e h M : Int) (tm wv : Nat → Int) (w : World) (hn : 1 ≤ n ∧ n ≤ 6) (HR : Rng w) (H : RdS w 1 A n (ts.map (Value.int .u8))) (he : (wrap64 e1).tmod 4 = e) (hee : 0 ≤ e ∧ e ≤ 3) (hM : e + 1 = M) (hd : (wrap64 d1).tmod 9 = h) (hh : -8 ≤ h ∧ h ≤ 8) (hts : ∀ k x, ts[k]? = some x → (wrap64 x).tmod 40 = tm k ∧ 0 ≤ tm k ∧ tm k ≤ 39) (hws : ∀ k, k < 6 → (wrap64 (xs (6 + k))).tmod M = wv k ∧ -3 ≤ wv k ∧ wv k ≤ 3) :
  Calls Tryd.prog 6 #[.agg #[.slice A n cap, .int .u8 e0, .int .u8 e1, .int .i8 (xs 0), .int .i8 (xs 1), .int .i8 (xs 2), .int .i8 (xs 3), .int .i8 (xs 4), .int .i8 (xs 5), .int .i8 (xs 6), .int .i8 (xs 7), .int .i8 (xs 8), .int .i8 (xs 9), .int .i8 (xs 10), .int .i8 (xs 11), .int .i8 d0, .int .i8 d1], .int .i64 1] w fun en w' => ∃ A' c', en = .returned (.tuple #[.slice A' n c', .bool true]) ∧ RdT w' A' n (pk6 n tm wv) ∧ Below w.heap.size w w' := by
 have HN := Lib.hid hn
 have HTS := Lib.hid hts
 have HWS := Lib.hid hws
 have HHH := Lib.hid hh
 have HEE := Lib.hid hee
 have HM := Lib.hid hM
 have he1 : IntKind.i64.wrap (e + 1) = M := by rw [wrapI (by omega)]; exact hM
 have he10 : ¬ (M = 0) := by omega
 have hwe : wrap64 e = e := wrap64_ok (by omega)
 have hwh : wrap64 h = h := wrap64_ok (by omega)
 have hwh2 : wrap64 (-h) = -h := wrap64_ok (by omega)
 have HE1 := Lib.hid he1
 have HE10 := Lib.hid he10
 clear hn hts hws hee hM hh he1 he10
 obtain ⟨w0, hW⟩ : ∃ W, W = w.alloc (Obj.cells #[.slice A n cap, .int .u8 e0, .int .u8 e1, .int .i8 (xs 0), .int .i8 (xs 1), .int .i8 (xs 2), .int .i8 (xs 3), .int .i8 (xs 4), .int .i8 (xs 5), .int .i8 (xs 6), .int .i8 (xs 7), .int .i8 (xs 8), .int .i8 (xs 9), .int .i8 (xs 10), .int .i8 (xs 11), .int .i8 d0, .int .i8 d1] 29) := ⟨_, rfl⟩
 have hT0 : w0.heap[w.heap.size]? = some (.cells #[.slice A n cap, .int .u8 e0, .int .u8 e1, .int .i8 (xs 0), .int .i8 (xs 1), .int .i8 (xs 2), .int .i8 (xs 3), .int .i8 (xs 4), .int .i8 (xs 5), .int .i8 (xs 6), .int .i8 (xs 7), .int .i8 (xs 8), .int .i8 (xs 9), .int .i8 (xs 10), .int .i8 (xs 11), .int .i8 d0, .int .i8 d1] 29 (0, 0)) := by rw [hW]; exact heap_new (by simp)
 have hB0 : Below w.heap.size w w0 := by rw [hW]; exact ((Below.refl _ _).alloc (by first | omega | (simp <;> omega)) _)
 replace H := H.below hB0
 replace HR := HR.below hB0
 go_enter Tryd.func6, Tryd.ntmps6
 have hz00 : w0.heap.size = w.heap.size + 1 := by rw [hW]; simp
 obtain ⟨w1, hw1⟩ : ∃ W, W = w0.alloc (Obj.cells #[.int .i64 0, .int .i64 0, .int .i64 100, .int .i64 h, .int .i64 101, .int .i64 (-h)] 55) := ⟨_, rfl⟩
 obtain ⟨w2, hw2⟩ : ∃ W, W = w1.alloc (Obj.cells #[.string { data := #[115] }, .slice none 0 0] 51) := ⟨_, rfl⟩
 go_wp2_with fail
 rw [← hW]
 rw [← hw1]
 rw [← hw2]
 clear hW
 have qhT0_0 : w0.cell? ⟨w.heap.size, 0, none⟩ = some (.slice A n cap) := cell_at hT0 rfl
 have qhT0_1 : w0.cell? ⟨w.heap.size, 1, none⟩ = some (.int .u8 e0) := cell_at hT0 rfl
 have qhT0_2 : w0.cell? ⟨w.heap.size, 2, none⟩ = some (.int .u8 e1) := cell_at hT0 rfl
 have qhT0_3 : w0.cell? ⟨w.heap.size, 3, none⟩ = some (.int .i8 (xs 0)) := cell_at hT0 rfl
 have qhT0_4 : w0.cell? ⟨w.heap.size, 4, none⟩ = some (.int .i8 (xs 1)) := cell_at hT0 rfl
 have qhT0_5 : w0.cell? ⟨w.heap.size, 5, none⟩ = some (.int .i8 (xs 2)) := cell_at hT0 rfl
 have qhT0_6 : w0.cell? ⟨w.heap.size, 6, none⟩ = some (.int .i8 (xs 3)) := cell_at hT0 rfl
 have qhT0_7 : w0.cell? ⟨w.heap.size, 7, none⟩ = some (.int .i8 (xs 4)) := cell_at hT0 rfl
 have qhT0_8 : w0.cell? ⟨w.heap.size, 8, none⟩ = some (.int .i8 (xs 5)) := cell_at hT0 rfl
 have qhT0_9 : w0.cell? ⟨w.heap.size, 9, none⟩ = some (.int .i8 (xs 6)) := cell_at hT0 rfl
 have qhT0_10 : w0.cell? ⟨w.heap.size, 10, none⟩ = some (.int .i8 (xs 7)) := cell_at hT0 rfl
 have qhT0_11 : w0.cell? ⟨w.heap.size, 11, none⟩ = some (.int .i8 (xs 8)) := cell_at hT0 rfl
 have qhT0_12 : w0.cell? ⟨w.heap.size, 12, none⟩ = some (.int .i8 (xs 9)) := cell_at hT0 rfl
 have qhT0_13 : w0.cell? ⟨w.heap.size, 13, none⟩ = some (.int .i8 (xs 10)) := cell_at hT0 rfl
 have qhT0_14 : w0.cell? ⟨w.heap.size, 14, none⟩ = some (.int .i8 (xs 11)) := cell_at hT0 rfl
 have qhT0_15 : w0.cell? ⟨w.heap.size, 15, none⟩ = some (.int .i8 d0) := cell_at hT0 rfl
 have qhT0_16 : w0.cell? ⟨w.heap.size, 16, none⟩ = some (.int .i8 d1) := cell_at hT0 rfl
 obtain ⟨p8, hp8⟩ : ∃ p, p = w.heap.size + 1 := ⟨_, rfl⟩
 obtain ⟨p9, hp9⟩ : ∃ p, p = w.heap.size + 1 + 1 := ⟨_, rfl⟩
 have hz0 : w1.heap.size = w0.heap.size + 1 := by rw [hw1]; simp
 have hb1 : Below w0.heap.size w0 w1 := by rw [hw1]; exact bl2 _ _
 have hb2 : Below w1.heap.size w1 w2 := by rw [hw2]; exact bl2 _ _
 have hT9 : w2.heap[p9]? = some (.cells #[.string { data := #[115] }, .slice none 0 0] 51 (0, 0)) := by rw [hw2, hp9]; exact heap_new (by omega)
 have hTD : RdT w1 (some ⟨p8, 0, none⟩) 3 (tdl h) := by rw [hw1, hp8]; unfold RdT tdl; exact RdS.of_new hz00.symm rfl
 have hB1 := hB0.call hb1 rfl
 have hT0' := blkb hT0 hb1
 have H2 := H.below hb1
 have HR2 := HR.below hb1
 have hlt0 : w.heap.size < p8 := by omega
 have hp89 : p9 = p8 + 1 := by omega
 have hz1 : w1.heap.size = p9 := by omega
 clear hz0 hz00
 have hpz2 : p9 + 1 = w2.heap.size := by rw [hw2]; simp; omega
 have hb2' : Below p9 w1 w2 := by rw [← hz1]; exact hb2
 rw [← hp9, ← hp8]
 clear qhT0_0 qhT0_1 qhT0_2 qhT0_3 qhT0_4 qhT0_5 qhT0_6 qhT0_7 qhT0_8 qhT0_9 qhT0_10 qhT0_11 qhT0_12 qhT0_13 qhT0_14 qhT0_15 qhT0_16 hT0 H HR hB0 hb1 hb2 hw1 hw2 hp8 hp9
 have HT0 := Lib.hid hT0'
 have HH := Lib.hid H2
 have HRG := Lib.hid HR2
 have HB1 := Lib.hid hB1
 have HTD := Lib.hid hTD
 have HT9 := Lib.hid hT9
 have HB2 := Lib.hid hb2'
 have HZ := Lib.hid (⟨hlt0, hp89, hz1⟩ : w.heap.size < p8 ∧ p9 = p8 + 1 ∧ w1.heap.size = p9)
 clear hT0' H2 HR2 hB1 hTD hT9 hlt0 hp89 hpz2 hb2' hz1 hwe hwh hwh2 he hd
 go_loopw [47] (fun iv wr => ∃ (k : Nat) (V : Option Addr) (vc : Nat) (l' : List Tc), k ≤ n ∧ iv = .int .i64 k ∧ Hid (wr.heap[p9]? = some (.cells #[.string { data := #[115] }, .slice V k vc] 51 (0, 0))) ∧ Hid (wr.ownsRow (p9 + 1) 48 10 (.slice V k vc) k (l'.flatMap Tc.enc)) ∧ Hid (l'.length = k ∧ trk l' (p9 + 1) (fun i => 20 + tm i + wv i + lvS h (20 * (i : Int))) wr) ∧ Hid (Below p9 w1 wr)) (fun iv _ => n - (intOf iv).toNat)
 case atStart => exact ⟨0, none, 0, [], Nat.zero_le _, rfl, HT9, Lib.hid (World.ownsRow_nil _ _ _ _), Lib.hid ⟨rfl, trk.nil _ _ _⟩, HB2⟩
 case round =>
  obtain ⟨k, V, vc, l', hk, rfl, K9, HROW, HTRK, HBR⟩ := hrel
  have hwk : IntKind.i64.wrap ((k : Int) + 1) = ((k + 1 : Nat) : Int) := by rw [wrapI (by have := HN.out; omega)]; simp
  by_cases hlt : k < n
  ·have hk6 : k < 6 := by have := HN.out; omega
   have hlti : (k : Int) < (n : Int) := by omega
   have hk20 : IntKind.i64.wrap (20 * (k : Int)) = 20 * (k : Int) := wrapI (by omega)
   obtain ⟨hlt0, hp89, hpz1⟩ := HZ.out
   have hB1r : Below w1.heap.size w1 wr := by rw [hpz1]; exact HBR.out
   have hszr : p9 < wr.heap.size := (Array.getElem?_eq_some_iff.1 K9.out).1
   obtain ⟨b, off, x, hAe, hx, hb, h0⟩ := enc_at (enc := Value.int .u8) (HH.out.below hB1r) hlt
   subst hAe
   obtain ⟨ht1, ht2⟩ := HTS.out k x hx
   obtain ⟨hv1, hv2⟩ := HWS.out k hk6
   obtain ⟨tk, htk⟩ : ∃ v, v = tm k := ⟨_, rfl⟩
   obtain ⟨wk, hwkk⟩ : ∃ v, v = wv k := ⟨_, rfl⟩
   obtain ⟨S, hS⟩ : ∃ v, v = lvS h (20 * (k : Int)) := ⟨_, rfl⟩
   obtain ⟨N, hNN⟩ : ∃ v, v = lvN h (20 * (k : Int)) := ⟨_, rfl⟩
   obtain ⟨D, hDD⟩ : ∃ v, v = lvD h (20 * (k : Int)) := ⟨_, rfl⟩
   have hlv := lv_ok HHH.out hk6
   rw [← hS, ← hNN, ← hDD] at hlv
   rw [← htk] at ht1 ht2
   rw [← hwkk] at hv1 hv2
   have hSN : Mo.near N D = S := by rw [hS, hNN, hDD]; rfl
   have h23 := fun (T : Option Addr) (tc : Nat) (W : World) (HT : RdT W T 3 (tdl h)) => c23_at T tc h k W HHH.out hk6 HT
   rw [← hNN, ← hDD] at h23
   obtain ⟨p, hp⟩ : ∃ p : Nat, (p : Int) = 20 + tk + wk + S := ⟨(20 + tk + wk + S).toNat, by omega⟩
   have hp80 : p < 80 := by omega
   have hq0 := cell_at (blkb HT0.out hB1r) (i := 3 + (6 + k)) (wgetX _ _ _ _ _ xs (6 + k) (by omega))
   have H23 := Lib.hid h23
   have HV := Lib.hid (⟨ht1, ht2, hv1, hv2⟩ : _ ∧ _ ∧ _ ∧ _)
   have HLV := Lib.hid hlv
   have HSN := Lib.hid hSN
   have HP := Lib.hid (⟨hp, hp80⟩ : _ ∧ _)
   have HE := Lib.hid (⟨htk, hwkk, hS⟩ : _ ∧ _ ∧ _)
   have HQ := Lib.hid hq0
   have HX := Lib.hid hx
   have HB1R := Lib.hid hB1r
   have HK6 := Lib.hid hk6
   have HSZ := Lib.hid hszr
   obtain ⟨p10, hp10⟩ : ∃ p, p = wr.heap.size := ⟨_, rfl⟩
   obtain ⟨w3, hw3⟩ : ∃ W, W = wr.alloc (Obj.cells #[] 55) := ⟨_, rfl⟩
   have hown : w3.ownsRow p10 55 2 (.slice (some ⟨p10, 0, none⟩) 0 0) 0 (([] : List Td).flatMap Td.enc) := ⟨rfl, .inr ⟨p10, 0, #[], rfl, Nat.le_refl _, by rw [hw3, hp10]; exact heap_new rfl, Nat.le_refl _, by decide, rfl, rfl⟩⟩
   have hb3 : Below wr.heap.size wr w3 := by rw [hw3]; exact bl2 _ _
   have hz3 : w3.heap.size = p10 + 1 := by rw [hw3, hp10]; simp
   have htd3 : RdT w3 (some ⟨p8, 0, none⟩) 3 (tdl h) := (HTD.out.below hB1r).below hb3
   have HOWN := Lib.hid hown
   have HTD3 := Lib.hid htd3
   have HB3 := Lib.hid hb3
   have HZ3 := Lib.hid (⟨hz3, hp10⟩ : _ ∧ _)
   clear hlt0 hp89 hpz1 hB1r hszr ht1 ht2 hv1 hv2 hlv hSN h23 hp hp80 hq0 hx hk6 hS hNN hDD htk hwkk hown hb3 hz3 htd3 hp10
   have HW3 := Lib.hid hw3
   clear hw3
   go_wp2_with (at_builtin; rw [← HW3.out, ← HZ3.out.2]; refine wpList_plain rfl fun K hK => wp_appD _ _ rfl p10 _ 0 [] (tdl h) rfl HOWN.out (some ⟨p8, 0, none⟩) 3 3 rfl HTD3.out (by omega) (by have := HZ3.out.1; omega) (fun v' w4 g2 g3 => ?_); obtain ⟨A2, cap2, rfl, hr2, hc2, _⟩ := own_form g2; refine hK _ _ (stopq ?_))
   unfold StopQ
   have hb4 : Below wr.heap.size wr w4 := HB3.out.trans (by rw [← HZ3.out.2]; exact g3)
   have hr4 : RdT w4 A2 3 (tdl h) := by unfold RdT; simpa using hr2
   have HB4 := Lib.hid hb4
   have HR4 := Lib.hid hr4
   clear g2 g3 hr2 hc2 hb4 hr4
   have hlv := HLV.out
   have hk6 := HK6.out
   go_wp2_with fail
   refine (c14 A2 3 cap2 (tdl h) (20 * (k : Int)) N D w4 (by omega) (by omega) HR4.out (tdl_ok HHH.out) (by omega) (fun W hb => H23.out A2 cap2 W (HR4.out.below hb))).mono ?_
   rintro e w5 ⟨rfl, hb5⟩
   obtain ⟨p13, hp13⟩ : ∃ p, p = w5.heap.size := ⟨_, rfl⟩
   obtain ⟨w6, hw6⟩ : ∃ W, W = w5.alloc (Obj.cells #[.int .i64 N, .int .i64 D] 68) := ⟨_, rfl⟩
   have hT13 : w6.heap[p13]? = some (.cells #[.int .i64 N, .int .i64 D] 68 (0, 0)) := by rw [hw6, hp13]; exact heap_new rfl
   have hb6 : Below w5.heap.size w5 w6 := by rw [hw6]; exact bl2 _ _
   have hB6 : Below wr.heap.size wr w6 := (HB4.out.call hb5 rfl).call hb6 rfl
   have hT0 := blkb (blkb HT0.out HB1R.out) hB6
   have hqx := cell_at hT0 (i := 9 + k) (by rw [show 9 + k = 3 + (6 + k) by omega]; exact wgetX _ _ _ _ _ xs (6 + k) (by omega))
   obtain ⟨b0, hb0⟩ : ∃ b, b = w.heap.size := ⟨_, rfl⟩
   rw [← hb0] at hT0 hqx ⊢
   have qhN_0 := cell_at hT13 (i := 0) rfl
   have qhN_1 := cell_at hT13 (i := 1) rfl
   have l13 := cell_lt qhN_0
   have l0 := cell_lt hqx
   have HB0 := Lib.hid hb0
   have HT0r := Lib.hid hT0
   have HT13 := Lib.hid hT13
   have HB6 := Lib.hid hB6
   clear hb5 hb6 hT13 hB6 hT0 hb0
   have n1 : decide (D < 1) = false := by simp; omega
   have n2 : decide (100 < D) = false := by simp; omega
   have n3 : decide (1000 < N) = false := by simp; omega
   have n4 : decide (N < -1000) = false := by simp; omega
   go_wp2_with fail
   rw [← hw6]
   rw [← hp13]
   have HE1o := HE1.out
   have HE10o := HE10.out
   have hv := HV.out
   obtain ⟨ht1, ht2, hv1, hv2⟩ := hv
   have hwt : wrap64 tk = tk := wrap64_ok (by omega)
   have hww : wrap64 wk = wk := wrap64_ok (by omega)
   have hk6i : (k : Int) < 6 := by omega
   have hk0i : (0 : Int) ≤ (k : Int) := by omega
   clear hw6 hp13 n1 n2 n3 n4
   have hB6 := HB6.out
   have hT0 := HT0r.out
   have hT13 := HT13.out
   have qhT0_0 : w6.cell? ⟨b0, 0, none⟩ = some (.slice (some ⟨b, off, none⟩) n cap) := cell_at hT0 rfl
   have qhT0_1 : w6.cell? ⟨b0, 1, none⟩ = some (.int .u8 e0) := cell_at hT0 rfl
   have qhT0_2 : w6.cell? ⟨b0, 2, none⟩ = some (.int .u8 e1) := cell_at hT0 rfl
   have qhT0_3 : w6.cell? ⟨b0, 3, none⟩ = some (.int .i8 (xs 0)) := cell_at hT0 rfl
   have qhT0_4 : w6.cell? ⟨b0, 4, none⟩ = some (.int .i8 (xs 1)) := cell_at hT0 rfl
   have qhT0_5 : w6.cell? ⟨b0, 5, none⟩ = some (.int .i8 (xs 2)) := cell_at hT0 rfl
   have qhT0_6 : w6.cell? ⟨b0, 6, none⟩ = some (.int .i8 (xs 3)) := cell_at hT0 rfl
   have qhT0_7 : w6.cell? ⟨b0, 7, none⟩ = some (.int .i8 (xs 4)) := cell_at hT0 rfl
   have qhT0_8 : w6.cell? ⟨b0, 8, none⟩ = some (.int .i8 (xs 5)) := cell_at hT0 rfl
   have qhT0_9 : w6.cell? ⟨b0, 9, none⟩ = some (.int .i8 (xs 6)) := cell_at hT0 rfl
   have qhT0_10 : w6.cell? ⟨b0, 10, none⟩ = some (.int .i8 (xs 7)) := cell_at hT0 rfl
   have qhT0_11 : w6.cell? ⟨b0, 11, none⟩ = some (.int .i8 (xs 8)) := cell_at hT0 rfl
   have qhT0_12 : w6.cell? ⟨b0, 12, none⟩ = some (.int .i8 (xs 9)) := cell_at hT0 rfl
   have qhT0_13 : w6.cell? ⟨b0, 13, none⟩ = some (.int .i8 (xs 10)) := cell_at hT0 rfl
   have qhT0_14 : w6.cell? ⟨b0, 14, none⟩ = some (.int .i8 (xs 11)) := cell_at hT0 rfl
   have qhT0_15 : w6.cell? ⟨b0, 15, none⟩ = some (.int .i8 d0) := cell_at hT0 rfl
   have qhT0_16 : w6.cell? ⟨b0, 16, none⟩ = some (.int .i8 d1) := cell_at hT0 rfl
   have qhT13_0 : w6.cell? ⟨p13, 0, none⟩ = some (.int .i64 N) := cell_at hT13 rfl
   have qhT13_1 : w6.cell? ⟨p13, 1, none⟩ = some (.int .i64 D) := cell_at hT13 rfl
   refine wp_region_plan [(0, true), (1, true), (2, true), (3, true), (4, true), (5, true), (6, true), (7, true), (8, true), (9, true), (10, true), (11, true), (12, true), (13, true), (14, true), (15, true), (16, true), (17, true), (18, true), (19, false), (20, true), (21, true)] w6.heap.size (by kernel_rfl) (by kernel_rfl) (Nat.le_refl _) (fun _ _ d _ _ h => by cases d <;> exact h) ?_
   have hC : Below w6.heap.size w6 w6 := Below.refl _ _
   have zhT0 : b0 < w6.heap.size := (Array.getElem?_eq_some_iff.1 hT0).1
   have zhT13 : p13 < w6.heap.size := (Array.getElem?_eq_some_iff.1 hT13).1
   repeat (first | (refine wpPlanA_skip _ rfl (by rfl) ?_; simp only [Act.put, List.setIfInBounds_toArray, List.set_cons_zero, List.set_cons_succ]) | (refine wpPlanA_soft _ ?_ rfl (by rfl) ?_ ?_; rotate_left; (intro wq hq hcq; go_simp; first | exact rfl | exact ⟨rfl, rfl⟩); simp only [Act.put, List.setIfInBounds_toArray, List.set_cons_zero, List.set_cons_succ]))
   refine wpPlanA_hard _ rfl (by rfl) (fun w7 hS K hK => ?_)
   have hB7 := hB6.call hS rfl
   replace hC := hC.call hS rfl
   replace hT0 := blkb hT0 hS
   replace hT13 := blkb hT13 hS
   clear hS hB6
   go_simp
   refine (c15 N D _ (by have := HLV.out; omega) (by have := HLV.out; omega)).mono ?_
   rintro e w' ⟨rfl, rfl⟩
   refine hK _ _ hC ?_
   clear hK K
   try simp only [Act.put, List.setIfInBounds_toArray, List.set_cons_zero, List.set_cons_succ]
   rw [HSN.out]
   repeat (first | (refine wpPlanA_skip _ rfl (by rfl) ?_; simp only [Act.put, List.setIfInBounds_toArray, List.set_cons_zero, List.set_cons_succ]) | (refine wpPlanA_soft _ ?_ rfl (by rfl) ?_ ?_; rotate_left; (intro wq hq hcq; go_simp; first | exact rfl | exact ⟨rfl, rfl⟩); simp only [Act.put, List.setIfInBounds_toArray, List.set_cons_zero, List.set_cons_succ]))
   clear qhT0_0 qhT0_1 qhT0_2 qhT0_3 qhT0_4 qhT0_5 qhT0_6 qhT0_7 qhT0_8 qhT0_9 qhT0_10 qhT0_11 qhT0_12 qhT0_13 qhT0_14 qhT0_15 qhT0_16 qhT13_0 qhT13_1
   refine wpPlanA_nil (fun w8 hS => ?_)
   clear hC zhT0 zhT13
   have hB8 := hB7.call hS rfl
   replace hT0 := blkb hT0 hS
   replace hT13 := blkb hT13 hS
   clear hS hB7
   have qhT0_0 : w8.cell? ⟨b0, 0, none⟩ = some (.slice (some ⟨b, off, none⟩) n cap) := cell_at hT0 rfl
   have qhT0_1 : w8.cell? ⟨b0, 1, none⟩ = some (.int .u8 e0) := cell_at hT0 rfl
   have qhT0_2 : w8.cell? ⟨b0, 2, none⟩ = some (.int .u8 e1) := cell_at hT0 rfl
   have qhT0_3 : w8.cell? ⟨b0, 3, none⟩ = some (.int .i8 (xs 0)) := cell_at hT0 rfl
   have qhT0_4 : w8.cell? ⟨b0, 4, none⟩ = some (.int .i8 (xs 1)) := cell_at hT0 rfl
   have qhT0_5 : w8.cell? ⟨b0, 5, none⟩ = some (.int .i8 (xs 2)) := cell_at hT0 rfl
   have qhT0_6 : w8.cell? ⟨b0, 6, none⟩ = some (.int .i8 (xs 3)) := cell_at hT0 rfl
   have qhT0_7 : w8.cell? ⟨b0, 7, none⟩ = some (.int .i8 (xs 4)) := cell_at hT0 rfl
   have qhT0_8 : w8.cell? ⟨b0, 8, none⟩ = some (.int .i8 (xs 5)) := cell_at hT0 rfl
   have qhT0_9 : w8.cell? ⟨b0, 9, none⟩ = some (.int .i8 (xs 6)) := cell_at hT0 rfl
   have qhT0_10 : w8.cell? ⟨b0, 10, none⟩ = some (.int .i8 (xs 7)) := cell_at hT0 rfl
   have qhT0_11 : w8.cell? ⟨b0, 11, none⟩ = some (.int .i8 (xs 8)) := cell_at hT0 rfl
   have qhT0_12 : w8.cell? ⟨b0, 12, none⟩ = some (.int .i8 (xs 9)) := cell_at hT0 rfl
   have qhT0_13 : w8.cell? ⟨b0, 13, none⟩ = some (.int .i8 (xs 10)) := cell_at hT0 rfl
   have qhT0_14 : w8.cell? ⟨b0, 14, none⟩ = some (.int .i8 (xs 11)) := cell_at hT0 rfl
   have qhT0_15 : w8.cell? ⟨b0, 15, none⟩ = some (.int .i8 d0) := cell_at hT0 rfl
   have qhT0_16 : w8.cell? ⟨b0, 16, none⟩ = some (.int .i8 d1) := cell_at hT0 rfl
   have qhT13_0 : w8.cell? ⟨p13, 0, none⟩ = some (.int .i64 N) := cell_at hT13 rfl
   have qhT13_1 : w8.cell? ⟨p13, 1, none⟩ = some (.int .i64 D) := cell_at hT13 rfl
   have eP : IntKind.i64.wrap (IntKind.i64.wrap (IntKind.i64.wrap (20 + (IntKind.i64.wrap x).tmod 40) + (IntKind.i64.wrap (xs (6 + k))).tmod M) + S) = (p : Int) := by
    have a1 : (IntKind.i64.wrap x).tmod 40 = tk := by rw [IntWalk.i64_left]; exact ht1
    have a2 : (IntKind.i64.wrap (xs (6 + k))).tmod M = wk := by rw [IntWalk.i64_left]; exact hv1
    rw [a1, a2, wrapI (x := 20 + tk) (by omega), wrapI (x := 20 + tk + wk) (by omega), wrapI (x := 20 + tk + wk + S) (by omega), HP.out.1]
   rw [eP]
   clear eP
   obtain ⟨i0, hi, hz0, hz1, hz2⟩ := info_parts info44
   obtain ⟨g, hg⟩ : ∃ g, g = w8.heap.size := ⟨_, rfl⟩
   obtain ⟨F, hF⟩ : ∃ F : Nat → Value, F = fun _ => .float .f32 0 := ⟨_, rfl⟩
   obtain ⟨wm, hw7⟩ : ∃ W, W = w8.alloc (.cells (fillA (.float .f32 0) F 80 0) 44) := ⟨_, rfl⟩
   have hmk : (Instr.makeSlice 45 (.int .i64 80) (.int .i64 80)).run Tryd.prog w8 = .ok (.slice (some ⟨g, 0, none⟩) 80 80) wm := by
    rw [hg, hw7]
    exact run_make_fill (P := Tryd.prog) 45 44 i0 (.float .f32 0) F Tryd.underlying45 hi hz0 hz1 rfl 80 (by omega) (by rw [hz2]; omega) w8
   have hs7 : wm.heap[g]? = some (.cells (fillA (.float .f32 0) F 80 0) 44 (0, 0)) := by rw [hw7]; exact heap_new hg
   have hb7 : Below w8.heap.size w8 wm := by rw [hw7]; exact bl2 _ _
   obtain ⟨hp, hp80⟩ := HP.out
   obtain ⟨ws, hw8⟩ : ∃ W, W = wm.setCell ⟨g, p, none⟩ (.float .f32 1065353216) := ⟨_, rfl⟩
   have hs8 : ws.heap[g]? = some (.cells (encF (spk p)).toArray 44 (0, 0)) := by rw [hw8]; exact spk_block F hs7 hp80
   have hz8 : ws.heap.size = wm.heap.size := by rw [hw8]; simp
   have hb8 : Below w8.heap.size w8 ws := by rw [hw8]; exact hb7.setCell (p := ⟨g, p, none⟩) (by show _ ≤ g; omega) _
   have hbr8 : Below wr.heap.size wr ws := hB8.call hb8 rfl
   have hsz8 : wm.heap.size = g + 1 := by rw [hw7, hg]; simp
   have hszr := HSZ.out
   have hgr : wr.heap.size ≤ g := by rw [hg]; exact hB8.size
   have qc : wm.cell? ⟨g, p, none⟩ = some (.float .f32 0) := cell_at hs7 (by rw [fillA_get _ _ _ _ _ hp80, if_neg (Nat.not_lt_zero _)])
   have qf : wm.frozen? ⟨g, p, none⟩ = false := free_at hs7
   have ql := cell_lt qc
   obtain ⟨y, hy⟩ : ∃ y : Tc, y = ⟨20 * (k : Int), some ⟨g, 0, none⟩, 80, spk p⟩ := ⟨_, rfl⟩
   have hye : y.enc = [.int .i64 0, .int .i64 0, .int .i64 0, .int .i64 0, .int .i64 (20 * (k : Int)), .int .i64 0, .int .i64 0, .int .i64 0, .bool false, .slice (some ⟨g, 0, none⟩) 80 80] := by rw [hy]; unfold Tc.enc; simp only; rw [spk_len]
   have how : OwF (p9 + 1) ws y := by
    rw [hy]
    unfold OwF
    simp only
    rw [spk_len]
    exact ⟨rfl, .inr ⟨g, 80, (encF (spk p)).toArray, rfl, by omega, hs8, Nat.le_refl _, by decide, by simp [encF, spk_len], by simp [encF, spk_len, List.take_of_length_le]⟩⟩
   have k98 : ws.heap[p9]? = some (.cells #[.string { data := #[115] }, .slice V k vc] 51 (0, 0)) := blkb K9.out hbr8
   have k970 := cell_at k98 (i := 0) rfl
   have k971 := cell_at k98 (i := 1) rfl
   have l9 := cell_lt k970
   have row8 : ws.ownsRow (p9 + 1) 48 10 (.slice V k vc) k (l'.flatMap Tc.enc) := own_below HROW.out hbr8
   have trk8 : trk l' (p9 + 1) (fun i => 20 + tm i + wv i + lvS h (20 * (i : Int))) ws := HTRK.out.2.imp (fun z hz => hz.below hbr8)
   have b89 : Below ws.heap.size ws (ws.alloc (Obj.cells #[.int .i64 0, .int .i64 0, .int .i64 0, .int .i64 0, .int .i64 (20 * (k : Int)), .int .i64 0, .int .i64 0, .int .i64 0, .bool false, .slice (some ⟨g, 0, none⟩) 80 80] 48)) := bl2 _ _
   have hrd : RdC (ws.alloc (Obj.cells #[.int .i64 0, .int .i64 0, .int .i64 0, .int .i64 0, .int .i64 (20 * (k : Int)), .int .i64 0, .int .i64 0, .int .i64 0, .bool false, .slice (some ⟨g, 0, none⟩) 80 80] 48)) (some ⟨ws.heap.size, 0, none⟩) 1 [y] := by
    unfold RdC
    rw [List.flatMap_cons, List.flatMap_nil, List.append_nil, hye]
    exact RdS.of_new (cs := [.int .i64 0, .int .i64 0, .int .i64 0, .int .i64 0, .int .i64 (20 * (k : Int)), .int .i64 0, .int .i64 0, .int .i64 0, .bool false, .slice (some ⟨g, 0, none⟩) 80 80]) rfl rfl
   have hrow9 := own_below row8 b89
   have hsz9 : p9 + 1 ≤ (ws.alloc (Obj.cells #[.int .i64 0, .int .i64 0, .int .i64 0, .int .i64 0, .int .i64 (20 * (k : Int)), .int .i64 0, .int .i64 0, .int .i64 0, .bool false, .slice (some ⟨g, 0, none⟩) 80 80] 48)).heap.size := by have := b89.size; omega
   have hst : (store ⟨g, p, none⟩ (.float .f32 1065353216)).run Tryd.prog wm = .ok () ws := by rw [run_store _ _ _ _ _ rfl, qc, hw8]; simp [qf]
   have hp80i : (p : Int) < 80 := by omega
   have n5 : decide ((p : Int) < 0) = false := by simp
   have n6 : decide ((80 : Int) ≤ (p : Int)) = false := by simp; omega
   have n7 : decide (80 ≤ p) = false := by simp; omega
   have HRW9 := Lib.hid hrow9
   have HRD9 := Lib.hid hrd
   have HSZ9 := Lib.hid hsz9
   have HK98 := Lib.hid k98
   have HBR8 := Lib.hid hbr8
   have HB89 := Lib.hid b89
   have HTRK8 := Lib.hid trk8
   have HY := Lib.hid (⟨hy, hp, how⟩ : y = ⟨20 * (k : Int), some ⟨g, 0, none⟩, 80, spk p⟩ ∧ (p : Int) = 20 + tk + wk + S ∧ OwF (p9 + 1) ws y)
   have HROW8 := Lib.hid row8
   clear hi hz0 hz1 hz2 hg hF hw7 hs7 hb7 hw8 hs8 hz8 hb8 hbr8 hsz8 hszr hgr hye how k98 row8 trk8 b89 hrd hrow9 hsz9 hT0 hT13 qhT13_0 qhT13_1 hB8 hp
   clear qhT0_0 qhT0_1 qhT0_2 qhT0_3 qhT0_4 qhT0_5 qhT0_6 qhT0_7 qhT0_8 qhT0_9 qhT0_10 qhT0_11 qhT0_12 qhT0_13 qhT0_14 qhT0_15 qhT0_16
   clear HT13 HT0r HB6 HB4 HR4 H23 HOWN HTD3 HB3 ht2 hv2 hlv hqx hwt hww hk0i
   have hlim := HN.out
   go_wp2_with (at_builtin; refine wpList_plain rfl fun K hK => wp_appC _ _ rfl (p9 + 1) (.slice V k vc) k l' [y] rfl HRW9.out (some ⟨ws.heap.size, 0, none⟩) 1 1 rfl HRD9.out (by omega) HSZ9.out (fun v' w4 g2 g3 => ?_); refine hK _ _ (stopq ?_))
   unfold StopQ
   obtain ⟨V', vc', rfl⟩ := own_slice g2
   have hsz9 := HSZ9.out
   have hszr := HSZ.out
   have nown : ∀ b, b < p9 + 1 → some b ≠ (Value.slice V k vc).ownBlock := fun b hb e => by have := (HROW8.out.lt b e.symm).1; omega
   have k94 : w4.heap[p9]? = some (.cells #[.string { data := #[115] }, .slice V k vc] 51 (0, 0)) := (g3.block p9 (by omega) (nown p9 (by omega))).trans (blkb HK98.out HB89.out)
   have trk4 : trk (l' ++ [y]) (p9 + 1) (fun i => 20 + tm i + wv i + lvS h (20 * (i : Int))) w4 := (trk.push HTRK8.out (by rw [HY.out.1, HTRK.out.1]) (by rw [HY.out.1, HTRK.out.1, HY.out.2.1, HE.out.1, HE.out.2.1, HE.out.2.2]) HY.out.2.2).imp (fun z hz => (hz.below HB89.out).app HRW9.out g3)
   have br4 : Below p9 w1 w4 := ((HBR.out.trans (HBR8.out.mono (by omega))).trans (HB89.out.mono (by have := HBR8.out.size; omega))).grown g3 (by omega) (fun j hj => by have := (HROW8.out.lt j hj).1; omega)
   have q1 := cell_at k94 (i := 1) rfl
   have f1 := free_at k94 (i := 1)
   have l1 := cell_lt q1
   have k95 : Hid ((w4.setCell ⟨p9, 1, none⟩ (.slice V' (k + 1) vc')).heap[p9]? = some (.cells #[.string { data := #[115] }, .slice V' (k + 1) vc'] 51 (0, 0))) := Lib.hid (set_blk (i := 1) k94 _)
   have row5 : Hid ((w4.setCell ⟨p9, 1, none⟩ (.slice V' (k + 1) vc')).ownsRow (p9 + 1) 48 10 (.slice V' (k + 1) vc') (k + 1) ((l' ++ [y]).flatMap Tc.enc)) := Lib.hid (own_setfar (p := ⟨p9, 1, none⟩) g2 (by show p9 < p9 + 1; omega))
   have trk5 : Hid ((l' ++ [y]).length = k + 1 ∧ trk (l' ++ [y]) (p9 + 1) (fun i => 20 + tm i + wv i + lvS h (20 * (i : Int))) (w4.setCell ⟨p9, 1, none⟩ (.slice V' (k + 1) vc'))) := Lib.hid ⟨by rw [List.length_append, HTRK.out.1]; rfl, trk4.imp (fun z hz => hz.setT k94 (by decide))⟩
   have br5 : Hid (Below p9 w1 (w4.setCell ⟨p9, 1, none⟩ (.slice V' (k + 1) vc'))) := Lib.hid (br4.setCell (p := ⟨p9, 1, none⟩) (Nat.le_refl _) _)
   clear g2 g3 nown k94 trk4 br4 hsz9 hszr k970 k971 l9 hst qc qf ql
   rw [HB0.out]
   cases V'
   ·go_wp2
    go_roundw
    case rel => exact ⟨k + 1, _, _, _, by omega, by go_num, k95, row5, trk5, br5⟩
    case measure => simp [intOf]; omega
   ·go_wp2
    go_roundw
    case rel => exact ⟨k + 1, _, _, _, by omega, by go_num, k95, row5, trk5, br5⟩
    case measure => simp [intOf]; omega
  ·obtain rfl : n = k := by omega
   obtain ⟨hlt0, hp89, hpz1⟩ := HZ.out
   have hB1r : Below w1.heap.size w1 wr := by rw [hpz1]; exact HBR.out
   obtain ⟨b0, hb0⟩ : ∃ b, b = w.heap.size := ⟨_, rfl⟩
   have hT0 : wr.heap[b0]? = some (.cells #[.slice A n cap, .int .u8 e0, .int .u8 e1, .int .i8 (xs 0), .int .i8 (xs 1), .int .i8 (xs 2), .int .i8 (xs 3), .int .i8 (xs 4), .int .i8 (xs 5), .int .i8 (xs 6), .int .i8 (xs 7), .int .i8 (xs 8), .int .i8 (xs 9), .int .i8 (xs 10), .int .i8 (xs 11), .int .i8 d0, .int .i8 d1] 29 (0, 0)) := by rw [hb0]; exact blkb HT0.out hB1r
   have hT9 := K9.out
   have hTD := HTD.out.below hB1r
   have hRG := HRG.out.below hB1r
   have hTR := HTRK.out.2
   obtain ⟨_, _, he9, hRC, _⟩ := own_form HROW.out
   cases he9
   replace hRC : RdC wr V n l' := hRC
   have hB20 : Below w.heap.size w wr := HB1.out.call hB1r rfl
   have K10 := Lib.hid (fun (W : World) (X : Option Addr) (xc : Nat) (h1 : Rng W) (h2 : RdC W V n l') (h3 : trk l' (p9 + 1) (fun i => 20 + tm i + wv i + lvS h (20 * (i : Int))) W) (h4 : RdT W X 3 (tdl h)) => k10 V n vc l' h _ _ W HN.out HHH.out h1 h2 h3 X xc h4)
   rw [← hb0]
   have HB0 := Lib.hid hb0
   clear hlt0 hp89 hpz1 hB1r hb0 hlt hwk
   go_wp2_with fail
   have qhT0_0 : wr.cell? ⟨b0, 0, none⟩ = some (.slice A n cap) := cell_at hT0 rfl
   have qhT9_0 : wr.cell? ⟨p9, 0, none⟩ = some (.string { data := #[115] }) := cell_at hT9 rfl
   have qhT9_1 : wr.cell? ⟨p9, 1, none⟩ = some (.slice V n vc) := cell_at hT9 rfl
   refine wp_region_planF (Φ := Fresh wr.heap.size #[.string { data := #[] }, .slice none 0 0] 51) [(0, 1), (2, 1), (1, 0), (3, 0), (4, 0), (5, 1), (6, 1), (7, 1), (8, 2), (9, 3), (10, 1)] 8 wr.heap.size _ rfl (by kernel_rfl) (by kernel_rfl) (Nat.le_refl _) (fun _ _ d _ _ h => by cases d <;> exact h) (fun _ _ d _ _ h => by cases d <;> exact h) (fun v w w' hv hb => hv.below hb) ?hF ?_
   case hF =>
    intro a wq hq
    refine ⟨rfl, ?_⟩
    have hsz := hq.size
    go_simp
    exact ⟨_, rfl, ⟨_, rfl, hsz, heap_new rfl⟩, (Below.refl _ _).alloc (Nat.le_refl _) _⟩
   have hC : Below wr.heap.size wr wr := Below.refl _ _
   have hBr := hB20
   have zhT0 : b0 < wr.heap.size := (Array.getElem?_eq_some_iff.1 hT0).1
   have zhT9 : p9 < wr.heap.size := (Array.getElem?_eq_some_iff.1 hT9).1
   have hT00 := hT0
   have hT90 := hT9
   have hTD0 := hTD
   have hRG0 := hRG
   have hRC0 := hRC
   have hTR0 := hTR
   repeat (first | (refine wpPlanFA_skip _ rfl (by rfl) ?_; simp only [Act.put, List.setIfInBounds_toArray, List.set_cons_zero, List.set_cons_succ]) | (refine wpPlanFA_soft _ ?_ rfl (by rfl) ?_ ?_; rotate_left; (intro wq hq hcq; go_simp; first | exact rfl | exact ⟨rfl, rfl⟩); simp only [Act.put, List.setIfInBounds_toArray, List.set_cons_zero, List.set_cons_succ]))
   refine wpPlanFA_hard _ rfl (by rfl) (fun w21 hS K hK => ?_)
   have hB21 := hB20.call hS rfl
   replace hC := hC.call hS rfl
   replace hT0 := blkb hT0 hS
   replace hT9 := blkb hT9 hS
   replace hTD := hTD.below hS
   replace hRG := hRG.below hS
   replace hRC := hRC.below hS
   replace hTR := hTR.below hS
   clear hS hB20
   go_simp
   have hb := bl2 w21 (Obj.cells #[] 55)
   refine hK _ _ (hC.call hb rfl) hb ?_
   clear hK K
   generalize hWn : w21.alloc (Obj.cells #[] 55) = w22 at hb ⊢
   clear hWn
   obtain ⟨bN7, hbn⟩ : ∃ b, b = w21.heap.size := ⟨_, rfl⟩
   rw [← hbn]
   clear hbn
   have hB22 := hB21.call hb rfl
   replace hC := hC.call hb rfl
   replace hT0 := blkb hT0 hb
   replace hT9 := blkb hT9 hb
   replace hTD := hTD.below hb
   replace hRG := hRG.below hb
   replace hRC := hRC.below hb
   replace hTR := hTR.below hb
   clear hb hB21
   try simp only [Act.put, List.setIfInBounds_toArray, List.set_cons_zero, List.set_cons_succ]
   refine wpPlanFA_hard _ rfl (by rfl) (fun w23 hS K hK => ?_)
   have hB23 := hB22.call hS rfl
   replace hC := hC.call hS rfl
   replace hT0 := blkb hT0 hS
   replace hT9 := blkb hT9 hS
   replace hTD := hTD.below hS
   replace hRG := hRG.below hS
   replace hRC := hRC.below hS
   replace hTR := hTR.below hS
   clear hS hB22
   refine wp_copyD _ _ rfl bN7 rfl ⟨p8, 0, none⟩ 3 3 rfl (tdl h) hTD (by omega) ?_
   intro X9 xc9 w24 hX9 hb
   have hB24 := hB23.call hb rfl
   replace hC := hC.call hb rfl
   replace hT0 := blkb hT0 hb
   replace hT9 := blkb hT9 hb
   replace hTD := hTD.below hb
   replace hRG := hRG.below hb
   replace hRC := hRC.below hb
   replace hTR := hTR.below hb
   refine hK _ _ hC hb ?_
   clear hK K hb hB23
   try simp only [Act.put, List.setIfInBounds_toArray, List.set_cons_zero, List.set_cons_succ]
   repeat (first | (refine wpPlanFA_skip _ rfl (by rfl) ?_; simp only [Act.put, List.setIfInBounds_toArray, List.set_cons_zero, List.set_cons_succ]) | (refine wpPlanFA_soft _ ?_ rfl (by rfl) ?_ ?_; rotate_left; (intro wq hq hcq; go_simp; first | exact rfl | exact ⟨rfl, rfl⟩); simp only [Act.put, List.setIfInBounds_toArray, List.set_cons_zero, List.set_cons_succ]))
   refine wpPlanFA_hard _ rfl (by rfl) (fun w25 hS K hK => ?_)
   have hB25 := hB24.call hS rfl
   replace hC := hC.call hS rfl
   replace hT0 := blkb hT0 hS
   replace hT9 := blkb hT9 hS
   replace hTD := hTD.below hS
   replace hRG := hRG.below hS
   replace hRC := hRC.below hS
   replace hTR := hTR.below hS
   replace hX9 := hX9.below hS
   clear hS hB24
   go_simp
   refine (K10.out _ _ _ hRG hRC hTR hX9).mono ?_
   rintro e w26 ⟨A9, c9, l9, rfl, hl9, hRW, hPC, hb⟩
   replace hRW : OwR wr.heap.size A9 n c9 l9 w26 := own_low hRW hC.size
   replace hPC : pco wr.heap.size l9 (fun k => shiftF (spk (20 + tm k + wv k + lvS h (20 * (k : Int)))) (lvS h (20 * (k : Int)))) w26 := hPC.low hC.size
   have HL9 := Lib.hid hl9
   clear hl9
   have hB26 := hB25.call hb rfl
   replace hC := hC.call hb rfl
   replace hT0 := blkb hT0 hb
   replace hT9 := blkb hT9 hb
   replace hTD := hTD.below hb
   replace hRG := hRG.below hb
   replace hRC := hRC.below hb
   replace hTR := hTR.below hb
   replace hX9 := hX9.below hb
   refine hK _ _ hC hb ?_
   clear hK K hb hB25
   try simp only [Act.put, List.setIfInBounds_toArray, List.set_cons_zero, List.set_cons_succ]
   repeat (first | (refine wpPlanFA_skip _ rfl (by rfl) ?_; simp only [Act.put, List.setIfInBounds_toArray, List.set_cons_zero, List.set_cons_succ]) | (refine wpPlanFA_soft _ ?_ rfl (by rfl) ?_ ?_; rotate_left; (intro wq hq hcq; go_simp; first | exact rfl | exact ⟨rfl, rfl⟩); simp only [Act.put, List.setIfInBounds_toArray, List.set_cons_zero, List.set_cons_succ]))
   refine wpPlanFA_float _ rfl (fun v w27 hS hv => ?_)
   obtain ⟨bhQ7, rfl, hge, hQ7⟩ := hv
   have hB27 := hB26.call hS rfl
   replace hC := hC.call hS rfl
   replace hT0 := blkb hT0 hS
   replace hT9 := blkb hT9 hS
   replace hTD := hTD.below hS
   replace hRG := hRG.below hS
   replace hRC := hRC.below hS
   replace hTR := hTR.below hS
   replace hX9 := hX9.below hS
   replace hRW := hRW.below hS
   replace hPC := hPC.below hS
   clear hS hB26
   try simp only [Act.put, List.setIfInBounds_toArray, List.set_cons_zero, List.set_cons_succ]
   refine wpPlanFA_late _ rfl (by rfl) (fun w28 hS K hK => ?_)
   replace hC := hC.call hS rfl
   replace hQ7 := blkb hQ7 hS
   replace hRW := hRW.below hS
   replace hPC := hPC.below hS
   clear hS hB27 hT0 hT9 hTD hRG hRC hTR hX9
   refine wp_store_blk 51 _ _ rfl bhQ7 _ rfl rfl hQ7 ?s1 ?s2 ?s3 ?_
   case s1 => rfl
   case s2 => kernel_rfl
   case s3 => simp [Value.oneCell']
   intro w29 hQ7n hg3 hs3
   replace hC : Below wr.heap.size wr w29 := hC.grown hg3 hC.size (fun j hj => by cases hj; exact hge)
   refine hK _ _ hC ?_
   clear hK K
   replace hPC : pco wr.heap.size l9 (fun k => shiftF (spk (20 + tm k + wv k + lvS h (20 * (k : Int)))) (lvS h (20 * (k : Int)))) w29 := hPC.imp (fun y hy => row_keptT hy hQ7 (by decide) hg3)
   replace hRW : OwR wr.heap.size A9 n c9 l9 w29 := row_keptT hRW hQ7 (by decide) hg3
   clear hg3 hs3 hQ7
   have hQ7 := hQ7n
   clear hQ7n
   have hB29 := hBr.call hC rfl
   have hT0 := blkb hT00 hC
   have hT9 := blkb hT90 hC
   have hTD := hTD0.below hC
   have hRG := hRG0.below hC
   have hRC := hRC0.below hC
   have hTR := hTR0.below hC
   try simp only [Act.put, List.setIfInBounds_toArray, List.set_cons_zero, List.set_cons_succ]
   repeat (first | (refine wpPlanFA_skip _ rfl (by rfl) ?_; simp only [Act.put, List.setIfInBounds_toArray, List.set_cons_zero, List.set_cons_succ]) | (refine wpPlanFA_soft _ ?_ rfl (by rfl) ?_ ?_; rotate_left; (intro wq hq hcq; go_simp; first | exact rfl | exact ⟨rfl, rfl⟩); simp only [Act.put, List.setIfInBounds_toArray, List.set_cons_zero, List.set_cons_succ]))
   clear qhT0_0 qhT9_0 qhT9_1
   refine wpPlanFA_nil (fun w30 hS => ?_)
   clear hC hge hBr zhT0 zhT9 hT00 hT90 hTD0 hRG0 hRC0 hTR0
   have hB30 := hB29.call hS rfl
   replace hT0 := blkb hT0 hS
   replace hT9 := blkb hT9 hS
   replace hTD := hTD.below hS
   replace hRG := hRG.below hS
   replace hRC := hRC.below hS
   replace hTR := hTR.below hS
   replace hQ7 := blkb hQ7 hS
   replace hRW := hRW.below hS
   replace hPC := hPC.below hS
   clear hS hB29
   have qhT0_0 : w30.cell? ⟨b0, 0, none⟩ = some (.slice A n cap) := cell_at hT0 rfl
   have qhT9_0 : w30.cell? ⟨p9, 0, none⟩ = some (.string { data := #[115] }) := cell_at hT9 rfl
   have qhT9_1 : w30.cell? ⟨p9, 1, none⟩ = some (.slice V n vc) := cell_at hT9 rfl
   have hRD := hRW.rd
   have q0 := cell_at hQ7 (i := 0) rfl
   have q1 := cell_at hQ7 (i := 1) rfl
   have lq := cell_lt q0
   have HRD := Lib.hid hRD
   have HPC := Lib.hid hPC
   have HB30 := Lib.hid hB30
   clear hRD hPC hRW hB30 hT0 hT9 hTD hRG hRC hTR hQ7 K10 HB0 qhT9_0 qhT9_1
   go_wp2_with fail
   clear q0 q1 lq qhT0_0
   go_loopw [19, 149] (fun x iv wr => ∃ k : Nat, k ≤ n ∧ iv = .int .i64 k ∧ Hid (wr.ownsRow w30.heap.size 60 2 x k ((pk6 k tm wv).flatMap Td.enc)) ∧ Hid (Below w30.heap.size w30 wr)) (fun _ iv _ => n - (intOf iv).toNat)
   case atStart => exact ⟨0, Nat.zero_le _, rfl, Lib.hid (World.ownsRow_nil _ _ _ _), Lib.hid (Below.refl _ _)⟩
   case round =>
    obtain ⟨k, hk, rfl, HROW2, HBR2⟩ := hrel
    have hwk : IntKind.i64.wrap ((k : Int) + 1) = ((k + 1 : Nat) : Int) := by rw [wrapI (by have := HN.out; omega)]; simp
    by_cases hlt : k < n
    ·have hk6 : k < 6 := by have := HN.out; omega
     have hlti : (k : Int) < (n : Int) := by omega
     have hk2 : IntKind.i64.wrap (2 * (k : Int)) = 2 * (k : Int) := wrapI (by omega)
     obtain ⟨bb, oo, tx, hAe2, htx, hb2, hc2⟩ := enc_at (enc := Value.int .u8) HH.out hlt
     clear hAe2 hb2 hc2
     obtain ⟨_, ht2⟩ := HTS.out k tx htx
     obtain ⟨_, hv2⟩ := HWS.out k hk6
     have hlv := lv_ok HHH.out hk6
     obtain ⟨x, hx⟩ : ∃ x, l9[k]? = some x := ⟨l9[k]'(by rw [HL9.out]; exact hlt), List.getElem?_eq_getElem _⟩
     obtain ⟨b, off, hAe, hb, h0, h1, h2, h3, h4, h5, h6, h7, h8, h9⟩ := (HRD.out.below HBR2.out).at hx
     subst hAe
     obtain ⟨hfs, how⟩ := HPC.out k x hx
     obtain ⟨fs, hfs2⟩ : ∃ f, f = x.fs := ⟨_, rfl⟩
     rw [← hfs2] at hfs
     simp only at hfs
     have hln : fs.length = 80 := by rw [hfs, shiftF_len, spk_len]
     have hor : ∀ v ∈ fs, v = 0 ∨ v = 1065353216 := by rw [hfs]; exact shiftF_or _ _
     obtain ⟨q, hq⟩ : ∃ q : Nat, (q : Int) = 20 + tm k + wv k := ⟨(20 + tm k + wv k).toNat, by omega⟩
     have hsp := shift_spk (p := 20 + tm k + wv k + lvS h (20 * (k : Int))) (s := lvS h (20 * (k : Int))) (q := q) (by omega) (by omega) (by omega)
     rw [← hfs] at hsp
     have hrd0 : RdS wr 1 x.A 80 (encF fs) := by
      have := RdS.below how.rd HBR2.out
      rw [← hfs2, hln] at this
      exact this
     obtain ⟨b', off', hxA, hb', _⟩ := RdS.at hrd0 (k := 0) (by omega)
     obtain ⟨d, hd⟩ : ∃ d, d = x.off := ⟨_, rfl⟩
     obtain ⟨xc, hxc⟩ : ∃ d, d = x.cap := ⟨_, rfl⟩
     rw [hxA] at hrd0
     rw [← hfs2, hln, hxA, ← hxc] at h9
     rw [← hd] at h4
     obtain ⟨wa, hwa⟩ : ∃ W, W = wr.alloc (Obj.cells #[.int .i64 0, .int .i64 0, .int .i64 0, .int .i64 0, .int .i64 d, .int .i64 0, .int .i64 0, .int .i64 0, .bool false, .slice (some ⟨b', off', none⟩) 80 xc] 48) := ⟨_, rfl⟩
     obtain ⟨wb, hwb⟩ : ∃ W, W = wa.alloc (Obj.cells #[] 44) := ⟨_, rfl⟩
     obtain ⟨b8, hb8⟩ : ∃ b, b = wr.heap.size := ⟨_, rfl⟩
     obtain ⟨b9, hb9⟩ : ∃ b, b = wr.heap.size + 1 := ⟨_, rfl⟩
     have hBa : Below wr.heap.size wr wa := by rw [hwa]; exact bl2 _ _
     have hBb : Below wa.heap.size wa wb := by rw [hwb]; exact bl2 _ _
     have HRDB := Lib.hid (RdS.below (RdS.below hrd0 hBa) hBb)
     have HBB := Lib.hid (hBa.call hBb rfl)
     have HWA := Lib.hid hwa
     have HWB := Lib.hid hwb
     have HB8 := Lib.hid hb8
     have HB9 := Lib.hid hb9
     have HLN := Lib.hid hln
     have HOR := Lib.hid hor
     have HSP := Lib.hid hsp
     have HQ := Lib.hid hq
     clear ht2 hv2 hlv hx hfs how hfs2 hln hor hq hsp hrd0 hxA hd hxc hwa hwb hb8 hb9 hBa hBb htx
     go_wp2_with (at_builtin; rw [← HB9.out, ← HB8.out, ← HWA.out, ← HWB.out]; refine wpList_plain rfl fun K hK => wp_copyF _ _ rfl b9 rfl ⟨b', off', none⟩ 80 xc rfl fs HRDB.out (by omega) (fun X xc2 w4 hX hb4 => ?_); refine hK _ _ (stopq ?_))
     unfold StopQ
     have HB4 := Lib.hid (HBB.out.call hb4 rfl)
     have HX := Lib.hid hX
     clear hb4 hX h0 h1 h2 h3 h4 h5 h6 h7 h8 h9 hb hb'
     go_wp2_with fail
     refine (c11 X 80 xc2 fs q w4 (by omega) HLN.out HX.out HOR.out HSP.out.1 HSP.out.2).mono ?_
     rintro e w5 ⟨rfl, hb5⟩
     obtain ⟨w6, hw6⟩ : ∃ W, W = w5.alloc (Obj.cells #[.int .i64 (2 * (k : Int)), .int .i64 (q : Int)] 60) := ⟨_, rfl⟩
     have hb6 : Below w5.heap.size w5 w6 := by rw [hw6]; exact bl2 _ _
     have hbr6 : Below wr.heap.size wr w6 := (HB4.out.call hb5 rfl).call hb6 rfl
     have hrd6 : RdT w6 (some ⟨w5.heap.size, 0, none⟩) 1 [⟨2 * (k : Int), (q : Int)⟩] := by rw [hw6]; unfold RdT; exact RdS.of_new rfl rfl
     have hsz6 : w30.heap.size ≤ w6.heap.size := Nat.le_trans HBR2.out.size hbr6.size
     have HOWN6 := Lib.hid (own_below HROW2.out hbr6)
     have HRD6 := Lib.hid hrd6
     have HSZ6 := Lib.hid hsz6
     have HW6 := Lib.hid hw6
     have HBR6 := Lib.hid (HBR2.out.call hbr6 rfl)
     clear hb5 hw6 hb6 hbr6 hrd6 hsz6
     go_wp2_with (at_builtin; rw [← HW6.out]; refine wpList_plain rfl fun K hK => wp_appT _ _ rfl w30.heap.size _ k (pk6 k tm wv) [⟨2 * (k : Int), (q : Int)⟩] rfl HOWN6.out (some ⟨w5.heap.size, 0, none⟩) 1 1 rfl HRD6.out (by omega) HSZ6.out (fun v' w7 g2 g3 => ?_); refine hK _ _ (stopq ?_))
     unfold StopQ
     have hpk : pk6 k tm wv ++ [⟨2 * (k : Int), (q : Int)⟩] = pk6 (k + 1) tm wv := by rw [pk6_succ, HQ.out]
     rw [hpk] at g2
     have ROW7 := Lib.hid g2
     have BR7 := Lib.hid (HBR6.out.trans g3)
     clear g2 g3 hpk
     go_wp2
     go_roundw
     case rel => exact ⟨k + 1, by omega, by go_num, ROW7, BR7⟩
     case measure => simp [intOf]; omega
    ·obtain rfl : n = k := by omega
     obtain ⟨V', vc', rfl⟩ := own_slice HROW2.out
     obtain ⟨_, _, he8, hr8, _⟩ := own_form HROW2.out
     cases he8
     have HR8 := Lib.hid hr8
     have HB8 := Lib.hid (HB30.out.call HBR2.out rfl)
     clear hr8
     go_wp2
     go_ret2
     exact ⟨_, _, rfl, HR8.out, HB8.out⟩
end Go.Proofs.YtfmgibhffgkieaaDoor
namespace Go.Proofs.YtfmgibhffgkieaaDoor
open Go.RowKit Go.Shelf
set_option maxHeartbeats 8000000
set_option maxRecDepth 100000
attribute [local go_sem] Oper.semAt_some
theorem c9 (A : Option Addr) (n cap : Nat) (xs : List Int) (q : Int) (w : World) (hl : n ≤ 1000000) (H : RdI w A n xs) :
  Calls Tryd.prog 9 #[.slice A n cap, .int .i64 q] w fun en w' => en = .returned (.bool (decide (q ∈ xs))) ∧ w = w' := by
 have HXN : Hid (xs.length = n) := Lib.hid H.len
 go_enter Tryd.func9, Tryd.ntmps9
 go_wp2_with fail
 go_loop [5] (fun i => ∃ k : Nat, k ≤ n ∧ i = .int .i64 k ∧ decide (q ∈ xs) = decide (q ∈ xs.drop k)) (fun i => n - (intOf i).toNat)
 case atStart => exact ⟨0, Nat.zero_le _, rfl, rfl⟩
 case round =>
  obtain ⟨k, hk, rfl, he⟩ := hrel
  have HE := Lib.hid he
  clear he
  have hwk : IntKind.i64.wrap ((k : Int) + 1) = ((k + 1 : Nat) : Int) := by rw [wrapI (by omega)]; simp
  by_cases hlt : k < n
  ·obtain ⟨b, off, x, rfl, hx, hb, h0⟩ := H.at hlt
   have hx' : k < xs.length := by rw [HXN.out]; exact hlt
   have hd : xs.drop k = x :: xs.drop (k + 1) := by
    rw [List.drop_eq_getElem_cons hx']
    rw [List.getElem?_eq_getElem hx'] at hx
    cases hx
    rfl
   have HD := Lib.hid hd
   clear hd hx hx'
   by_cases e : x = q
   ·have hT : Hid (decide (q ∈ xs) = true) := Lib.hid (by rw [HE.out, HD.out, e]; simp)
    go_wp2
    go_ret
    exact ⟨by rw [hT.out]; rfl, rfl⟩
   ·have e2 : (x == q) = false := by simp [e]
    have HN : Hid (decide (q ∈ xs) = decide (q ∈ xs.drop (k + 1))) := Lib.hid (by rw [HE.out, HD.out]; simp [Ne.symm e])
    go_wp2
    go_round
    case rel => exact ⟨k + 1, by omega, by go_num, HN.out⟩
    case measure => simp [intOf]; omega
  ·have hF : Hid (decide (q ∈ xs) = false) := Lib.hid (by rw [HE.out, List.drop_of_length_le (by rw [HXN.out]; omega)]; simp)
   go_wp2
   go_ret
   exact ⟨by rw [hF.out]; rfl, rfl⟩
end Go.Proofs.YtfmgibhffgkieaaDoor
/- A region that draws its order, with several new blocks that are laid whenever they like ahead of their use. -/
namespace Go
open Go.RowKit
section
variable {P : Program} {ops : Array Oper} {md : Region.Mode} {C : World → Prop} {Q : Exit → Act → World → Prop} {Ψ : List (Nat × Value) → World → Prop} {F : List Nat}
def Region.okX (md : Region.Mode) (ops : Array Oper) (F : List Nat) : Nat → List (Nat × Nat) → List Nat → Array Bool → Bool
 | 0, _, _, _ => false
 | _ + 1, [], q, listed => q.isEmpty && (Region.ready md ops listed).isEmpty
 | m + 1, (i, k) :: p, q, listed =>
  if k = 1 then q.all (fun f => Region.apartB ops i f) && (Region.ready md ops listed).contains i && Region.free md ops listed i && Region.okX md ops F m p q (listed.setIfInBounds i true)
  else if k = 3 then q.isEmpty && (Region.ready md ops listed) == [i] && Region.okX md ops [] m p q (listed.setIfInBounds i true)
  else if k = 2 && q.contains i then Region.okX md ops F m p (q.erase i) listed
  else q.all (fun f => Region.apartB ops i f) && (Region.ready md ops listed).contains i && (k != 2 || F.contains i) &&
   ((Region.ready md ops listed).all fun j => j == i || (F.contains j && !q.contains j && Region.okX md ops F m ((i, k) :: p) (j :: q) (listed.setIfInBounds j true))) &&
   Region.okX md ops F m p q (listed.setIfInBounds i true)
def dstOf (ops : Array Oper) (f : Nat) : Option Tmp := (ops[f]?).bind (·.dst)
def puts (ops : Array Oper) : List (Nat × Value) → Act → Act
 | [], a => a
 | (f, v) :: ps, a => (puts ops ps a).put (dstOf ops f) v
def wpPlanX (P : Program) (ops : Array Oper) (C : World → Prop) (Q : Exit → Act → World → Prop) (Ψ : List (Nat × Value) → World → Prop) : List (Nat × Nat) → List (Nat × Value) → Act → World → Prop
 | [], _, a, w => Q .normal a w
 | (i, k) :: p, c, a, w => ∃ o, ops[i]? = some o ∧
  (if k = 1 then ∃ v, SoftIn P ops C o v a ∧ ∀ w'', Below w.heap.size w w'' → wpPlanX P ops C Q Ψ p c (a.put o.dst v) w''
   else if k = 3 then (if Region.wanted o (yielded ops a.tmps) then o.wp P a w (fun a' w' => C w' ∧ ∀ w'', Below w'.heap.size w' w'' → wpPlanX P ops C Q Ψ p c a' w'') Q
    else ∀ w'', Below w.heap.size w w'' → wpPlanX P ops C Q Ψ p c (a.put o.dst undef) w'')
   else if k = 2 then ∀ v w'', Below w.heap.size w w'' → Ψ ((i, v) :: c) w'' → wpPlanX P ops C Q Ψ p ((i, v) :: c) (a.put o.dst v) w''
   else (if Region.wanted o (yielded ops a.tmps) then o.wp P a w (fun a' w' => (C w' ∧ Below w.heap.size w w') ∧ ∀ w'', Below w'.heap.size w' w'' → wpPlanX P ops C Q Ψ p c a' w'') Q
    else ∀ w'', Below w.heap.size w w'' → wpPlanX P ops C Q Ψ p c (a.put o.dst undef) w''))
def wpPlanXA (P : Program) (ops : Array Oper) (C : World → Prop) (Q : Exit → Act → World → Prop) (Ψ : List (Nat × Value) → World → Prop) (p : List (Nat × Nat)) (c : List (Nat × Value)) (a : Act) (W0 : World) : Prop :=
 ∀ w'', Below W0.heap.size W0 w'' → wpPlanX P ops C Q Ψ p c a w''
theorem puts_ap {o : Oper} : ∀ {ps : List (Nat × Value)}, (∀ x ∈ ps, ∃ of, ops[x.1]? = some of ∧ o.apart ops of = true) → ∀ x ∈ ps, (∀ d', dstOf ops x.1 = some d' → d' ∉ o.looksAt ops) ∧ (∀ d', dstOf ops x.1 = some d' → o.dst ≠ some d') := by
 intro ps h x hx
 obtain ⟨of, hof, ha⟩ := h x hx
 obtain ⟨a1, a2, a3⟩ := Oper.apart_spec ha
 have e : dstOf ops x.1 = of.dst := by unfold dstOf; rw [hof]; rfl
 exact ⟨fun d hd => a3 d (e ▸ hd), fun d hd hi => a2 d hi (e ▸ hd)⟩
theorem puts_exec {o : Oper} (hsj : ∀ cs b, o.op ≠ .select cs b) : ∀ (ps : List (Nat × Value)) (a : Act), (∀ x ∈ ps, (∀ d', dstOf ops x.1 = some d' → d' ∉ o.looksAt ops) ∧ (∀ d', dstOf ops x.1 = some d' → o.dst ≠ some d')) →
  execOp (puts ops ps a).eval o = execOp a.eval o ∧ Region.wanted o (yielded ops (puts ops ps a).tmps) = Region.wanted o (yielded ops a.tmps)
 | [], _, _ => ⟨rfl, rfl⟩
 | (f, v) :: ps, a, h => by
  obtain ⟨h1, h2⟩ := puts_exec hsj ps a (fun x hx => h x (List.mem_cons_of_mem _ hx))
  have h3 := (h (f, v) (List.mem_cons_self)).1
  exact ⟨(execOp_put o hsj _ _ v h3).trans h1, (wanted_put o _ _ v h3).trans h2⟩
theorem puts_put (d : Option Tmp) (u : Value) : ∀ (ps : List (Nat × Value)) (a : Act), (∀ x ∈ ps, ∀ d', dstOf ops x.1 = some d' → d ≠ some d') → puts ops ps (a.put d u) = (puts ops ps a).put d u
 | [], _, _ => rfl
 | (f, v) :: ps, a, h => by
  show (puts ops ps (a.put d u)).put _ v = _
  rw [puts_put d u ps a (fun x hx => h x (List.mem_cons_of_mem _ hx))]
  exact Act.put_comm _ u v (fun d' hd hi => h (f, v) List.mem_cons_self d' hi hd)
theorem puts_mid (f : Nat) (v : Value) (l2 : List (Nat × Value)) (hd : ∀ x ∈ l2, ∀ d', dstOf ops x.1 = some d' → dstOf ops f ≠ some d') : ∀ (l1 : List (Nat × Value)) (a : Act), puts ops (l1 ++ (f, v) :: l2) a = puts ops (l1 ++ l2) (a.put (dstOf ops f) v)
 | [], a => (puts_put _ v l2 a hd).symm
 | (g, u) :: l1, a => by
  show (puts ops (l1 ++ (f, v) :: l2) a).put _ u = (puts ops (l1 ++ l2) _).put _ u
  rw [puts_mid f v l2 hd l1 a]
theorem wp_putsInto {oj : Oper} (hsj : ∀ cs b, oj.op ≠ .select cs b) (hQ2 : ∀ c a d v w, Q (.panic c) a w → Q (.panic c) (a.put d v) w) : ∀ (ps : List (Nat × Value)) {a : Act} {w : World} {K : Act → World → Prop},
  (∀ x ∈ ps, (∀ d', dstOf ops x.1 = some d' → d' ∉ oj.looksAt ops) ∧ (∀ d', dstOf ops x.1 = some d' → oj.dst ≠ some d')) → oj.wp P a w K Q → oj.wp P (puts ops ps a) w (fun a' w' => ∃ a1 : Act, a' = puts ops ps a1 ∧ K a1 w') Q
 | [], a, w, K, _, h => Oper.wp_mono (fun a' w' hk => ⟨a', rfl, hk⟩) h
 | (f, v) :: ps, a, w, K, hp, h => by
  have h1 := wp_putsInto hsj hQ2 ps (fun x hx => hp x (List.mem_cons_of_mem _ hx)) h
  obtain ⟨h3, h2⟩ := hp (f, v) List.mem_cons_self
  refine Oper.wp_mono ?_ (wp_putInto (d := dstOf ops f) (v := v) h3 h2 hsj hQ2 h1)
  rintro a' w' ⟨a1, rfl, a2, rfl, hk⟩
  exact ⟨a2, rfl, hk⟩
theorem okX_len : ∀ (m : Nat) (F : List Nat) (p : List (Nat × Nat)) (q : List Nat) (listed : Array Bool), Region.okX md ops F m p q listed = true → q.length ≤ p.length
 | 0, _, _, _, _, h => by simp [Region.okX] at h
 | m + 1, F, [], q, listed, h => by
  simp only [Region.okX, Bool.and_eq_true, List.isEmpty_iff] at h
  rw [h.1]; exact Nat.zero_le _
 | m + 1, F, (i, k) :: p, q, listed, h => by
  unfold Region.okX at h
  by_cases h1 : k = 1
  ·rw [if_pos h1] at h
   simp only [Bool.and_eq_true] at h
   have := okX_len m _ p q _ h.2
   simp; omega
  ·rw [if_neg h1] at h
   by_cases h3 : k = 3
   ·rw [if_pos h3] at h
    simp only [Bool.and_eq_true] at h
    have := okX_len m _ p q _ h.2
    simp; omega
   ·rw [if_neg h3] at h
    split at h
    ·rename_i hc
     have := okX_len m _ p _ _ h
     have h4 := List.length_erase (a := i) (l := q)
     have : q.length ≤ (q.erase i).length + 1 := by rw [h4]; split <;> omega
     simp; omega
    ·simp only [Bool.and_eq_true] at h
     have := okX_len m _ p q _ h.2
     simp; omega
theorem apartB_spec {i f : Nat} {o : Oper} (ho : ops[i]? = some o) (h : Region.apartB ops i f = true) : ∃ of, ops[f]? = some of ∧ o.apart ops of = true := by
 unfold Region.apartB at h
 rw [ho] at h
 cases hf : ops[f]? with
 | none => rw [hf] at h; simp at h
 | some of => rw [hf] at h; exact ⟨of, rfl, h⟩
theorem wpAnyT_okX (hCg : ∀ w w', C w → Below w.heap.size w w' → C w') (hs : Region.noSelect ops = true) (hQ : ∀ c a d v w, Q (.panic c) (a.put d v) w → Q (.panic c) a w)
  (hQ2 : ∀ c a d v w, Q (.panic c) a w → Q (.panic c) (a.put d v) w) (hΨb : ∀ m w w', Ψ m w → Below w.heap.size w w' → Ψ m w') (hΨs : ∀ m m' w, (∀ x ∈ m', x ∈ m) → Ψ m w → Ψ m' w) :
  ∀ (m : Nat) (F : List Nat), (∀ f ∈ F, ∀ g ∈ F, f ≠ g → ∀ d', dstOf ops g = some d' → dstOf ops f ≠ some d') → (∀ f ∈ F, ∃ of, ops[f]? = some of ∧ ∀ m a w, C w → Ψ m w → Region.wanted of (yielded ops a.tmps) = true ∧ of.wp P a w (fun a' w' => ∃ v, a' = a.put of.dst v ∧ Ψ ((f, v) :: m) w' ∧ Below w.heap.size w w') Q) → ∀ (p : List (Nat × Nat)) (c ps : List (Nat × Value)) (listed : Array Bool) (a : Act) (w : World), C w → (∀ x ∈ ps, x.1 ∈ F) → (ps.map Prod.fst).Nodup → Region.okX md ops F m p (ps.map Prod.fst) listed = true → (F ≠ [] → Ψ (c ++ ps) w) → wpPlanXA P ops C Q Ψ p c a w →
   wpAnyT P md ops C Q (p.length - ps.length) listed (puts ops ps a) w
 | 0, _, _, _, _, _, _, _, _, _, _, _, _, h, _, _ => by simp [Region.okX] at h
 | m + 1, F, hdst, hF, [], c, ps, listed, a, w, hC, hPF, hnd, hok, hv, h => by
  simp only [Region.okX, Bool.and_eq_true, List.isEmpty_iff] at hok
  have e : ps = [] := by simpa using hok.1
  subst e
  exact ⟨hok.2, h w (Below.refl _ _)⟩
 | m + 1, F, hdst, hF, (i, k) :: p, c, ps, listed, a, w, hC, hPF, hnd, hok, hv, hA => by
  obtain ⟨o, ho, h⟩ := hA w (Below.refl _ _)
  have hsi : ∀ cs b, o.op ≠ .select cs b := fun cs b => Region.noSelect_spec hs i o cs b ho
  unfold Region.okX at hok
  have hap : ((ps.map Prod.fst).all fun f => Region.apartB ops i f) = true → ∀ x ∈ ps, (∀ d', dstOf ops x.1 = some d' → d' ∉ o.looksAt ops) ∧ (∀ d', dstOf ops x.1 = some d' → o.dst ≠ some d') := fun hall =>
   puts_ap (fun x hx => apartB_spec ho (List.all_eq_true.1 hall x.1 (List.mem_map_of_mem hx)))
  by_cases h1 : k = 1
  ·rw [if_pos h1] at hok h
   obtain ⟨u, hy, hK⟩ := h
   simp only [Bool.and_eq_true] at hok
   obtain ⟨⟨⟨ha, hr⟩, hf⟩, hB'⟩ := hok
   have hap' := hap ha
   obtain ⟨e1, e2⟩ := puts_exec hsi ps a hap'
   have hl := okX_len _ _ _ _ _ hB'
   rw [List.length_map] at hl
   rw [show ((i, k) :: p).length - ps.length = (p.length - ps.length) + 1 by simp; omega]
   refine wpAnyT_first hCg ho (Region.noSelect_spec hs) hQ (p.length - ps.length) listed _ w (Region.free_spec ho hf) (by simpa using hr) (hy.of_same e1 e2) hC fun w' hw' => ?_
   rw [← puts_put o.dst u ps a (fun x hx => (hap' x hx).2)]
   exact wpAnyT_okX hCg hs hQ hQ2 hΨb hΨs m F hdst hF p c ps _ _ w' (hCg _ _ hC hw') hPF hnd hB' (fun hn => hΨb _ _ _ (hv hn) hw') (fun w2 hw2 => hK w2 (hw'.trans (hw2.mono hw'.size)))
  ·rw [if_neg h1] at hok h
   by_cases h3 : k = 3
   ·rw [if_pos h3] at hok h
    simp only [Bool.and_eq_true, beq_iff_eq, List.isEmpty_iff] at hok
    obtain ⟨⟨hq, hr⟩, hB'⟩ := hok
    have e : ps = [] := by simpa using hq
    subst e
    refine ⟨fun h => (by rw [hr] at h; cases h), fun j hj => ?_⟩
    rw [hr] at hj
    obtain rfl := List.mem_singleton.1 hj
    unfold wpOp
    rw [ho]
    show if Region.wanted o (yielded ops a.tmps) = true then _ else _
    split
    ·rename_i hw
     rw [if_pos hw] at h
     exact .inl (Oper.wp_mono (fun a' w' h' => ⟨h'.1, fun w'' hw'' => wpAnyT_okX hCg hs hQ hQ2 hΨb hΨs m [] (fun f hf => by cases hf) (fun f hf => by cases hf) p c [] _ a' w'' (hCg _ _ h'.1 hw'') (fun x hx => by cases hx) hnd hB' (fun h => absurd rfl h) (fun w3 hw3 => h'.2 w3 (hw''.trans (hw3.mono hw''.size)))⟩) h)
    ·rename_i hw
     rw [if_neg hw] at h
     exact ⟨hC, fun w'' hw'' => wpAnyT_okX hCg hs hQ hQ2 hΨb hΨs m [] (fun f hf => by cases hf) (fun f hf => by cases hf) p c [] _ (a.put o.dst undef) w'' (hCg _ _ hC hw'') (fun x hx => by cases hx) hnd hB' (fun h => absurd rfl h) (fun w3 hw3 => h w3 (hw''.trans (hw3.mono hw''.size)))⟩
   ·rw [if_neg h3] at hok h
    split at hok
    ·rename_i hc
     simp only [Bool.and_eq_true, decide_eq_true_eq] at hc
     obtain ⟨hk2, hci⟩ := hc
     rw [if_pos hk2] at h
     have hci' : i ∈ ps.map Prod.fst := by simpa using hci
     obtain ⟨us, bs, hq, hna⟩ := List.eq_append_cons_of_mem hci'
     obtain ⟨l1, l2', rfl, hl1, hlx⟩ := List.map_eq_append_iff.1 hq
     obtain ⟨⟨f, v⟩, l2, rfl, hfe, hl2⟩ := List.map_eq_cons_iff.1 hlx
     obtain rfl : f = i := hfe
     have he : ((l1 ++ (f, v) :: l2).map Prod.fst).erase f = (l1 ++ l2).map Prod.fst := by
      rw [hq, List.erase_append_right _ hna, List.erase_cons_head, List.map_append, hl1, hl2]
     rw [he] at hok
     have hnd2 : (us ++ f :: bs).Nodup := hq ▸ hnd
     have hdf : dstOf ops f = o.dst := by unfold dstOf; rw [ho]; rfl
     have hfF : f ∈ F := hPF (f, v) (by simp)
     rw [puts_mid f v l2 (fun x hx d' hd => hdst f hfF x.1 (hPF x (by simp [hx])) (fun e => by
      have : x.1 ∈ bs := hl2 ▸ List.mem_map_of_mem hx
      rw [← e] at this
      exact (List.nodup_cons.1 (List.nodup_append.1 hnd2).2.1).1 this) d' hd) l1 a, hdf]
     rw [show ((f, k) :: p).length - (l1 ++ (f, v) :: l2).length = p.length - (l1 ++ l2).length by simp; omega]
     have hsub : ∀ x ∈ ((f, v) :: c) ++ (l1 ++ l2), x ∈ c ++ (l1 ++ (f, v) :: l2) := fun x hx => by
      simp only [List.mem_append, List.mem_cons] at hx ⊢
      rcases hx with (rfl | hx) | hx | hx <;> simp [*]
     have hv1 := hv (List.ne_nil_of_mem hfF)
     have hv2 := hΨs _ _ _ hsub hv1
     refine wpAnyT_okX hCg hs hQ hQ2 hΨb hΨs m F hdst hF p ((f, v) :: c) (l1 ++ l2) listed (a.put o.dst v) w hC (fun x hx => hPF x (by simp only [List.mem_append, List.mem_cons] at hx ⊢; rcases hx with hx | hx <;> simp [*])) ?_ hok (fun _ => hv2) (fun w2 hw2 => ?_)
     ·rw [List.map_append, hl1, hl2]
      obtain ⟨n1, n2, n3⟩ := List.nodup_append.1 hnd2
      exact List.nodup_append.2 ⟨n1, (List.nodup_cons.1 n2).2, fun x hx y hy => n3 x hx y (List.mem_cons_of_mem _ hy)⟩
     ·refine h v w2 hw2 (hΨb _ _ _ (hΨs _ _ _ (fun x hx => ?_) hv1) hw2)
      simp only [List.mem_append, List.mem_cons] at hx ⊢
      rcases hx with rfl | hx <;> simp [*]
    ·simp only [Bool.and_eq_true] at hok
     obtain ⟨⟨⟨⟨ha, hr⟩, hkF⟩, hall⟩, hB'⟩ := hok
     have hap' := hap ha
     obtain ⟨e1, e2⟩ := puts_exec hsi ps a hap'
     have hl := okX_len _ _ _ _ _ hB'
     rw [List.length_map] at hl
     rw [show ((i, k) :: p).length - ps.length = (p.length - ps.length) + 1 by simp; omega]
     refine ⟨fun h => (by rw [h] at hr; simp at hr), fun j hj => ?_⟩
     have hj2 := List.all_eq_true.1 hall j hj
     simp only [Bool.or_eq_true, beq_iff_eq, Bool.and_eq_true, Bool.not_eq_true'] at hj2
     rcases hj2 with rfl | ⟨⟨hjF, hjn⟩, hBj⟩
     ·by_cases h2 : k = 2
      ·rw [if_pos h2] at h
       have hjF : j ∈ F := by simpa [h2] using hkF
       obtain ⟨of, hof, hFf⟩ := hF j hjF
       obtain rfl := Option.some.inj (hof.symm.trans ho)
       obtain ⟨hwt, hwp⟩ := hFf (c ++ ps) (puts ops ps a) w hC (hv (List.ne_nil_of_mem (by first | exact hjF | exact hjF')))
       unfold wpOp
       rw [ho]
       show if Region.wanted of (yielded ops (puts ops ps a).tmps) = true then _ else _
       rw [if_pos hwt]
       refine .inl (Oper.wp_mono ?_ hwp)
       rintro a' w' ⟨v, rfl, hv', hb⟩
       refine ⟨hCg _ _ hC hb, fun w'' hw'' => ?_⟩
       rw [← puts_put of.dst v ps a (fun x hx => (hap' x hx).2)]
       exact wpAnyT_okX hCg hs hQ hQ2 hΨb hΨs m F hdst hF p ((j, v) :: c) ps _ _ w'' (hCg _ _ (hCg _ _ hC hb) hw'') hPF hnd hB' (fun _ => hΨb _ _ _ hv' hw'') (fun w3 hw3 => h v w3 (hb.trans ((hw''.trans (hw3.mono hw''.size)).mono hb.size)) (hΨb _ _ _ (hΨb _ _ _ (hΨs _ _ _ (fun x hx => by simp only [List.mem_append, List.mem_cons] at hx ⊢; rcases hx with rfl | hx <;> simp [*]) hv') hw'') hw3))
      ·rw [if_neg h2] at h
       unfold wpOp
       rw [ho]
       show if Region.wanted o (yielded ops (puts ops ps a).tmps) = true then _ else _
       rw [e2]
       split
       ·rename_i hw
        rw [if_pos hw] at h
        refine .inl (Oper.wp_mono ?_ (wp_putsInto hsi hQ2 ps hap' h))
        rintro a' w' ⟨a1, rfl, ⟨hC', hb⟩, hK⟩
        exact ⟨hC', fun w'' hw'' => wpAnyT_okX hCg hs hQ hQ2 hΨb hΨs m F hdst hF p c ps _ a1 w'' (hCg _ _ hC' hw'') hPF hnd hB' (fun hn => hΨb _ _ _ (hΨb _ _ _ (hv hn) hb) hw'') (fun w3 hw3 => hK w3 (hw''.trans (hw3.mono hw''.size)))⟩
       ·rename_i hw
        rw [if_neg hw] at h
        rw [← puts_put o.dst undef ps a (fun x hx => (hap' x hx).2)]
        exact ⟨hC, fun w'' hw'' => wpAnyT_okX hCg hs hQ hQ2 hΨb hΨs m F hdst hF p c ps _ (a.put o.dst undef) w'' (hCg _ _ hC hw'') hPF hnd hB' (fun hn => hΨb _ _ _ (hv hn) hw'') (fun w3 hw3 => h w3 (hw''.trans (hw3.mono hw''.size)))⟩
     ·have hjF' : j ∈ F := by simpa using hjF
      obtain ⟨of, hof, hFf⟩ := hF j hjF'
      obtain ⟨hwt, hwp⟩ := hFf (c ++ ps) (puts ops ps a) w hC (hv (List.ne_nil_of_mem (by first | exact hjF | exact hjF')))
      unfold wpOp
      rw [hof]
      show if Region.wanted of (yielded ops (puts ops ps a).tmps) = true then _ else _
      rw [if_pos hwt]
      refine .inl (Oper.wp_mono ?_ hwp)
      rintro a' w' ⟨v, rfl, hv', hb⟩
      refine ⟨hCg _ _ hC hb, fun w'' hw'' => ?_⟩
      have hdf : dstOf ops j = of.dst := by unfold dstOf; rw [hof]; rfl
      have hl2 := okX_len _ _ _ _ _ hBj
      simp only [List.length_cons, List.length_map] at hl2
      have := wpAnyT_okX hCg hs hQ hQ2 hΨb hΨs m F hdst hF ((i, k) :: p) c ((j, v) :: ps) (listed.setIfInBounds j true) a w'' (hCg _ _ (hCg _ _ hC hb) hw'') (fun x hx => by
       rcases List.mem_cons.1 hx with rfl | hx
       ·exact hjF'
       ·exact hPF x hx) (List.nodup_cons.2 ⟨by simpa using hjn, hnd⟩) hBj (fun _ => hΨb _ _ _ (hΨs _ _ _ (fun x hx => by simp only [List.mem_append, List.mem_cons] at hx ⊢; rcases hx with hx | rfl | hx <;> simp [*]) hv') hw'') (fun w3 hw3 => hA w3 (hb.trans ((hw''.trans (hw3.mono hw''.size)).mono hb.size)))
      rw [show ((i, k) :: p).length - ((j, v) :: ps).length = p.length - ps.length by simp] at this
      rw [← hdf]
      exact this
/-- several new blocks of one kind -/
def NewB (B : Nat) (zs : Array Value) (t : TypeId) (m : List (Nat × Value)) (w : World) : Prop :=
 (∀ x ∈ m, ∃ g : Nat, x.2 = .pointer (some ⟨g, 0, none⟩) ∧ B ≤ g ∧ w.heap[g]? = some (.cells zs t (0, 0))) ∧ ∀ x ∈ m, ∀ y ∈ m, x.1 ≠ y.1 → x.2 ≠ y.2
theorem NewB.below {B : Nat} {zs : Array Value} {t : TypeId} {m : List (Nat × Value)} {w w' : World} (h : NewB B zs t m w) (hb : Below w.heap.size w w') : NewB B zs t m w' :=
 ⟨fun x hx => by
  obtain ⟨g, h1, h2, h3⟩ := h.1 x hx
  exact ⟨g, h1, h2, (hb.block g (Array.getElem?_eq_some_iff.1 h3).1).trans h3⟩, h.2⟩
theorem NewB.sub {B : Nat} {zs : Array Value} {t : TypeId} {m m' : List (Nat × Value)} {w : World} (hs : ∀ x ∈ m', x ∈ m) (h : NewB B zs t m w) : NewB B zs t m' w := ⟨fun x hx => h.1 x (hs x hx), fun x hx y hy => h.2 x (hs x hx) y (hs y hy)⟩
theorem NewB.push {B : Nat} {zs : Array Value} {t : TypeId} {m : List (Nat × Value)} {w w' : World} {f : Nat} (h : NewB B zs t m w) (hB : B ≤ w.heap.size) (hk : w'.heap[w.heap.size]? = some (.cells zs t (0, 0))) (hb : Below w.heap.size w w') : NewB B zs t ((f, .pointer (some ⟨w.heap.size, 0, none⟩)) :: m) w' := by
 have h' := h.below hb
 have hne : ∀ y ∈ m, Value.pointer (some ⟨w.heap.size, 0, none⟩) ≠ y.2 := fun y hy e => by
  obtain ⟨g, h1, h2, h3⟩ := h.1 y hy
  rw [h1] at e
  have := (Array.getElem?_eq_some_iff.1 h3).1
  cases e
  omega
 refine ⟨fun x hx => ?_, fun x hx y hy hxy => ?_⟩
 ·rcases List.mem_cons.1 hx with rfl | hx
  ·exact ⟨_, rfl, hB, hk⟩
  ·exact h'.1 x hx
 ·rcases List.mem_cons.1 hx with rfl | hx
  ·rcases List.mem_cons.1 hy with rfl | hy
   ·exact absurd rfl hxy
   ·exact hne y hy
  ·rcases List.mem_cons.1 hy with rfl | hy
   ·exact fun e => hne x hx e.symm
   ·exact h.2 x hx y hy hxy
theorem wpIn_region_planX {id n lr : Nat} {a : Act} {W : World} (p : List (Nat × Nat)) (F : List Nat) (m B : Nat) (hm : P.follows .mixedOrders = true)
  (hB : (p.length == ops.size && Region.noSelect ops && Region.okX .any ops F m p [] (Array.replicate ops.size false)) = true) (hnd : Region.noDefer ops = true) (hQl : ¬ LetsOut Q) (hBW : B ≤ W.heap.size)
  (hQ : ∀ c a d v w, Q (.panic c) (a.put d v) w → Q (.panic c) a w) (hQ2 : ∀ c a d v w, Q (.panic c) a w → Q (.panic c) (a.put d v) w)
  (hΨb : ∀ m w w', Ψ m w → Below w.heap.size w w' → Ψ m w') (hΨs : ∀ m m' w, (∀ x ∈ m', x ∈ m) → Ψ m w → Ψ m' w) (hΨ0 : Ψ [] { W with drawn := W.drawn + 1 })
  (hdst : ∀ f ∈ F, ∀ g ∈ F, f ≠ g → ∀ d', dstOf ops g = some d' → dstOf ops f ≠ some d')
  (hF : ∀ f ∈ F, ∃ of, ops[f]? = some of ∧ ∀ m a w, Below B W w → Ψ m w → Region.wanted of (yielded ops a.tmps) = true ∧ of.wp P a w (fun a' w' => ∃ v, a' = a.put of.dst v ∧ Ψ ((f, v) :: m) w' ∧ Below w.heap.size w w') Q)
  (h : wpPlanXA P ops (Below B W) Q Ψ p [] a W) : (Code.region id ops true).wpIn (Fence.wide.inRound lr) n P Q a W := by
 simp only [Bool.and_eq_true, beq_iff_eq] at hB
 obtain ⟨⟨hlen, hs⟩, hP⟩ := hB
 have hCg : ∀ w w', Below B W w → Below w.heap.size w w' → Below B W w' := fun w w' h1 h2 => h1.trans (h2.mono (Nat.le_trans hBW h1.size))
 refine wpIn_region_any hm (wpAnyIn_of hnd hQl _ _ _ _ (wpAny_of_T (C := Below B W) _ _ _ _ ?_))
 have := wpAnyT_okX (P := P) (Q := Q) (C := Below B W) (md := .any) (ops := ops) (Ψ := Ψ) hCg hs hQ hQ2 hΨb hΨs m F hdst hF p [] [] (Array.replicate ops.size false) a { W with drawn := W.drawn + 1 } ((Below.refl B W).drew) (fun x hx => by cases hx) List.nodup_nil hP (fun _ => hΨ0) (fun w2 hw2 => h w2 (((Below.refl _ W).drew).trans (hw2.mono (Nat.le_refl _))))
 rw [show p.length - ([] : List (Nat × Value)).length = ops.size by simp [hlen]] at this
 exact this
theorem wpPlanXA_soft {l : List Oper} {B i : Nat} {W W0 : World} {p : List (Nat × Nat)} {c : List (Nat × Value)} {a : Act} (o : Oper) (v : Value) (ho : l[i]? = some o) (hw : Region.wanted o (yielded l.toArray a.tmps) = true)
  (hv : ∀ w, Below B W w → (∀ b o, b < B → w.cell? ⟨b, o, none⟩ = W.cell? ⟨b, o, none⟩) → o.softAt P a w v)
  (h : wpPlanXA P l.toArray (Below B W) Q Ψ p c (a.put o.dst v) W0) : wpPlanXA P l.toArray (Below B W) Q Ψ ((i, 1) :: p) c a W0 :=
 fun w hg => ⟨o, by rw [List.getElem?_toArray]; exact ho, by
  rw [if_pos rfl]
  exact ⟨v, .inl ⟨hw, fun w hb => hv w hb (fun b o h => hb.cell (p := ⟨b, o, none⟩) h)⟩, fun w2 hg2 => h w2 (hg.trans (hg2.mono hg.size))⟩⟩
theorem wpPlanXA_hard {l : List Oper} {i : Nat} {p : List (Nat × Nat)} {c : List (Nat × Value)} {a : Act} {W0 : World} (o : Oper) (ho : l[i]? = some o) (hw : Region.wanted o (yielded l.toArray a.tmps) = true)
  (h : ∀ w, Below W0.heap.size W0 w → ∀ K : Act → World → Prop, (∀ a w1, C w1 → Below w.heap.size w w1 → wpPlanXA P l.toArray C Q Ψ p c a w1 → K a w1) → o.wp P a w K Q) : wpPlanXA P l.toArray C Q Ψ ((i, 0) :: p) c a W0 :=
 fun w hg => ⟨o, by rw [List.getElem?_toArray]; exact ho, by
  rw [if_neg (by decide), if_neg (by decide), if_neg (by decide), if_pos hw]
  exact h w hg _ fun _ _ h1 h2 h3 => ⟨⟨h1, h2⟩, h3⟩⟩
theorem wpPlanXA_float {l : List Oper} {i : Nat} {p : List (Nat × Nat)} {c : List (Nat × Value)} {a : Act} {W0 : World} (o : Oper) (ho : l[i]? = some o)
  (h : ∀ v w, Below W0.heap.size W0 w → Ψ ((i, v) :: c) w → wpPlanXA P l.toArray C Q Ψ p ((i, v) :: c) (a.put o.dst v) w) : wpPlanXA P l.toArray C Q Ψ ((i, 2) :: p) c a W0 :=
 fun w hg => ⟨o, by rw [List.getElem?_toArray]; exact ho, by
  rw [if_neg (by decide), if_neg (by decide), if_pos rfl]
  exact fun v w2 hg2 hv => h v w2 (hg.trans (hg2.mono hg.size)) hv w2 (Below.refl _ _)⟩
theorem wpPlanXA_late {l : List Oper} {i : Nat} {p : List (Nat × Nat)} {c : List (Nat × Value)} {a : Act} {W0 : World} (o : Oper) (ho : l[i]? = some o) (hw : Region.wanted o (yielded l.toArray a.tmps) = true)
  (h : ∀ w, Below W0.heap.size W0 w → ∀ K : Act → World → Prop, (∀ a w1, C w1 → wpPlanXA P l.toArray C Q Ψ p c a w1 → K a w1) → o.wp P a w K Q) : wpPlanXA P l.toArray C Q Ψ ((i, 3) :: p) c a W0 :=
 fun w hg => ⟨o, by rw [List.getElem?_toArray]; exact ho, by
  rw [if_neg (by decide), if_pos rfl, if_pos hw]
  exact h w hg _ fun _ _ h1 h3 => ⟨h1, h3⟩⟩
theorem wpPlanXA_nil {c : List (Nat × Value)} {a : Act} {W0 : World} (h : ∀ w, Below W0.heap.size W0 w → Q .normal a w) : wpPlanXA P ops C Q Ψ [] c a W0 := h
end
end Go
namespace Go.Proofs.YtfmgibhffgkieaaDoor
open Go.RowKit Go.Shelf
set_option maxHeartbeats 8000000
set_option maxRecDepth 100000
attribute [local go_sem] Oper.semAt_some
theorem info66 : (Tryd.prog.info? 66).map (fun i => (i.zero, i.size, i.bytes)) = some (some (.agg #[.int .i64 0, .int .i64 0]), 2, 16) := by kernel_rfl
/-- the known blocks and a row of intervals, the function's own, whose slice lies in the block g -/
structure CJ (w : World) (bl : List (Nat × Array Value × TypeId)) (g B : Nat) (v y : Value) (l : List Td) (W0 W : World) : Prop where
 ks : ∀ x ∈ bl, W.heap[x.1]? = some (.cells x.2.1 x.2.2 (0, 0))
 kg : W.heap[g]? = some (.cells #[v] 61 (0, 0))
 row : W.ownsRow B 66 2 y l.length (l.flatMap Td.enc)
 bel : Below w.heap.size w W
 kf : KeepsFrom B W0 W
 sz : B ≤ W.heap.size
section
variable {w : World} {bl : List (Nat × Array Value × TypeId)} {g B : Nat} {v y : Value} {l : List Td} {W0 W W' : World}
theorem CJ.grow (h : CJ w bl g B v y l W0 W) (ho : CO w bl g B) (hb : Below W.heap.size W W') : CJ w bl g B v y l W0 W' := by
 obtain ⟨a1, a2, a3⟩ := ho
 have := h.sz
 exact ⟨fun x hx => blkb (h.ks x hx) hb, blkb h.kg hb, own_below h.row hb, h.bel.trans (hb.mono (by omega)), h.kf.trans (keepsF_below hb), Nat.le_trans h.sz hb.size⟩
theorem CJ.setv (h : CJ w bl g B v y l W0 W) (ho : CO w bl g B) (u : Value) : CJ w bl g B u y l W0 (W.setCell ⟨g, 0, none⟩ u) := by
 obtain ⟨a1, a2, a3⟩ := ho
 have f : ∀ {q : Nat} {o : Obj}, q ≠ g → W.heap[q]? = some o → (W.setCell ⟨g, 0, none⟩ u).heap[q]? = some o := fun hq hk => (set_far (p := ⟨g, 0, none⟩) _ hq).trans hk
 exact ⟨fun x hx => f (a3 x hx).1 (h.ks x hx), set_blk (i := 0) h.kg _, own_setfar h.row (by show g < B; omega), h.bel.setCell (p := ⟨g, 0, none⟩) (by show w.heap.size ≤ g; omega) _, h.kf.trans (keepsF_set (B := B) u h.kg), by simp; exact h.sz⟩
theorem CJ.app (h : CJ w bl g B v y l W0 W) (ho : CO w bl g B) {y' : Value} {l' : List Td} (hown : W'.ownsRow B 66 2 y' l'.length (l'.flatMap Td.enc)) (hg : W.grownBy W' y.ownBlock) : CJ w bl g B v y' l' W0 W' := by
 obtain ⟨a1, a2, a3⟩ := ho
 have hbn : ∀ b, b < B → some b ≠ y.ownBlock := fun b hlt e => by have := own_base h.row b e.symm; omega
 have f : ∀ {q : Nat} {o : Obj}, q < B → W.heap[q]? = some o → W'.heap[q]? = some o := fun hq hk => (hg.block _ (Array.getElem?_eq_some_iff.1 hk).1 (hbn _ hq)).trans hk
 refine ⟨fun x hx => f (a3 x hx).2 (h.ks x hx), f (by omega) h.kg, hown, h.bel.grown hg (by have := h.sz; omega) (fun j hj => by have := own_base h.row j hj; omega), h.kf.trans ⟨hg.size, fun q o hq hk hc => ?_⟩, Nat.le_trans h.sz hg.size⟩
 refine (hg.block _ (Array.getElem?_eq_some_iff.1 hk).1 (fun e => ?_)).trans hk
 rcases h.row.2 with ⟨rfl, _⟩ | ⟨b, cap, cs, rfl, hb, hgg, _⟩
 ·cases e
 ·have : q = b := by simpa [Value.ownBlock] using e
  subst this
  rw [hk] at hgg
  cases hgg
  simp [Obj.isCells] at hc
theorem CJ.here (h : CJ w bl g B v y l W0 W) : CJ w bl g B v y l W W := ⟨h.ks, h.kg, h.row, h.bel, KeepsFrom.refl _ _, h.sz⟩
theorem CJ.own (ho : CO w bl g B) : OwnFrom B (fun (_ : Unit) W => CJ w bl g B v y l W W) := fun _ W W' row h hg hr => by
 obtain ⟨a1, a2, a3⟩ := ho
 exact ⟨fun x hx => cells_keep (h.ks x hx) hg hr, cells_keep h.kg hg hr, own_keepR h.row hg hr, h.bel.grown hg (by have := h.sz; omega) (fun j hj => by have := (hr j hj).1; omega), KeepsFrom.refl _ _, Nat.le_trans h.sz hg.size⟩
end
theorem c12g (nma nmb : ByteArray) (A B : Option Addr) (na nb ca cb : Nat) (w : World)
  (h16 : ∀ W, Below w.heap.size w W → Calls Tryd.prog 16 #[.agg #[.string nma, .int .i64 1, .slice A na ca], .agg #[.string nmb, .int .i64 1, .slice B nb cb], .int .i64 0, .int .i64 (-1000)] W fun en w' => en = .returned (.int .i64 0) ∧ Below W.heap.size W w')
  (h61a : ∀ W, Below w.heap.size w W → Calls Tryd.prog 61 #[.agg #[.string nma, .int .i64 1, .slice A na ca]] W fun en w' => en = .returned (.tuple #[.int .i64 (2 : Nat), .int .i64 (((2 : Nat) : Int) + (1 : Nat) - 1)]) ∧ Below W.heap.size W w')
  (h61b : ∀ W, Below w.heap.size w W → Calls Tryd.prog 61 #[.agg #[.string nmb, .int .i64 1, .slice B nb cb]] W fun en w' => en = .returned (.tuple #[.int .i64 (2 : Nat), .int .i64 (((2 : Nat) : Int) + (1 : Nat) - 1)]) ∧ Below W.heap.size W w')
  (h35a : ∀ W, Below w.heap.size w W → Calls Tryd.prog 35 #[.agg #[.string nma, .int .i64 1, .slice A na ca], .int .i64 2] W fun en w' => en = .returned (.agg #[.int .i64 4, .int .i64 6]) ∧ Below W.heap.size W w')
  (h35b : ∀ W, Below w.heap.size w W → Calls Tryd.prog 35 #[.agg #[.string nmb, .int .i64 1, .slice B nb cb], .int .i64 2] W fun en w' => en = .returned (.agg #[.int .i64 6, .int .i64 8]) ∧ Below W.heap.size W w') :
  Calls Tryd.prog 12 #[.agg #[.string nma, .int .i64 1, .slice A na ca], .agg #[.string nmb, .int .i64 1, .slice B nb cb], .int .i64 0] w fun en w' => ∃ V c, en = .returned (.tuple #[.slice V 1 c, .int .i64 0]) ∧ RdT w' V 1 [⟨6, 6⟩] ∧ Below w.heap.size w w' := by
 have H16 := Lib.hid h16
 have H61a := Lib.hid h61a
 have H61b := Lib.hid h61b
 have H35a := Lib.hid h35a
 have H35b := Lib.hid h35b
 clear h16 h61a h61b h35a h35b
 obtain ⟨w0, hW⟩ : ∃ W, W = ((((w.alloc (Obj.cells #[.string nma, .int .i64 1, .slice A na ca] 40)).alloc (Obj.cells #[.string nmb, .int .i64 1, .slice B nb cb] 40)).alloc (Obj.cells #[.int .i64 0] 3)).alloc (Obj.cells #[.slice none 0 0] 61)).alloc (Obj.cells #[.int .i64 0] 36) := ⟨_, rfl⟩
 have k2 : w0.heap[w.heap.size]? = some (.cells #[.string nma, .int .i64 1, .slice A na ca] 40 (0, 0)) := by rw [hW]; exact heap_old (by first | (simp; done) | (simp; omega)) (heap_old (by first | (simp; done) | (simp; omega)) (heap_old (by first | (simp; done) | (simp; omega)) (heap_old (by simp) (heap_new rfl))))
 have k3 : w0.heap[w.heap.size + 1]? = some (.cells #[.string nmb, .int .i64 1, .slice B nb cb] 40 (0, 0)) := by rw [hW]; exact heap_old (by first | (simp; done) | (simp; omega)) (heap_old (by first | (simp; done) | (simp; omega)) (heap_old (by simp) (heap_new (by simp))))
 have k4 : w0.heap[w.heap.size + 1 + 1]? = some (.cells #[.int .i64 0] 3 (0, 0)) := by rw [hW]; exact heap_old (by first | (simp; done) | (simp; omega)) (heap_old (by simp) (heap_new (by simp)))
 have k5 : w0.heap[w.heap.size + 1 + 1 + 1]? = some (.cells #[.slice none 0 0] 61 (0, 0)) := by rw [hW]; exact heap_old (by simp) (heap_new (by simp))
 have k6 : w0.heap[w.heap.size + 1 + 1 + 1 + 1]? = some (.cells #[.int .i64 0] 36 (0, 0)) := by rw [hW]; exact heap_new (by simp)
 have hB0 : Below w.heap.size w w0 := by rw [hW]; exact (((((Below.refl _ _).alloc (Nat.le_refl _) _).alloc (by simp) _).alloc (by first | (simp; done) | (simp; omega)) _).alloc (by first | (simp; done) | (simp; omega)) _).alloc (by first | (simp; done) | (simp; omega)) _
 have hz0 : w0.heap.size = w.heap.size + 1 + 1 + 1 + 1 + 1 := by rw [hW]; simp
 have q0 : w0.cell? ⟨w.heap.size, 0, none⟩ = some (.string nma) := cell_at k2 rfl
 have q1 : w0.cell? ⟨w.heap.size, 1, none⟩ = some (.int .i64 1) := cell_at k2 rfl
 have q2 : w0.cell? ⟨w.heap.size, 2, none⟩ = some (.slice A na ca) := cell_at k2 rfl
 have r0 : w0.cell? ⟨w.heap.size + 1, 0, none⟩ = some (.string nmb) := cell_at k3 rfl
 have r1 : w0.cell? ⟨w.heap.size + 1, 1, none⟩ = some (.int .i64 1) := cell_at k3 rfl
 have r2 : w0.cell? ⟨w.heap.size + 1, 2, none⟩ = some (.slice B nb cb) := cell_at k3 rfl
 have s0 : w0.cell? ⟨w.heap.size + 1 + 1, 0, none⟩ = some (.int .i64 0) := cell_at k4 rfl
 have z0 := cell_lt q0
 have z1 := cell_lt r0
 have z2 := cell_lt s0
 refine (callsIn_wide (n := 6)).1 ?_
 refine callsIn_of_wp_marks Tryd.func12 rfl trivial ?_ rfl
 refine wpIn_wide.2 ?_
 simp only [Tryd.ntmps12, List.size_toArray, List.length_cons, List.length_nil, Nat.reduceAdd, Nat.reduceSub, Array.replicate_succ, Array.replicate_zero, List.push_toArray, List.append_toArray, List.nil_append, List.cons_append]
 have HZ0 := Lib.hid hz0
 clear hz0
 have K2 := Lib.hid k2
 have K3 := Lib.hid k3
 have K4 := Lib.hid k4
 have K5 := Lib.hid k5
 have K6 := Lib.hid k6
 have HB0 := Lib.hid hB0
 have HW := Lib.hid hW
 clear k2 k3 k4 k5 k6 hB0 hW
 go_wp2_with fail
 rw [← HW.out]
 go_wp2_with fail
 refine (H16.out _ HB0.out).mono ?_
 rintro e w1 ⟨rfl, hb1⟩
 have g2 := blkb K2.out hb1
 have g3 := blkb K3.out hb1
 clear q0 q1 q2 r0 r1 r2 s0
 have q0 : w1.cell? ⟨w.heap.size, 0, none⟩ = some (.string nma) := cell_at g2 rfl
 have q1 : w1.cell? ⟨w.heap.size, 1, none⟩ = some (.int .i64 1) := cell_at g2 rfl
 have q2 : w1.cell? ⟨w.heap.size, 2, none⟩ = some (.slice A na ca) := cell_at g2 rfl
 have r0 : w1.cell? ⟨w.heap.size + 1, 0, none⟩ = some (.string nmb) := cell_at g3 rfl
 have r1 : w1.cell? ⟨w.heap.size + 1, 1, none⟩ = some (.int .i64 1) := cell_at g3 rfl
 have r2 : w1.cell? ⟨w.heap.size + 1, 2, none⟩ = some (.slice B nb cb) := cell_at g3 rfl
 clear z0 z1 z2
 have z0 := cell_lt q0
 have z1 := cell_lt r0
 have HB1 := Lib.hid hb1
 clear hb1 g2 g3
 go_wp2_with fail
 refine (c34 _ _ _ _ _ _ _ _ _ _ _).mono ?_
 rintro e w3 ⟨rfl, hw3⟩
 obtain ⟨w2, hw2⟩ : ∃ W, W = w1.alloc (Obj.cells #[.slice none 0 0] 61) := ⟨_, rfl⟩
 rw [← hw2] at hw3 ⊢
 obtain ⟨g, hg⟩ : ∃ p, p = w1.heap.size := ⟨_, rfl⟩
 obtain ⟨pa, hpa⟩ : ∃ p, p = w2.heap.size := ⟨_, rfl⟩
 obtain ⟨pb, hpb⟩ : ∃ p, p = w2.heap.size + 1 := ⟨_, rfl⟩
 have hz2 : w2.heap.size = g + 1 := by rw [hw2, hg]; simp
 have hb2 : Below w1.heap.size w1 w2 := by rw [hw2]; exact bl2 _ _
 have hb3 : Below w2.heap.size w2 w3 := by rw [hw3]; exact below2 _ _ _
 have hz3 : w3.heap.size = pa + 1 + 1 := by rw [hw3, hpa]; simp
 have ka : w3.heap[pa]? = some (.cells #[.string nma, .int .i64 1, .slice A na ca] 40 (0, 0)) := by rw [hw3, hpa]; exact heap_old (by simp) (heap_new rfl)
 have kb : w3.heap[pb]? = some (.cells #[.string nmb, .int .i64 1, .slice B nb cb] 40 (0, 0)) := by rw [hw3, hpb]; exact heap_new (by simp)
 have kg : w3.heap[g]? = some (.cells #[.slice none 0 0] 61 (0, 0)) := by
  have : w2.heap[g]? = some (.cells #[.slice none 0 0] 61 (0, 0)) := by rw [hw2, hg]; exact heap_new rfl
  exact blkb this hb3
 have hb13 : Below w0.heap.size w0 w3 := (HB1.out.call hb2 rfl).call hb3 rfl
 have hB3 : Below w.heap.size w w3 := HB0.out.call hb13 rfl
 have hz1 : w0.heap.size ≤ g := by rw [hg]; exact HB1.out.size
 have hz0 := HZ0.out
 obtain ⟨bl, hbl⟩ : ∃ bl : List (Nat × Array Value × TypeId), bl = [(pa, #[.string nma, .int .i64 1, .slice A na ca], 40), (pb, #[.string nmb, .int .i64 1, .slice B nb cb], 40), (w.heap.size, #[.string nma, .int .i64 1, .slice A na ca], 40), (w.heap.size + 1, #[.string nmb, .int .i64 1, .slice B nb cb], 40), (w.heap.size + 1 + 1, #[.int .i64 0], 3), (w.heap.size + 1 + 1 + 1, #[.slice none 0 0], 61), (w.heap.size + 1 + 1 + 1 + 1, #[.int .i64 0], 36)] := ⟨_, rfl⟩
 have hord : CO w bl g w3.heap.size := by
  refine ⟨by omega, by omega, fun x hx => ?_⟩
  rw [hbl] at hx
  simp only [List.mem_cons, List.not_mem_nil, or_false] at hx
  rcases hx with rfl | rfl | rfl | rfl | rfl | rfl | rfl <;> simp only <;> omega
 have I0 : CJ w bl g w3.heap.size (.slice none 0 0) (.slice none 0 0) [] w3 w3 := by
  refine ⟨fun x hx => ?_, kg, World.ownsRow_nil _ _ _ _, hB3, KeepsFrom.refl _ _, Nat.le_refl _⟩
  rw [hbl] at hx
  simp only [List.mem_cons, List.not_mem_nil, or_false] at hx
  rcases hx with rfl | rfl | rfl | rfl | rfl | rfl | rfl
  ·exact ka
  ·exact kb
  ·exact blkb K2.out hb13
  ·exact blkb K3.out hb13
  ·exact blkb K4.out hb13
  ·exact blkb K5.out hb13
  ·exact blkb K6.out hb13
 have HORD := Lib.hid hord
 have HBL := Lib.hid hbl
 have HI0 := Lib.hid I0
 rw [← hpb, ← hpa, ← hg]
 clear hw3 hw2 hg hpa hpb hz2 hb2 hb3 hz3 ka kb kg hb13 hB3 hz1 hz0 hbl hord I0 q0 q1 q2 r0 r1 r2 z0 z1
 go_wp2
 refine (wpIn_wide (n := 6)).1 ?_
 refine wpIn_places (n := 6) (by omega) (pa := pa) (pb := pb) (lo := 2) (m := 1) (by omega) (nma := nma) (nmb := nmb) (ea := 1) (eb := 1) (A := A) (B := B) (na := na) (nb := nb) (ca := ca) (cb := cb) rfl
  (fun k W => ∃ v, CJ w bl g w3.heap.size v v (List.replicate k ⟨6, 6⟩) W W) (fun W => False)
  (fun k => ?own) (fun u W W' row h => h.elim)
  (fun W h => by obtain ⟨v, h⟩ := h; exact ⟨h.ks (pa, _, 40) (by rw [HBL.out]; simp), h.ks (pb, _, 40) (by rw [HBL.out]; simp)⟩)
  (fun W h => by obtain ⟨v, h⟩ := h; exact H61a.out W h.bel) (fun W h => by obtain ⟨v, h⟩ := h; exact H61b.out W h.bel)
  ⟨_, HI0.out⟩ (fun k => { tmps := #[.agg #[.string nma, .int .i64 1, .slice A na ca], .agg #[.string nmb, .int .i64 1, .slice B nb cb], .int .i64 0, .pointer (some ⟨w.heap.size, 0, none⟩), .pointer (some ⟨w.heap.size + 1, 0, none⟩), .pointer (some ⟨w.heap.size + 1 + 1, 0, none⟩), .pointer (some ⟨w.heap.size + 1 + 1 + 1, 0, none⟩), .pointer (some ⟨w.heap.size + 1 + 1 + 1 + 1, 0, none⟩), .int .i64 0, .pointer (some ⟨g, 0, none⟩), .int .i64 ((2 + k : Nat) : Int), undef, undef, .agg #[.string nma, .int .i64 1, .slice A na ca], .agg #[.string nmb, .int .i64 1, .slice B nb cb], .int .i64 0, .int .i64 0, .int .i64 0, .bool false, undef, .agg #[.string nma, .int .i64 1, .slice A na ca], .agg #[.string nmb, .int .i64 1, .slice B nb cb], .func (.func 60) #[] #[.pointer (some ⟨pa, 0, none⟩), .pointer (some ⟨pb, 0, none⟩)], .int .i64 ((2 + k : Nat) : Int), undef, undef, undef, undef, undef, undef, undef, undef, undef, undef, undef, undef, undef, undef, undef, undef, undef, undef, undef, undef, undef, undef, undef, undef, undef, undef, undef], defers := [] }) rfl ?assign ?body ?done ?stop
 case own =>
  intro u W W' row h hg hr
  obtain ⟨v, h⟩ := h
  exact ⟨v, CJ.own HORD.out u W W' row h hg hr⟩
 case assign =>
  intro lr k W K hK
  have HK := Lib.hid hK
  clear hK
  gi_wp2
  go_simp
  exact HK.out
 case body =>
  intro lr k W hk hsz2 hI
  obtain rfl : k = 0 := by omega
  obtain ⟨v, hI⟩ := hI
  replace hI : CJ w bl g w3.heap.size v v [] W W := hI
  obtain ⟨A7, c7, rfl⟩ := own_slice hI.row
  replace hI : CJ w bl g w3.heap.size (.slice A7 0 c7) (.slice A7 0 c7) [] W W := hI
  have g0 : W.heap[w.heap.size]? = some (.cells #[.string nma, .int .i64 1, .slice A na ca] 40 (0, 0)) := hI.ks (w.heap.size, _, 40) (by rw [HBL.out]; simp)
  have g1 : W.heap[w.heap.size + 1]? = some (.cells #[.string nmb, .int .i64 1, .slice B nb cb] 40 (0, 0)) := hI.ks (w.heap.size + 1, _, 40) (by rw [HBL.out]; simp)
  have g2 : W.heap[w.heap.size + 1 + 1]? = some (.cells #[.int .i64 0] 3 (0, 0)) := hI.ks (w.heap.size + 1 + 1, _, 3) (by rw [HBL.out]; simp)
  have q0 : W.cell? ⟨w.heap.size, 0, none⟩ = some (.string nma) := cell_at g0 rfl
  have q1 : W.cell? ⟨w.heap.size, 1, none⟩ = some (.int .i64 1) := cell_at g0 rfl
  have q2 : W.cell? ⟨w.heap.size, 2, none⟩ = some (.slice A na ca) := cell_at g0 rfl
  have r0 : W.cell? ⟨w.heap.size + 1, 0, none⟩ = some (.string nmb) := cell_at g1 rfl
  have r1 : W.cell? ⟨w.heap.size + 1, 1, none⟩ = some (.int .i64 1) := cell_at g1 rfl
  have r2 : W.cell? ⟨w.heap.size + 1, 2, none⟩ = some (.slice B nb cb) := cell_at g1 rfl
  have s0 : W.cell? ⟨w.heap.size + 1 + 1, 0, none⟩ = some (.int .i64 0) := cell_at g2 rfl
  have z0 := cell_lt q0
  have z1 := cell_lt r0
  have z2 := cell_lt s0
  have K36 : Hid (∀ W, Calls Tryd.prog 36 #[.agg #[.int .i64 6, .int .i64 8], .int .i64 0] W fun en w' => en = .returned (.agg #[.int .i64 6, .int .i64 8]) ∧ Below W.heap.size W w') := Lib.hid (fun W => c36 6 8 0 W (by decide) (by decide) (by decide))
  have K37 : Hid (∀ W, Calls Tryd.prog 37 #[.agg #[.int .i64 4, .int .i64 6, .int .i64 6, .int .i64 8]] W fun en w' => en = .returned (.bool false) ∧ Below W.heap.size W w') := Lib.hid (fun W => c37 4 6 6 8 W)
  have HI := Lib.hid hI
  clear g0 g1 g2 hI hk
  gi_wp2
  refine wpIn_region_planX (Ψ := NewB W.heap.size #[.int .i64 0, .int .i64 0] 66) [(0, 1), (1, 1), (3, 1), (4, 1), (6, 1), (2, 0), (5, 0), (7, 0), (8, 2), (9, 2), (10, 3), (11, 3)] [8, 9] 40 W.heap.size (by kernel_rfl) (by kernel_rfl) (by kernel_rfl) (fun ⟨_, _, h⟩ => h) (Nat.le_refl _) (fun _ _ d _ _ h => by cases d <;> exact h) (fun _ _ d _ _ h => by cases d <;> exact h) (fun m w w' h hb => h.below hb) (fun m m' w hs h => h.sub hs) ⟨by simp, by simp⟩ ?hdst ?hF ?_
  case hdst =>
   intro f hf g hg hne d hd
   simp only [List.mem_cons, List.not_mem_nil, or_false] at hf hg
   rcases hf with rfl | rfl <;> rcases hg with rfl | rfl
   ·exact absurd rfl hne
   ·cases (show some 12 = some d from hd); exact (by decide : (some 11 : Option Nat) ≠ some 12)
   ·cases (show some 11 = some d from hd); exact (by decide : (some 12 : Option Nat) ≠ some 11)
   ·exact absurd rfl hne
  case hF =>
   intro f hf
   simp only [List.mem_cons, List.not_mem_nil, or_false] at hf
   rcases hf with rfl | rfl
   ·refine ⟨_, rfl, fun m a wq hq hP => ⟨rfl, ?_⟩⟩
    have hsz := hq.size
    go_simp
    exact ⟨_, rfl, hP.push hsz (heap_new rfl) ((Below.refl _ _).alloc (Nat.le_refl _) _), (Below.refl _ _).alloc (Nat.le_refl _) _⟩
   ·refine ⟨_, rfl, fun m a wq hq hP => ⟨rfl, ?_⟩⟩
    have hsz := hq.size
    go_simp
    exact ⟨_, rfl, hP.push hsz (heap_new rfl) ((Below.refl _ _).alloc (Nat.le_refl _) _), (Below.refl _ _).alloc (Nat.le_refl _) _⟩
  have hC : Below W.heap.size W W := Below.refl _ _
  repeat (first | (refine wpPlanXA_skip _ rfl (by rfl) ?_; simp only [Act.put, List.setIfInBounds_toArray, List.set_cons_zero, List.set_cons_succ]) | (refine wpPlanXA_soft _ ?_ rfl (by rfl) ?_ ?_; rotate_left; (intro wq hq hcq; go_simp; first | exact rfl | exact ⟨rfl, rfl⟩); simp only [Act.put, List.setIfInBounds_toArray, List.set_cons_zero, List.set_cons_succ]))
  refine wpPlanXA_hard _ rfl (by rfl) (fun wh hS K hK => ?_)
  replace hC := hC.call hS rfl
  clear hS
  go_simp
  refine (H35a.out _ (HI.out.bel.trans (hC.mono (HI.out.bel.size)))).mono ?_
  rintro e wi ⟨rfl, hb⟩
  replace hC := hC.call hb rfl
  refine hK _ _ hC hb ?_
  clear hK K hb
  try simp only [Act.put, List.setIfInBounds_toArray, List.set_cons_zero, List.set_cons_succ]
  refine wpPlanXA_hard _ rfl (by rfl) (fun wh hS K hK => ?_)
  replace hC := hC.call hS rfl
  clear hS
  go_simp
  refine (H35b.out _ (HI.out.bel.trans (hC.mono (HI.out.bel.size)))).mono ?_
  rintro e wi ⟨rfl, hb⟩
  replace hC := hC.call hb rfl
  refine hK _ _ hC hb ?_
  clear hK K hb
  try simp only [Act.put, List.setIfInBounds_toArray, List.set_cons_zero, List.set_cons_succ]
  refine wpPlanXA_hard _ rfl (by rfl) (fun wh hS K hK => ?_)
  replace hC := hC.call hS rfl
  clear hS
  go_simp
  refine (K36.out _).mono ?_
  rintro e wi ⟨rfl, hb⟩
  replace hC := hC.call hb rfl
  refine hK _ _ hC hb ?_
  clear hK K hb
  try simp only [Act.put, List.setIfInBounds_toArray, List.set_cons_zero, List.set_cons_succ]
  refine wpPlanXA_float _ rfl (fun v1 wi hS hv1 => ?_)
  replace hC := hC.call hS rfl
  clear hS hv1
  try simp only [Act.put, List.setIfInBounds_toArray, List.set_cons_zero, List.set_cons_succ]
  refine wpPlanXA_float _ rfl (fun v2 wj hS hv => ?_)
  replace hC := hC.call hS rfl
  clear hS
  try simp only [Act.put, List.setIfInBounds_toArray, List.set_cons_zero, List.set_cons_succ]
  obtain ⟨g11, e1, hg1, k11⟩ := hv.1 (8, v1) (by simp)
  obtain ⟨g12, e2, hg2, k12⟩ := hv.1 (9, v2) (by simp)
  have hne := hv.2 (8, v1) (by simp) (9, v2) (by simp) (by simp)
  obtain rfl : v1 = _ := e1
  obtain rfl : v2 = _ := e2
  have hne2 : g11 ≠ g12 := fun e => hne (by rw [e])
  clear hv hne
  refine wpPlanXA_late _ rfl (by rfl) (fun wk hS K hK => ?_)
  replace hC := hC.call hS rfl
  replace k11 := blkb k11 hS
  replace k12 := blkb k12 hS
  clear hS
  refine wp_store_blk 66 _ _ rfl g11 _ rfl rfl k11 ?s1 ?s2 ?s3 ?_
  case s1 => rfl
  case s2 => kernel_rfl
  case s3 => simp [Value.oneCell']
  intro wl k11n hg3 hs3
  replace hC := hC.grown hg3 hC.size (fun j hj => by cases hj; exact hg1)
  replace k12 := (hg3.block g12 (Array.getElem?_eq_some_iff.1 k12).1 (fun e => hne2 (by cases e; rfl))).trans k12
  refine hK _ _ hC ?_
  clear hK K k11 hg3 hs3
  try simp only [Act.put, List.setIfInBounds_toArray, List.set_cons_zero, List.set_cons_succ]
  refine wpPlanXA_late _ rfl (by rfl) (fun wm hS K hK => ?_)
  replace hC := hC.call hS rfl
  replace k11n := blkb k11n hS
  replace k12 := blkb k12 hS
  clear hS
  refine wp_store_blk 66 _ _ rfl g12 _ rfl rfl k12 ?s1 ?s2 ?s3 ?_
  case s1 => rfl
  case s2 => kernel_rfl
  case s3 => simp [Value.oneCell']
  intro wn k12n hg3 hs3
  replace hC := hC.grown hg3 hC.size (fun j hj => by cases hj; exact hg2)
  replace k11n := (hg3.block g11 (Array.getElem?_eq_some_iff.1 k11n).1 (fun e => hne2 (by cases e; rfl))).trans k11n
  refine hK _ _ hC ?_
  clear hK K k12 hg3 hs3
  try simp only [Act.put, List.setIfInBounds_toArray, List.set_cons_zero, List.set_cons_succ]
  refine wpPlanXA_nil (fun w7 hS => ?_)
  replace hC := hC.call hS rfl
  replace k11n := blkb k11n hS
  replace k12n := blkb k12n hS
  clear hS
  have HC := Lib.hid (HI.out.grow HORD.out hC)
  clear hC q0 q1 q2 r0 r1 r2 s0 z0 z1 z2 HI
  have t0 := cell_at k11n (i := 0) rfl
  have t1 := cell_at k11n (i := 1) rfl
  have u0 := cell_at k12n (i := 0) rfl
  have u1 := cell_at k12n (i := 1) rfl
  have l11 := cell_lt t0
  have l12 := cell_lt u0
  have K11 := Lib.hid k11n
  have K12 := Lib.hid k12n
  clear k11n k12n
  show Exit.then _ _ _ _ _
  simp only [Exit.then]
  gi_wp2_with fail
  refine ⟨trivial, ?_⟩
  refine (CallsIn.inRound lr (callsIn_wide.2 (K37.out _))).mono ?_
  rintro e w8 ⟨rfl, hb8⟩
  have k11 := blkb K11.out hb8
  have k12 := blkb K12.out hb8
  have HC8 := Lib.hid (HC.out.grow HORD.out hb8)
  clear t0 t1 u0 u1 l11 l12 hb8
  have t0 := cell_at k11 (i := 0) rfl
  have t1 := cell_at k11 (i := 1) rfl
  have u0 := cell_at k12 (i := 0) rfl
  have u1 := cell_at k12 (i := 1) rfl
  have l11 := cell_lt t0
  have l12 := cell_lt u0
  have e7 := cell_at HC8.out.kg (i := 0) rfl
  have l7 := cell_lt e7
  clear k11 k12
  gi_wp2_with (gi_at_builtin; refine stopq ?_)
  unfold StopQ
  have HD := Lib.hid (HC8.out.grow HORD.out ((Below.refl _ _).alloc (Nat.le_refl _) (Obj.cells #[.int .i64 6, .int .i64 6] 66)))
  have HDSZ := Lib.hid HD.out.sz
  obtain ⟨i0, hi, hz0, hz1, hz2⟩ := info_parts info66
  refine wpListIn_append_own _ rfl _ _ 61 rfl w3.heap.size 66 i0 (.agg #[.int .i64 0, .int .i64 0]) 2 16 Tryd.underlying61 hi hz0 hz1 hz2 rfl (by decide) _ 0 [] rfl HD.out.row ⟨w8.heap.size, 0, none⟩ 1 1 [.int .i64 6, .int .i64 6] rfl rfl (RdS.news (size := 2) (n := 1) (RdS.of_new (cs := [.int .i64 6, .int .i64 6]) rfl rfl) (by decide)) (by intro u hu; simp at hu; subst hu; rfl) (by unfold maxLen; omega) (by omega) HDSZ.out ?_
  intro v8 w9 hown8 hg8 _
  have hown9 : w9.ownsRow w3.heap.size 66 2 v8 ([⟨6, 6⟩] : List Td).length (([⟨6, 6⟩] : List Td).flatMap Td.enc) := hown8
  have HE := Lib.hid (HD.out.app HORD.out hown9 hg8)
  obtain ⟨A8, c8, rfl⟩ := own_slice hown8
  clear e7 l7 HD HDSZ hown8 hg8 hown9 t0 t1 u0 u1 l11 l12 hi hz0 hz1 hz2
  have e8 := cell_at HE.out.kg (i := 0) rfl
  have f8 := free_at HE.out.kg (i := 0)
  have l8 := cell_lt e8
  have HF : Hid (LinePost w3.heap.size (fun W => ∃ v, CJ w bl g w3.heap.size v v (List.replicate (0 + 1) ⟨6, 6⟩) W W) (fun W => False) W .normal { tmps := #[], defers := [] } (w9.setCell ⟨g, 0, none⟩ (.slice A8 1 c8))) := Lib.hid (by
   have h := HE.out.setv HORD.out (.slice A8 1 c8)
   exact ⟨h.kf, _, h.here⟩)
  cases A8
  ·gi_wp2
   exact HF.out
  ·gi_wp2
   exact HF.out
 case done =>
  intro D W hD hI hK
  obtain ⟨v, hI⟩ := hI
  obtain ⟨A7, c7, rfl, hr, hlc, hc7, _⟩ := own_form hI.row
  replace hI : CJ w bl g w3.heap.size (.slice A7 1 c7) (.slice A7 1 c7) [⟨6, 6⟩] W W := hI
  have g6 : W.heap[w.heap.size + 1 + 1 + 1]? = some (.cells #[.slice none 0 0] 61 (0, 0)) := hI.ks (w.heap.size + 1 + 1 + 1, _, 61) (by rw [HBL.out]; simp)
  have g7 : W.heap[w.heap.size + 1 + 1 + 1 + 1]? = some (.cells #[.int .i64 0] 36 (0, 0)) := hI.ks (w.heap.size + 1 + 1 + 1 + 1, _, 36) (by rw [HBL.out]; simp)
  have c2 : W.cell? ⟨g, 0, none⟩ = some (.slice A7 1 c7) := cell_at hI.kg rfl
  have l1 := cell_lt c2
  have c6 := cell_at g6 (i := 0) rfl
  have f6 := free_at g6 (i := 0)
  have l6 := cell_lt c6
  have c7' := cell_at g7 (i := 0) rfl
  have f7 := free_at g7 (i := 0)
  have l7 := cell_lt c7'
  have HI := Lib.hid hI
  have HK := Lib.hid hK
  have HG6 := Lib.hid g6
  have HG7 := Lib.hid g7
  clear hr hlc hc7 hI hK g6 g7
  gi_wp2
  go_wp2
  obtain ⟨W2, hW2⟩ : ∃ V, V = (W.setCell ⟨w.heap.size + 1 + 1 + 1, 0, none⟩ (.slice A7 1 c7)).setCell ⟨w.heap.size + 1 + 1 + 1 + 1, 0, none⟩ (.int .i64 0) := ⟨_, rfl⟩
  obtain ⟨ho1, ho2, ho3⟩ := HORD.out
  have hS4 : w.heap.size + 1 + 1 + 1 + 1 < w3.heap.size := by have := (ho3 (w.heap.size + 1 + 1 + 1 + 1, #[.int .i64 0], 36) (by rw [HBL.out]; simp)).2; simp only at this; omega
  have hDs : w.heap.size + 1 + 1 + 1 + 1 < D := by omega
  have k6 : W2.heap[w.heap.size + 1 + 1 + 1]? = some (.cells #[.slice A7 1 c7] 61 (0, 0)) := by
   rw [hW2]; exact (set_far (p := ⟨w.heap.size + 1 + 1 + 1 + 1, 0, none⟩) _ (by show w.heap.size + 1 + 1 + 1 ≠ w.heap.size + 1 + 1 + 1 + 1; omega)).trans (set_blk (i := 0) HG6.out _)
  have k7 : W2.heap[w.heap.size + 1 + 1 + 1 + 1]? = some (.cells #[.int .i64 0] 36 (0, 0)) := by
   have h7 : (W.setCell ⟨w.heap.size + 1 + 1 + 1, 0, none⟩ (.slice A7 1 c7)).heap[w.heap.size + 1 + 1 + 1 + 1]? = some (.cells #[.int .i64 0] 36 (0, 0)) := (set_far (p := ⟨w.heap.size + 1 + 1 + 1, 0, none⟩) _ (by show w.heap.size + 1 + 1 + 1 + 1 ≠ w.heap.size + 1 + 1 + 1; omega)).trans HG7.out
   have h8 := set_blk (i := 0) h7 (.int .i64 0)
   rw [← hW2] at h8
   exact h8
  have kD : W2.heap[D]? = some (.deferred (some [])) := by
   rw [hW2]; exact (set_far (p := ⟨w.heap.size + 1 + 1 + 1 + 1, 0, none⟩) _ (by show D ≠ w.heap.size + 1 + 1 + 1 + 1; omega)).trans ((set_far (p := ⟨w.heap.size + 1 + 1 + 1, 0, none⟩) _ (by show D ≠ w.heap.size + 1 + 1 + 1; omega)).trans HK.out)
  have hrow := own_setfar (p := ⟨w.heap.size + 1 + 1 + 1 + 1, 0, none⟩) (u := .int .i64 0) (own_setfar (p := ⟨w.heap.size + 1 + 1 + 1, 0, none⟩) (u := .slice A7 1 c7) HI.out.row (by show w.heap.size + 1 + 1 + 1 < w3.heap.size; omega)) (by show w.heap.size + 1 + 1 + 1 + 1 < w3.heap.size; omega)
  rw [← hW2] at hrow
  have hbel : Below w.heap.size w W2 := by rw [hW2]; exact (HI.out.bel.setCell (p := ⟨w.heap.size + 1 + 1 + 1, 0, none⟩) (by show w.heap.size ≤ w.heap.size + 1 + 1 + 1; omega) _).setCell (p := ⟨w.heap.size + 1 + 1 + 1 + 1, 0, none⟩) (by show w.heap.size ≤ w.heap.size + 1 + 1 + 1 + 1; omega) _
  have HBf := Lib.hid (hbel.grown (grownBy_putObj' W2 D (.deferred none)) hbel.size (fun j hj => by cases hj; omega))
  have hrow2 := own_keepR (B := w3.heap.size) hrow (grownBy_putObj' W2 D (.deferred none)) (fun r hr => by cases hr; exact ⟨hD, _, kD, rfl⟩)
  obtain ⟨_, _, he2, hr2, _⟩ := own_form hrow2
  cases he2
  have HR := Lib.hid hr2
  have k6' : (W2.putObj D (.deferred none)).heap[w.heap.size + 1 + 1 + 1]? = some (.cells #[.slice A7 1 c7] 61 (0, 0)) := (World.putObj_heap_other (by omega)).trans k6
  have k7' : (W2.putObj D (.deferred none)).heap[w.heap.size + 1 + 1 + 1 + 1]? = some (.cells #[.int .i64 0] 36 (0, 0)) := (World.putObj_heap_other (by omega)).trans k7
  have d6 := cell_at k6' (i := 0) rfl
  have d7 := cell_at k7' (i := 0) rfl
  have KD := Lib.hid kD
  rw [← hW2]
  clear hW2 ho1 ho2 ho3 hDs hS4 k6 k7 kD hrow hbel hrow2 hr2 k6' k7' c2 l1 c6 f6 l6 c7' f7 l7
  refine ⟨by simp, .inl ⟨_, _, rfl, run_takeDeferred KD.out, ?_⟩⟩
  exact ⟨.tuple #[.slice A7 1 c7, .int .i64 0], by simp [results, Tryd.results12, go_sem, d6, d7], A7, c7, rfl, HR.out, HBf.out⟩
 case stop =>
  intro D W hD hX hK
  exact hX.elim
end Go.Proofs.YtfmgibhffgkieaaDoor
namespace Go.Proofs.YtfmgibhffgkieaaDoor
open Go.RowKit Go.Shelf
set_option maxHeartbeats 8000000
set_option maxRecDepth 100000
attribute [local go_sem] Oper.semAt_some
theorem gcd2 (s : Nat) : Nat.gcd s 2 = if s % 2 = 0 then 2 else 1 := by
 rw [Nat.gcd_comm, Nat.gcd_rec]
 rcases Nat.mod_two_eq_zero_or_one s with h | h <;> rw [h] <;> rfl
theorem half (s : Nat) : Mo.lown (s : Nat) 2 / Mo.lowd (s : Nat) 2 = (s : Int) / 2 ∧ -((-Mo.lown (s : Nat) 2) / Mo.lowd (s : Nat) 2) = -((-(s : Int)) / 2) ∧ 0 ≤ Mo.lown (s : Nat) 2 ∧ Mo.lown (s : Nat) 2 ≤ s ∧ 1 ≤ Mo.lowd (s : Nat) 2 ∧ Mo.lowd (s : Nat) 2 ≤ 2 := by
 unfold Mo.lown Mo.lowd
 rw [Int.natAbs_natCast, gcd2]
 split
 ·have e : ((s : Int)).tdiv ((2 : Nat) : Int) = (s : Int) / 2 := by rw [Int.tdiv_eq_ediv_of_nonneg (by omega)]; rfl
  rw [e]
  show (s : Int) / 2 / ((1 : Nat) : Int) = _ ∧ _
  simp
  omega
 ·have e : ((s : Int)).tdiv ((1 : Nat) : Int) = (s : Int) := by simp
  rw [e]
  show (s : Int) / ((2 : Nat) : Int) = _ ∧ _
  simp
/-- the picks of a horizon at each second place -/
def pkh (p0 n : Nat) (v : Nat → Nat) : List Td := (List.range n).map fun (k : Nat) => ⟨((p0 + 2 * k : Nat) : Int), (v k : Int)⟩
theorem pkh_len (p0 n : Nat) (v : Nat → Nat) : (pkh p0 n v).length = n := by simp [pkh]
theorem pkh_at (p0 n : Nat) (v : Nat → Nat) {k : Nat} (hk : k < n) : (pkh p0 n v)[k]? = some ⟨((p0 + 2 * k : Nat) : Int), (v k : Int)⟩ := by
 unfold pkh
 rw [List.getElem?_map, List.getElem?_range hk]
 rfl
theorem pkh_lt (p0 n : Nat) (v : Nat → Nat) {k : Nat} {x : Td} (h : (pkh p0 n v)[k]? = some x) : k < n ∧ x = ⟨((p0 + 2 * k : Nat) : Int), (v k : Int)⟩ := by
 have hk : k < n := by have := (List.getElem?_eq_some_iff.1 h).1; rw [pkh_len] at this; exact this
 rw [pkh_at p0 n v hk] at h
 cases h
 exact ⟨hk, rfl⟩
theorem pkh_ok (p0 n : Nat) (v : Nat → Nat) (hp : p0 + 2 * n ≤ 255) (hv : ∀ k, k < n → v k ≤ 100000) : OkP (pkh p0 n v) := by
 refine ⟨fun x hx => ?_, fun k x y hx hy => ?_⟩
 ·obtain ⟨k, hk, rfl⟩ := List.getElem_of_mem hx
  obtain ⟨h1, h2⟩ := pkh_lt p0 n v (List.getElem?_eq_getElem hk)
  rw [h2]
  have := hv k h1
  simp only
  omega
 ·obtain ⟨h1, rfl⟩ := pkh_lt p0 n v hx
  obtain ⟨h2, rfl⟩ := pkh_lt p0 n v hy
  simp only
  omega
def flo (v : Nat → Nat) (j : Nat) : Int := if j % 2 = 0 then (v (j / 2) : Int) else ((v (j / 2) + v (j / 2 + 1) : Nat) : Int) / 2
def cei (v : Nat → Nat) (j : Nat) : Int := if j % 2 = 0 then (v (j / 2) : Int) else -((-((v (j / 2) + v (j / 2 + 1) : Nat) : Int)) / 2)
def iv1 (v : Nat → Nat) (e : Int) (j : Nat) : Int := flo v j - e
def iv2 (v : Nat → Nat) (e : Int) (j : Nat) : Int := cei v j + e
theorem h61 (nm : ByteArray) (e : Int) (A : Option Addr) (n cap p0 : Nat) (v : Nat → Nat) (w : World) (hn : 1 ≤ n ∧ n ≤ 1000) (H : RdT w A n (pkh p0 n v)) :
  Calls Tryd.prog 61 #[.agg #[.string nm, .int .i64 e, .slice A n cap]] w fun en w' => en = .returned (.tuple #[.int .i64 p0, .int .i64 ((p0 : Int) + (2 * n - 1 : Nat) - 1)]) ∧ Below w.heap.size w w' := by
 have h := c61 nm e A n cap _ _ _ w (by omega) H (pkh_at p0 n v (k := 0) (by omega)) (pkh_at p0 n v (k := n - 1) (by omega))
 have e1 : ((p0 + 2 * (n - 1) : Nat) : Int) = (p0 : Int) + (2 * n - 1 : Nat) - 1 := by omega
 simp only at h
 rw [e1] at h
 exact h
theorem h35 (nm : ByteArray) (e : Int) (A : Option Addr) (n cap p0 : Nat) (v : Nat → Nat) (j : Nat) (w : World) (hn : 1 ≤ n ∧ n ≤ 100) (hp : p0 ≤ 100) (hv : ∀ k, k < n → v k ≤ 1000) (he : 0 ≤ e ∧ e ≤ 1000) (hj : j < 2 * n - 1) (H : RdT w A n (pkh p0 n v)) :
  Calls Tryd.prog 35 #[.agg #[.string nm, .int .i64 e, .slice A n cap], .int .i64 ((p0 + j : Nat) : Int)] w fun en w' => en = .returned (.agg #[.int .i64 (iv1 v e j), .int .i64 (iv2 v e j)]) ∧ Below w.heap.size w w' := by
 unfold iv1 iv2
 by_cases h2 : j % 2 = 0
 ·have hk : j / 2 < n := by omega
  have hb := hv _ hk
  have ej : p0 + j = p0 + 2 * (j / 2) := by omega
  unfold flo cei
  rw [if_pos h2, if_pos h2, ej]
  refine c35 nm e A n cap _ (v (j / 2) : Int) 1 _ _ w (by omega) (by decide) (by simp) (by simp) (by omega) (by omega) he (fun W hB => ?_)
  exact c62_on nm e A n cap _ _ (j / 2) _ W (by omega) (H.below hB) (pkh_at p0 n v hk) (fun i x hi hx => by
   obtain ⟨_, rfl⟩ := pkh_lt p0 n v hx
   simp only
   omega) rfl
 ·have hk : j / 2 + 1 < n := by omega
  have hb := hv _ hk
  have hb0 := hv (j / 2) (by omega)
  obtain ⟨k1, k2, k3, k4, k5, k6⟩ := half (v (j / 2) + v (j / 2 + 1))
  unfold flo cei
  rw [if_neg h2, if_neg h2]
  refine c35 nm e A n cap _ _ _ _ _ w (by omega) (by omega) k1.symm k2.symm (by omega) (by omega) he (fun W hB => ?_)
  exact c62_mid nm e A n cap _ _ (j / 2 + 1) _ W (by omega) (H.below hB) (pkh_at p0 n v hk) (fun i x hi hx => by
   obtain ⟨_, rfl⟩ := pkh_lt p0 n v hx
   simp only
   omega) _ _ _ (by omega) (pkh_at p0 n v (k := j / 2) (by omega)) (by simp only; omega) (by simp only; omega) rfl rfl (by omega) (by omega)
/-- the places at which two horizons differ -/
def dif (v u : Nat → Nat) (ea eb : Int) (p0 n : Nat) : List Int := selK (fun j => decide (iv2 v ea j < iv1 u eb j + 0) || decide (iv2 u eb j + 0 < iv1 v ea j)) p0 (2 * n - 1)
theorem iv_bd (v : Nat → Nat) (e : Int) (n j : Nat) (hv : ∀ k, k < n → v k ≤ 1000) (he : 0 ≤ e ∧ e ≤ 1000) (hj : j < 2 * n - 1) : -1000000 ≤ iv1 v e j ∧ iv1 v e j ≤ 1000000 ∧ -1000000 ≤ iv2 v e j ∧ iv2 v e j ≤ 1000000 := by
 unfold iv1 iv2 flo cei
 by_cases h2 : j % 2 = 0
 ·rw [if_pos h2, if_pos h2]
  have := hv (j / 2) (by omega)
  omega
 ·rw [if_neg h2, if_neg h2]
  have := hv (j / 2) (by omega)
  have := hv (j / 2 + 1) (by omega)
  omega
theorem h16 (nma nmb : ByteArray) (ea eb : Int) (A B : Option Addr) (n ca cb p0 : Nat) (v u : Nat → Nat) (w : World) (hma : Nm nma) (hmb : Nm nmb) (hn : 1 ≤ n ∧ n ≤ 100) (hp : p0 + 2 * n ≤ 100) (hv : ∀ k, k < n → v k ≤ 1000) (hu : ∀ k, k < n → u k ≤ 1000) (hea : 0 ≤ ea ∧ ea ≤ 1000) (heb : 0 ≤ eb ∧ eb ≤ 1000) (HA : RdT w A n (pkh p0 n v)) (HB : RdT w B n (pkh p0 n u)) :
  Calls Tryd.prog 16 #[.agg #[.string nma, .int .i64 ea, .slice A n ca], .agg #[.string nmb, .int .i64 eb, .slice B n cb], .int .i64 0, .int .i64 (-1000)] w fun en w' => en = .returned (.int .i64 0) ∧ Below w.heap.size w w' := by
 refine c16 nma nmb ea eb A B n n ca cb 0 (-1000) w (by decide) (fun W hb => ?_) (fun W hb => ?_)
 ·exact c41 nma nmb ea eb A B n n ca cb _ _ W hma hmb hea heb (by omega) (by omega) (HA.below hb) (HB.below hb) (pkh_ok p0 n v (by omega) (fun k hk => by have := hv k hk; omega)) (pkh_ok p0 n u (by omega) (fun k hk => by have := hu k hk; omega))
 ·exact c44 nma nmb ea eb A B n n ca cb p0 (2 * n - 1) W (by omega) (by omega) (fun V hV => h61 nma ea A n ca p0 v V (by omega) ((HA.below hb).below hV)) (fun V hV => h61 nmb eb B n cb p0 u V (by omega) ((HB.below hb).below hV))
theorem h7 (nma nmb : ByteArray) (ea eb : Int) (A B : Option Addr) (n ca cb p0 : Nat) (v u : Nat → Nat) (w : World) (hma : Nm nma) (hmb : Nm nmb) (hn : 1 ≤ n ∧ n ≤ 100) (hp : p0 + 2 * n ≤ 100) (hv : ∀ k, k < n → v k ≤ 1000) (hu : ∀ k, k < n → u k ≤ 1000) (hea : 0 ≤ ea ∧ ea ≤ 1000) (heb : 0 ≤ eb ∧ eb ≤ 1000) (HA : RdT w A n (pkh p0 n v)) (HB : RdT w B n (pkh p0 n u)) :
  Calls Tryd.prog 7 #[.agg #[.string nma, .int .i64 ea, .slice A n ca], .agg #[.string nmb, .int .i64 eb, .slice B n cb], .int .i64 0] w fun en w' => ∃ V c, en = .returned (.tuple #[.slice V (dif v u ea eb p0 n).length c, .int .i64 0]) ∧ RdI w' V (dif v u ea eb p0 n).length (dif v u ea eb p0 n) ∧ Below w.heap.size w w' := by
 refine c7 nma nmb ea eb A B n n ca cb 0 _ w (fun W hb => h16 nma nmb ea eb A B n ca cb p0 v u W hma hmb hn hp hv hu hea heb (HA.below hb) (HB.below hb)) (fun W hb => ?_)
 exact c17 nma nmb ea eb A B n n ca cb p0 (2 * n - 1) 0 (iv1 v ea) (iv2 v ea) (iv1 u eb) (iv2 u eb) W (by omega) (by decide) (fun V hV => h61 nma ea A n ca p0 v V (by omega) ((HA.below hb).below hV)) (fun V hV => h61 nmb eb B n cb p0 u V (by omega) ((HB.below hb).below hV))
  (fun k V hk hV => h35 nma ea A n ca p0 v k V hn (by omega) hv hea hk ((HA.below hb).below hV)) (fun k V hk hV => h35 nmb eb B n cb p0 u k V hn (by omega) hu heb hk ((HB.below hb).below hV)) (fun k hk => iv_bd u eb n k hu heb hk)
end Go.Proofs.YtfmgibhffgkieaaDoor
