/- A part of the proofs about chapter 7 (image): contracts of functions and plain laws (V14, V15, V17, V18, V19, V20). -/
import Derived.BigRegion
import Derived.Test.YtdimmlljjmmdbaaGreatDoorZ09a
import Derived.Test.YtdimmlljjmmdbaaGreatDoorZ09c
set_option linter.all false
namespace Go.Proofs.YtdimmlljjmmdbaaGreatDoor
open Go.RowKit Go.Shelf
set_option maxHeartbeats 8000000
set_option maxRecDepth 100000
attribute [local go_sem] Oper.semAt_some
/-- what is still to be done, read off the world -/
def tmeas (og b6 : Nat) (w : World) : Nat :=
 9 * (match w.heap[og]? with | some (.cells cs _ _) => cs.toList.countP (fun v => match v with | .int _ x => decide (x < 0) | _ => false) | _ => 0) + (match w.cell? ⟨b6, 0, none⟩ with | some (.slice _ n _) => n | _ => 0)
theorem tmeas_eq {w W : World} {gb b5 b6 og : Nat} {c r : Nat} {A : Option Addr} {n cap : Nat} {out : List Int} {b off cw : Nat} {wl : List (Nat × Int)} (h : TW w W gb b5 b6 og c r A n cap out b off cw wl) : tmeas og b6 W = 9 * Im.undone out + wl.length := by
 unfold tmeas
 rw [h.ko, cell_at h.k6 (v := .slice (some ⟨b, off, none⟩) wl.length cw) rfl]
 simp only [Im.undone, encI, List.countP_map]
 rfl
/-- what holds in the loop over the neighbours of x -/
structure TI (w : World) (Ds : List Nat) (gb b5 b6 og b7 pi pg : Nat) (c r : Nat) (A : Option Addr) (n cap : Nat) (l : List Int) (s : Nat) (x : Nat × Int) (out : List Int) (L0 : Nat) (pre : List (Nat × Int)) (W : World) : Prop where
 mks : Marks w.heap.size Ds W
 k7 : W.heap[b7]? = some (.cells #[.int .i64 (x.1 : Nat), .int .i64 x.2] 214 (0, 0))
 ki : W.heap[pi]? = some (.cells #[.int .i64 (x.1 : Nat)] 3 (0, 0))
 kg : W.heap[pg]? = some (.cells #[.int .i64 c, .int .i64 r, .slice A n cap] 35 (0, 0))
 ex : ∃ b off cw wl, (b ≠ b7 ∧ b ≠ pi ∧ b ≠ pg) ∧ TW w W gb b5 b6 og c r A n cap out b off cw wl ∧ Im.Dij c l s out wl (fun a k => a ≠ x.1 ∨ ∃ e ∈ pre, e.1 = k) ∧ wl.length ≤ L0 + pre.length ∧ ∀ e ∈ wl, e.2 ≤ 600 * ((n - Im.undone out : Nat) : Int)
theorem TI.own {w : World} {Ds : List Nat} {gb b5 b6 og b7 pi pg c r : Nat} {A : Option Addr} {n cap : Nat} {l : List Int} {s : Nat} {x : Nat × Int} {out : List Int} {L0 : Nat} {pre : List (Nat × Int)} {B : Nat} (hB : w.heap.size ≤ B) (hD : ∀ D ∈ Ds, D < B) :
  OwnFrom B (fun (_ : Unit) => TI w Ds gb b5 b6 og b7 pi pg c r A n cap l s x out L0 pre) := by
 intro _ W W' row h hg hr
 have key : ∀ {k : Nat} {cs : Array Value} {t : TypeId} {f : Nat × Nat}, W.heap[k]? = some (.cells cs t f) → W'.heap[k]? = some (.cells cs t f) := fun {k cs t f} hk => by
  refine (hg.block k (Array.getElem?_eq_some_iff.1 hk).1 (fun e => ?_)).trans hk
  obtain ⟨_, o, ho, hc⟩ := hr k e.symm
  rw [hk] at ho
  cases ho
  cases hc
 obtain ⟨h1, h2, h3, h4, b, off, cw, wl, hd, ht, h5⟩ := h
 refine ⟨⟨h1.1, fun D hDs => ⟨(h1.2 D hDs).1, ?_⟩⟩, key h2, key h3, key h4, b, off, cw, wl, hd, ht.own hB hg hr, h5⟩
 refine (hg.block D (h1.lt D hDs) (fun e => ?_)).trans (h1.2 D hDs).2
 have := (hr D e.symm).1
 have := hD D hDs
 omega
theorem TI.step {w : World} {Ds : List Nat} {gb b5 b6 og b7 pi pg c r : Nat} {A : Option Addr} {n cap : Nat} {l : List Int} {s : Nat} {x y : Nat × Int} {out : List Int} {L0 : Nat} {pre : List (Nat × Int)} {W : World}
  (h : TI w Ds gb b5 b6 og b7 pi pg c r A n cap l s x out L0 pre W) (g : Im.Gr c r l) (hx : x.1 < l.length) (hy : y.1 < l.length) (top : ∀ b, b < l.length → Im.at0 out b ≤ Im.at0 out x.1) (hd : 0 ≤ Im.at0 out y.1) : TI w Ds gb b5 b6 og b7 pi pg c r A n cap l s x out L0 (pre ++ [y]) W := by
 obtain ⟨h1, h2, h3, h4, b, off, cw, wl, hdd, ht, h5, h6, h7⟩ := h
 refine ⟨h1, h2, h3, h4, b, off, cw, wl, hdd, ht, (h5.pass g hx hy (top _ hy) hd).weak (fun a k _ _ _ he => ?_), by simp; omega, h7⟩
 rcases he with he | ⟨e, he, hk⟩
 ·exact .inl (.inl he)
 ·rcases List.mem_append.1 he with he | he
  ·exact .inl (.inr ⟨e, he, hk⟩)
  ·obtain rfl := List.mem_singleton.1 he
   by_cases ha : a = x.1
   ·exact .inr ⟨ha, hk.symm⟩
   ·exact .inl (.inl ha)
theorem c127 (c r : Nat) (A : Option Addr) (n cap : Nat) (l : List Int) (s : Nat) (w : World) (g : Im.Gr c r l) (hc : c ≤ 16) (hr : r ≤ 16) (hs : s < n) (H : RdI w A n l) (hst : Steps w) :
  Calls Tryz.prog 127 #[.agg #[.int .i64 c, .int .i64 r, .slice A n cap], .int .i64 s] w fun en w' => ∃ og t, en = .returned (.slice (some ⟨og, 0, none⟩) n n) ∧ w.heap.size ≤ og ∧ w'.heap[og]? = some (.cells (encI t).toArray 3 (0, 0)) ∧ Im.IsT c l s t ∧ Below w.heap.size w w' := by
 have hln := H.len
 have h256 : c * r ≤ 256 := Nat.mul_le_mul hc hr
 have hn256 : n ≤ 256 := by rw [← hln, g.len]; exact h256
 refine (callsIn_wide (n := 6)).1 ?_
 refine callsIn_of_wp_marks Tryz.func127 rfl trivial ?_ rfl
 refine wpIn_wide.2 ?_
 simp only [Tryz.ntmps127, List.size_toArray, List.length_cons, List.length_nil, Nat.reduceAdd, Nat.reduceSub, Array.replicate_succ, Array.replicate_zero, List.push_toArray, List.append_toArray, List.nil_append, List.cons_append]
 obtain ⟨w0, hw0⟩ : ∃ W, W = (w.alloc (Obj.cells #[.int .i64 c, .int .i64 r, .slice A n cap] 35)).alloc (Obj.cells #[.int .i64 (-1)] 3) := ⟨_, rfl⟩
 obtain ⟨gb, hgb⟩ : ∃ b, b = w.heap.size := ⟨_, rfl⟩
 have hgg0 : w0.heap[gb]? = some (.cells #[.int .i64 c, .int .i64 r, .slice A n cap] 35 (0, 0)) := by rw [hw0]; exact heap_old (by simp; omega) (heap_new (by omega))
 have hm1 : w0.heap[gb + 1]? = some (.cells #[.int .i64 (-1)] 3 (0, 0)) := by rw [hw0]; exact heap_new (by simp; omega)
 have hB0 : Below w.heap.size w w0 := by rw [hw0]; exact below2 _ _ _
 have hz0 : w0.heap.size = gb + 2 := by rw [hw0]; simp; omega
 go_wp2_with fail
 rw [← hw0, ← hgb]
 refine (c154 (gb + 1) 0 1 n w0 (by omega) (by omega) (RdS.of_block (cs := encI [-1]) hm1 rfl)).mono ?_
 rintro e w1 ⟨og, rfl, hog, hko, hb1⟩
 have hgg1 := blkb hgg0 hb1
 have hB1 := hB0.call hb1 rfl
 have hz1 : og < w1.heap.size := (Array.getElem?_eq_some_iff.1 hko).1
 have hog2 : gb + 2 ≤ og := by omega
 clear hb1 hgg0 hm1 hB0 hog hz0 hw0
 obtain ⟨b5, hb5⟩ : ∃ b, b = w1.heap.size := ⟨_, rfl⟩
 obtain ⟨w2, hw2⟩ : ∃ W, W = ((w1.alloc (Obj.cells #[.slice (some ⟨og, 0, none⟩) n n] 22)).alloc (Obj.cells #[.int .i64 s, .int .i64 0] 214)).alloc (Obj.cells #[.slice (some ⟨b5 + 1, 0, none⟩) 1 1] 215) := ⟨_, rfl⟩
 have htw : TW w w2 gb b5 (b5 + 1 + 1) og c r A n cap (List.replicate n (-1)) (b5 + 1) 0 1 [(s, 0)] := by
  have hk5 : w2.heap[b5]? = some (.cells #[.slice (some ⟨og, 0, none⟩) n n] 22 (0, 0)) := by rw [hw2]; exact heap_old (by simp; omega) (heap_old (by simp; omega) (heap_new hb5))
  have hkw : w2.heap[b5 + 1]? = some (.cells #[.int .i64 s, .int .i64 0] 214 (0, 0)) := by rw [hw2]; exact heap_old (by simp; omega) (heap_new (by simp; omega))
  have hk6 : w2.heap[b5 + 1 + 1]? = some (.cells #[.slice (some ⟨b5 + 1, 0, none⟩) 1 1] 215 (0, 0)) := by rw [hw2]; exact heap_new (by simp; omega)
  have hbb : Below w1.heap.size w1 w2 := by rw [hw2]; exact (below2 _ _ _).alloc (by simp; omega) _
  have hsz1 := hB1.size
  refine ⟨hB1.call hbb rfl, blkb hgg1 hbb, hk5, ?_, hk6, ⟨⟨_, hkw, by simp, by simp, fun j hj => ?_⟩, rfl, by simp, by omega, by omega⟩, by omega, by omega, by omega, by omega⟩
  ·rw [blkb hko hbb]
   simp [encI]
  ·simp at hj
   match j, hj with
   | 0, _ => rfl
   | 1, _ => rfl
 have hdij : Im.Dij c l s (List.replicate n (-1)) [(s, 0)] (fun _ _ => True) := by
  have := Im.Dij.start (c := c) (l := l) (s := s) (by omega)
  rw [hln] at this
  exact this
 have hun : Im.undone (List.replicate n (-1)) ≤ n := by
  have := List.countP_le_length (p := fun x : Int => decide (x < 0)) (l := List.replicate n (-1))
  rw [List.length_replicate] at this
  exact this
 go_wp2_with fail
 rw [← hgb, ← hb5, ← hw2]
 obtain ⟨b6, hb6⟩ : ∃ b, b = b5 + 1 + 1 := ⟨_, rfl⟩
 rw [← hb6] at htw ⊢
 have hq1 : w.heap.size ≤ b5 ∧ w.heap.size ≤ b6 ∧ w.heap.size ≤ og ∧ w.heap.size = gb ∧ gb < og ∧ og < b5 ∧ b5 < b6 := by have := hB1.size; omega
 have HQ := Lib.hid hq1
 have HST := Lib.hid hst
 have HRD := Lib.hid H
 clear hw2 hb5 hb6 hgg1 hB1 hko hz1 hog2 H hst hgb hq1
 refine wp_loop (fun a' wr => ∃ (Ds : List Nat), (∃ out b off cw wl, Marks w.heap.size Ds wr ∧ TW w wr gb b5 b6 og c r A n cap out b off cw wl ∧ Im.Dij c l s out wl (fun _ _ => True) ∧ 9 * Im.undone out + wl.length ≤ 9 * n + 1 ∧ ∀ e ∈ wl, e.2 ≤ 600 * ((n - Im.undone out : Nat) : Int)) ∧ a' = { tmps := #[.agg #[.int .i64 c, .int .i64 r, .slice A n cap], .int .i64 s, .pointer (some ⟨gb, 0, none⟩), undef, .slice none 0 0, .pointer (some ⟨b5, 0, none⟩), .pointer (some ⟨b6, 0, none⟩), a'.tmps.getD 7 undef, a'.tmps.getD 8 undef, a'.tmps.getD 9 undef, a'.tmps.getD 10 undef, a'.tmps.getD 11 undef, a'.tmps.getD 12 undef, .slice (some ⟨gb + 1, 0, none⟩) 1 1, .pointer (some ⟨gb, 2, none⟩), .slice A n cap, .int .i64 n, .slice (some ⟨og, 0, none⟩) n n, .int .i64 s, .agg #[.int .i64 s, .int .i64 0], .slice (some ⟨b5 + 1, 0, none⟩) 1 1, a'.tmps.getD 21 undef, a'.tmps.getD 22 undef, a'.tmps.getD 23 undef, a'.tmps.getD 24 undef, a'.tmps.getD 25 undef, a'.tmps.getD 26 undef, a'.tmps.getD 27 undef, a'.tmps.getD 28 undef, a'.tmps.getD 29 undef, a'.tmps.getD 30 undef, a'.tmps.getD 31 undef, a'.tmps.getD 32 undef, a'.tmps.getD 33 undef, a'.tmps.getD 34 undef, a'.tmps.getD 35 undef, a'.tmps.getD 36 undef, a'.tmps.getD 37 undef, a'.tmps.getD 38 undef, a'.tmps.getD 39 undef, a'.tmps.getD 40 undef, a'.tmps.getD 41 undef, a'.tmps.getD 42 undef, a'.tmps.getD 43 undef, a'.tmps.getD 44 undef, a'.tmps.getD 45 undef, a'.tmps.getD 46 undef, a'.tmps.getD 47 undef, a'.tmps.getD 48 undef, a'.tmps.getD 49 undef, a'.tmps.getD 50 undef, a'.tmps.getD 51 undef, a'.tmps.getD 52 undef, a'.tmps.getD 53 undef, a'.tmps.getD 54 undef, a'.tmps.getD 55 undef, a'.tmps.getD 56 undef, a'.tmps.getD 57 undef, a'.tmps.getD 58 undef, a'.tmps.getD 59 undef, a'.tmps.getD 60 undef, a'.tmps.getD 61 undef, a'.tmps.getD 62 undef, a'.tmps.getD 63 undef, a'.tmps.getD 64 undef, a'.tmps.getD 65 undef, a'.tmps.getD 66 undef, a'.tmps.getD 67 undef, a'.tmps.getD 68 undef, undef], defers := MarkL Ds }) (fun _ wr => tmeas og b6 wr) ?atStart ?round
 case atStart =>
  refine ⟨[], ⟨_, _, _, _, _, Marks.nil _ _, htw, hdij, by simp; omega, fun e he => ?_⟩, rfl⟩
  simp at he
  subst he
  simp only
  omega
 case round =>
  clear htw hdij hun w1 w2 w0
  rintro a0 wr ⟨Ds, ⟨out, b, off, cw, wl, hM, hT, hD, hlen, hbd⟩, ha0⟩
  obtain ⟨u, hu⟩ : ∃ u : Nat → Value, u = fun k => a0.tmps.getD k undef := ⟨_, rfl⟩
  have ha1 : a0 = { tmps := #[.agg #[.int .i64 c, .int .i64 r, .slice A n cap], .int .i64 s, .pointer (some ⟨gb, 0, none⟩), undef, .slice none 0 0, .pointer (some ⟨b5, 0, none⟩), .pointer (some ⟨b6, 0, none⟩), u 7, u 8, u 9, u 10, u 11, u 12, .slice (some ⟨gb + 1, 0, none⟩) 1 1, .pointer (some ⟨gb, 2, none⟩), .slice A n cap, .int .i64 n, .slice (some ⟨og, 0, none⟩) n n, .int .i64 s, .agg #[.int .i64 s, .int .i64 0], .slice (some ⟨b5 + 1, 0, none⟩) 1 1, u 21, u 22, u 23, u 24, u 25, u 26, u 27, u 28, u 29, u 30, u 31, u 32, u 33, u 34, u 35, u 36, u 37, u 38, u 39, u 40, u 41, u 42, u 43, u 44, u 45, u 46, u 47, u 48, u 49, u 50, u 51, u 52, u 53, u 54, u 55, u 56, u 57, u 58, u 59, u 60, u 61, u 62, u 63, u 64, u 65, u 66, u 67, u 68, undef], defers := MarkL Ds } := by rw [hu]; exact ha0
  clear ha0 hu
  subst ha1
  dsimp only
  have hUn : Im.undone out ≤ n := by
   have := List.countP_le_length (p := fun x : Int => decide (x < 0)) (l := out)
   rw [hD.len, hln] at this
   exact this
  have HT := Lib.hid hT
  have HM := Lib.hid hM
  have HD := Lib.hid hD
  have HME := Lib.hid (tmeas_eq hT)
  have k5 := cell_at hT.k5 (i := 0) (v := .slice (some ⟨og, 0, none⟩) n n) rfl
  have k6 := cell_at hT.k6 (i := 0) (v := .slice (some ⟨b, off, none⟩) wl.length cw) rfl
  cases wl with
  | nil =>
   have h0 : ¬ (0 : Int) < 0 := by omega
   have hIT := hD.done g (by omega)
   have hKO := hT.ko
   have hBL := hT.bel
   have HF := Lib.hid (⟨hIT, hKO, hBL⟩ : _ ∧ _ ∧ _)
   simp only [List.length_nil] at k6
   clear hIT hKO hBL hT hM hD hlen hbd HD HT
   go_wp2
   refine leaves_marks Ds wr wr HM.out (Aft.refl _ _) rfl (fun w' ha => ?_)
   obtain ⟨f1, f2, f3⟩ := HF.out
   refine ⟨.slice (some ⟨og, 0, none⟩) n n, by simp [results, Tryz.results127, go_sem], ?_⟩
   exact ⟨og, rfl, HQ.out.2.2.1, out, ha.1 _ _ f2 rfl, f1, ha.2 w f3.size f3⟩
  | cons x wl =>
   obtain ⟨m1, hm1⟩ : ∃ m, m = (x :: wl).length := ⟨_, rfl⟩
   have hm2 : m1 = wl.length + 1 := by rw [hm1]; rfl
   have hx := hD.ent x List.mem_cons_self
   have hx1 : x.1 < n := by rw [← hln]; exact hx.1
   have hx2 := hx.2.1
   have hxb := hbd x List.mem_cons_self
   have hov := hD.val x.1 hx.1
   have hol : out.length = n := by rw [hD.len, hln]
   rw [← hm1] at k6
   have hncw := hT.wt.nc
   rw [← hm1] at hncw
   have hcm := hT.wt.cm
   have e0 : wr.cell? ⟨b, off, none⟩ = some (.int .i64 (x.1 : Nat)) := by have := hT.wt.cells 0 (.int .i64 (x.1 : Nat)) (by rw [List.flatMap_cons]; rfl); simpa using this
   have e1 : wr.cell? ⟨b, off + 1, none⟩ = some (.int .i64 x.2) := hT.wt.cells 1 (.int .i64 x.2) (by rw [List.flatMap_cons]; rfl)
   have eo : wr.cell? ⟨og, x.1, none⟩ = some (.int .i64 (Im.at0 out x.1)) := by
    refine cell_at hT.ko ?_
    simp [encI, Im.at0, List.getD_eq_getElem?_getD, hol, hx1]
   have f6 : wr.frozen? ⟨b6, 0, none⟩ = false := free_at hT.k6
   have fo : ∀ j, wr.frozen? ⟨og, j, none⟩ = false := fun j => free_at hT.ko
   obtain ⟨off2, cw2, hoff2, hcw2, hwt2⟩ : ∃ off2 cw2, (if cw = 1 then (some ⟨b, off, none⟩ : Option Addr) else some ⟨b, off + 2, none⟩) = some ⟨b, off2, none⟩ ∧ cw2 = cw - 1 ∧ WtE wr w.heap.size b off2 wl.length cw2 wl := by
    have hwt := hT.wt
    rw [← hm1, hm2] at hwt
    by_cases hc1 : cw = 1
    ·have : wl = [] := List.eq_nil_of_length_eq_zero (by omega)
     subst this
     subst hc1
     exact ⟨off, 0, by simp, by simp, hwt.last⟩
    ·obtain ⟨cc, rfl⟩ : ∃ cc, cw = cc + 1 := ⟨cw - 1, by omega⟩
     exact ⟨off + 2, cc, by rw [if_neg hc1], by simp, hwt.tail⟩
   have hm0 : 0 < m1 := by omega
   have hm0i : (0 : Int) < (m1 : Int) := by omega
   have hm1c : (1 : Int) ≤ (m1 : Int) := by omega
   obtain ⟨d1, d2, d3, d4⟩ := hT.d1
   obtain ⟨q1, q2, q3, q4, q5, q6, q7⟩ := HQ.out
   have ltb := hT.wt.lt
   have lt6 := cell_lt k6
   have lto := cell_lt eo
   have lt5 := cell_lt k5
   have hne1 : b6 ≠ og := by omega
   have hne2 : b5 ≠ b6 := by omega
   have HM1 := Lib.hid hm1
   have HM2 := Lib.hid hm2
   clear hm1 hm2 hx hT hM hD
   have g0 : wr.cell? ⟨gb, 0, none⟩ = some (.int .i64 c) := cell_at HT.out.gg rfl
   have g1 : wr.cell? ⟨gb, 1, none⟩ = some (.int .i64 r) := cell_at HT.out.gg rfl
   have g2 : wr.cell? ⟨gb, 2, none⟩ = some (.slice A n cap) := cell_at HT.out.gg rfl
   have ltg := cell_lt g0
   have hne3 : gb ≠ b6 := by omega
   have hne4 : gb ≠ og := by omega
   have hne5 : b5 ≠ og := by omega
   have hcs : cw - 1 = cw2 := hcw2.symm
   have hms : m1 - 1 = wl.length := by rw [HM2.out]; rfl
   have HTS : Hid (TW w (wr.setCell ⟨b6, 0, none⟩ (.slice (some ⟨b, off2, none⟩) wl.length cw2)) gb b5 b6 og c r A n cap out b off2 cw2 wl) := Lib.hid
    (HT.out.next HT.out.bel (fun k hk _ => rfl) hwt2 (.inl rfl) q2 ⟨hne3.symm, hne2.symm, hne1⟩)
   have HMS : Hid (Marks w.heap.size Ds (wr.setCell ⟨b6, 0, none⟩ (.slice (some ⟨b, off2, none⟩) wl.length cw2))) := Lib.hid (HM.out.keep (fun k o hk hc => (set_far _ (fun e => by subst e; have := HT.out.k6; rw [hk] at this; cases this; cases hc)).trans hk))
   clear hwt2 hcw2
   by_cases hdn : 0 ≤ Im.at0 out x.1
   ·have hdd : decide (0 ≤ Im.at0 out x.1) = true := by simpa using hdn
    have HDS := Lib.hid (HD.out.skip hdn)
    have hbl : ∀ W : World, Below W.heap.size W (W.alloc (Obj.cells #[.int .i64 (x.1 : Nat), .int .i64 x.2] 214)) := fun W => (Below.refl _ _).alloc (Nat.le_refl _) _
    have HTN := Lib.hid (HTS.out.below (hbl _))
    have hwk := Lib.hid (HMS.out.below (hbl _))
    clear hbl
    clear hdn
    go_wp2
    refine ⟨⟨Ds, ⟨out, b, off2, cw2, wl, hwk.out, HTN.out, HDS.out, by simp at hlen; omega, fun e he => hbd e (List.mem_cons_of_mem _ he)⟩, rfl⟩, ?_⟩
    show tmeas _ _ _ < tmeas _ _ _
    rw [tmeas_eq HTN.out, HME.out]
    simp
   ·have hdd : decide (0 ≤ Im.at0 out x.1) = false := by simpa using hdn
    have hdn2 : Im.at0 out x.1 < 0 := by omega
    obtain ⟨out1, ho1⟩ : ∃ o, o = out.set x.1 x.2 := ⟨_, rfl⟩
    have hb7 : ∀ W : World, Below W.heap.size W (W.alloc (Obj.cells #[.int .i64 (x.1 : Nat), .int .i64 x.2] 214)) := fun W => (Below.refl _ _).alloc (Nat.le_refl _) _
    obtain ⟨W3, hW3⟩ : ∃ W, W = ((wr.setCell ⟨b6, 0, none⟩ (.slice (some ⟨b, off2, none⟩) wl.length cw2)).setCell ⟨og, x.1, none⟩ (.int .i64 x.2)).alloc (Obj.cells #[.int .i64 (x.1 : Nat), .int .i64 x.2] 214) := ⟨_, rfl⟩
    obtain ⟨b7, hb7e⟩ : ∃ b, b = wr.heap.size := ⟨_, rfl⟩
    have T3 : TW w W3 gb b5 b6 og c r A n cap out1 b off2 cw2 wl := by rw [hW3, ho1]; exact (HTS.out.done q3 ⟨hne4.symm, hne5.symm, hne1.symm⟩).below (hb7 _)
    have M3 : Marks w.heap.size Ds W3 := by
     rw [hW3]
     exact (HMS.out.keep (fun k o hk hc => (set_far _ (fun e => by subst e; have := HTS.out.ko; rw [hk] at this; cases this; cases hc)).trans hk)).below (hb7 _)
    have K7 : W3.heap[b7]? = some (.cells #[.int .i64 (x.1 : Nat), .int .i64 x.2] 214 (0, 0)) := by rw [hW3, hb7e]; exact heap_new (by simp [World.setCell])
    obtain ⟨D3, D4, D5, D6, D7⟩ := HD.out.take g (by omega) hdn2
    rw [← ho1] at D3 D4 D5
    have hun1 := Im.undone_set (out := out) (i := x.1) (x := x.2) (by omega) hdn2 hx2
    rw [← ho1] at hun1
    have hbn7 : b ≠ b7 := by omega
    go_wp2_with fail
    rw [← hW3]
    refine (c128 c r A n cap (x.1 : Nat) W3).mono ?_
    rintro e W4 ⟨rfl, hW4⟩
    have hB4 : Below W3.heap.size W3 W4 := by rw [hW4]; exact below2 _ _ _
    obtain ⟨pg, hpg⟩ : ∃ p, p = W3.heap.size := ⟨_, rfl⟩
    have KG : W4.heap[pg]? = some (.cells #[.int .i64 c, .int .i64 r, .slice A n cap] 35 (0, 0)) := by rw [hW4]; exact heap_old (by simp; omega) (heap_new hpg)
    have KI : W4.heap[pg + 1]? = some (.cells #[.int .i64 (x.1 : Nat)] 3 (0, 0)) := by rw [hW4]; exact heap_new (by simp; omega)
    have hbl3 := T3.wt.lt
    have I0 : TI w Ds gb b5 b6 og b7 (pg + 1) pg c r A n cap l s x out1 wl.length [] W4 := by
     refine ⟨M3.below hB4, blkb K7 hB4, KI, KG, b, off2, cw2, wl, ⟨hbn7, by omega, by omega⟩, T3.below hB4, D3.weak (fun a k _ _ _ he => ?_), by simp, fun e he => ?_⟩
     ·rcases he with he | ⟨e, he, _⟩
      ·exact he
      ·cases he
     ·have := hbd e (List.mem_cons_of_mem _ he)
      omega
    have M4 := M3.below hB4
    have hs4 : w.heap.size ≤ W4.heap.size := (T3.below hB4).bel.size
    rw [← hpg, ← hb7e]
    have HI0 := Lib.hid I0
    have HM4 := Lib.hid M4
    have HS4 := Lib.hid hs4
    have HT4 := Lib.hid (show (∀ b, b < l.length → Im.at0 out1 b ≤ Im.at0 out1 x.1) ∧ Im.at0 out1 x.1 = x.2 ∧ x.1 < l.length ∧ out1.length = n ∧ (∀ b, b < l.length → -1 ≤ Im.at0 out1 b) ∧ 9 * Im.undone out1 + 9 + wl.length + 1 ≤ 9 * n + 1 ∧ x.2 ≤ 600 * ((n - Im.undone out : Nat) : Int) from ⟨fun b hb => by rw [D5]; exact D4 b hb, D5, D6, by rw [D3.len, hln], D3.val, by simp at hlen; omega, hxb⟩)
    have HU := Lib.hid hun1
    clear I0 M4 hs4 KG KI hB4 hW4 M3 K7 T3 D3 D4 D5 D6 D7 hW3 ho1 hb7 hun1 hpg hbl3 hdn hdn2 HTS HMS HT HD HM hbd hlen hxb k5 k6 e0 e1 eo f6 fo ltb lt6 lto lt5 g0 g1 g2 ltg hov
    go_wp2
    try rw [← hb7e]
    refine (wpIn_wide (n := 6)).1 ?_
    refine wpIn_nbs (n := 6) (by omega) (pi := pg + 1) (pg := pg) g hc hr (A := A) (N := n) (cap := cap) (i := x.1) HT4.out.2.2.1 rfl rfl .ret (fun pre W => TI w Ds gb b5 b6 og b7 (pg + 1) pg c r A n cap l s x out1 wl.length pre W) (fun _ => False)
     (fun pre => TI.own HS4.out HM4.out.lt) (fun _ _ _ _ h => h.elim)
     (fun pre W h => by obtain ⟨h1, h2, h3, h4, b, off, cw, wl, hd, ht, _⟩ := h; exact ⟨h3, h4, HRD.out.below ht.bel, HST.out.below ht.bel⟩) HI0.out ?a1 ?assign ?body ?done ?stop
    case assign =>
     intro lr y W K hK
     have HK := Lib.hid hK
     clear hK
     gi_wp2
     exact HK.out
    case stop => exact fun _ _ _ h => h.elim
    case done =>
     intro D W hD hI hK
     obtain ⟨h1, h2, h3, h4, b', off', cw', wl', hd, ht, hDj, hl4, hb4⟩ := hI
     obtain ⟨t1, t2, t3, t4, t5, t6, t7⟩ := HT4.out
     have hn8 := Im.nbs_len c r l x.1
     refine ⟨⟨D :: Ds, ⟨out1, b', off', cw', wl', HM4.out.push h1 HS4.out hD hK, ht, hDj.weak (fun a k ha hk hck _ => ?_), by omega, hb4⟩, rfl⟩, ?_⟩
     ·by_cases hax : a = x.1
      ·subst hax
       exact .inr ⟨_, (Im.nbs_mem g ha).2 ⟨hk, rfl, hck⟩, rfl⟩
      ·exact .inl hax
     ·show tmeas _ _ _ < tmeas _ _ _
      rw [tmeas_eq ht, HME.out]
      have := HU.out
      simp only [List.length_cons]
      omega
    case body =>
     intro lr pre y suf W hnb hsz hI
     have hym := (Im.nbs_mem g HT4.out.2.2.1 (k := y.1) (n := y.2)).1 (by rw [hnb]; simp)
     obtain ⟨hy1, hy2, hy3⟩ := hym
     have HI := Lib.hid hI
     obtain ⟨h1, h2, h3, h4, b', off', cw', wl', hd, ht, hDj, hl4, hb4⟩ := hI
     obtain ⟨t1, t2, t3, t4, t5, t6, t7⟩ := HT4.out
     have hyn : y.1 < n := by omega
     have hyv := t5 y.1 hy1
     have k5 := cell_at ht.k5 (i := 0) (v := .slice (some ⟨og, 0, none⟩) n n) rfl
     have eo : W.cell? ⟨og, y.1, none⟩ = some (.int .i64 (Im.at0 out1 y.1)) := by
      refine cell_at ht.ko ?_
      simp [encI, Im.at0, List.getD_eq_getElem?_getD, t4, hyn]
     have HY := Lib.hid (⟨hy1, hy2, hy3⟩ : _ ∧ _ ∧ _)
     by_cases hdy : 0 ≤ Im.at0 out1 y.1
     ·have hdd : decide (0 ≤ Im.at0 out1 y.1) = true := by simpa using hdy
      have HF := Lib.hid (HI.out.step g t3 hy1 t1 hdy)
      clear hdy h1 h2 h3 h4 ht hDj hb4 hl4 t1 t2 t5 t6 t7 hy2 hy3 hyv hd hnb hsz
      gi_wp2
      exact ⟨KeepsFrom.refl _ _, HF.out⟩
     ·have hdd : decide (0 ≤ Im.at0 out1 y.1) = false := by simpa using hdy
      have hk7 : W.heap[wr.heap.size]? = some (.cells #[.int .i64 (x.1 : Nat), .int .i64 x.2] 214 (0, 0)) := by rw [← hb7e]; exact h2
      have e70 : W.cell? ⟨wr.heap.size, 0, none⟩ = some (.int .i64 (x.1 : Nat)) := cell_at hk7 rfl
      have e71 : W.cell? ⟨wr.heap.size, 1, none⟩ = some (.int .i64 x.2) := cell_at hk7 rfl
      have k6 := cell_at ht.k6 (i := 0) (v := .slice (some ⟨b', off', none⟩) wl'.length cw') rfl
      have f6 : W.frozen? ⟨b6, 0, none⟩ = false := free_at ht.k6
      have lt5 := cell_lt k5
      have lt6 := cell_lt k6
      have lt7 := cell_lt e70
      have ltb := ht.wt.lt
      have hcy := Im.cost_le g t3 hy1
      rw [← hy2] at hcy hy3
      have hwy : IntKind.i64.wrap (x.2 + y.2) = x.2 + y.2 := wrapI (by omega)
      obtain ⟨z, hz⟩ : ∃ z : Nat × Int, z = (y.1, x.2 + y.2) := ⟨_, rfl⟩
      obtain ⟨W5, hW5⟩ : ∃ V, V = W.alloc (Obj.cells #[.int .i64 (y.1 : Nat), .int .i64 (x.2 + y.2)] 214) := ⟨_, rfl⟩
      have hb5' : Below W.heap.size W W5 := by rw [hW5]; exact (Below.refl _ _).alloc (Nat.le_refl _) _
      have hl1000 : wl'.length ≤ 1000000 := by
       have hn8 := Im.nbs_len c r l x.1
       rw [hnb] at hn8
       simp at hn8
       omega
      have H155 := Lib.hid (c155 (some ⟨b', off', none⟩) wl'.length cw' wl' z W5 hl1000 (ht.wt.below hb5').rd hDj.srt)
      rw [hz] at H155
      simp only at H155
      have hpl := Im.place_le wl' z
      obtain ⟨P, hP⟩ : ∃ P, P = Im.place wl' z := ⟨_, rfl⟩
      rw [← hz, ← hP] at H155
      rw [← hP] at hpl
      have kz : W5.heap[W.heap.size]? = some (.cells #[.int .i64 (y.1 : Nat), .int .i64 (x.2 + y.2)] 214 (0, 0)) := by rw [hW5]; exact heap_new rfl
      have htI := Lib.hid ht
      have HDJ := Lib.hid hDj
      have HPQ := Lib.hid hP
      have HZ := Lib.hid hz
      have HL4 := Lib.hid hl4
      have HB4 := Lib.hid hb4
      clear hdy h1 h2 h3 h4 hDj hb4 hl4 t1 t2 t5 t6 t7 hyv hnb hsz hP hz hy2
      gi_wp2_with fail
      rw [← hW5]
      refine ⟨trivial, ?_⟩
      refine (CallsIn.inRound lr (callsIn_wide.2 H155.out)).mono ?_
      rintro e W6 ⟨bb, rfl, hb6⟩
      have hb65 : Below W.heap.size W W6 := hb5'.call hb6 rfl
      have kz6 := blkb kz hb6
      have k66 := blkb htI.out.k6 hb65
      have k6 : W6.cell? ⟨b6, 0, none⟩ = some (.slice (some ⟨b', off', none⟩) wl'.length cw') := cell_at k66 rfl
      have z0 : W6.cell? ⟨W.heap.size, 0, none⟩ = some (.int .i64 (y.1 : Nat)) := cell_at kz6 rfl
      have z1 : W6.cell? ⟨W.heap.size, 1, none⟩ = some (.int .i64 (x.2 + y.2)) := cell_at kz6 rfl
      have lt6 := cell_lt k6
      have ltz := cell_lt z0
      obtain ⟨W7, hW7⟩ : ∃ V, V = W6.alloc (Obj.cells #[.int .i64 (y.1 : Nat), .int .i64 (x.2 + y.2)] 214) := ⟨_, rfl⟩
      have hb76 : Below W6.heap.size W6 W7 := by rw [hW7]; exact (Below.refl _ _).alloc (Nat.le_refl _) _
      have hb75 : Below W.heap.size W W7 := hb65.call hb76 rfl
      have kv7 : W7.heap[W6.heap.size]? = some (.cells #[.int .i64 (z.1 : Nat), .int .i64 z.2] 214 (0, 0)) := by rw [HZ.out, hW7]; exact heap_new rfl
      have hT7 := htI.out.below hb75
      have hs76 := hb65.size
      have H157 := Lib.hid (c157 w.heap.size b' off' wl'.length cw' P W6.heap.size wl' z W7 hT7.wt hl1000 hpl hT7.bel.size (by omega) kv7)
      have hput : Im.put wl' z = wl'.take P ++ z :: wl'.drop P := by unfold Im.put; rw [← HPQ.out]
      rw [← hput] at H157
      have HT7 := Lib.hid hT7
      have hb75' := Lib.hid hb75
      clear kz kz6 k66 hT7 hput kv7 hb76 hb75
      gi_wp2_with fail
      rw [← hW7]
      refine ⟨trivial, ?_⟩
      refine (CallsIn.inRound lr (callsIn_wide.2 H157.out)).mono ?_
      rintro e W8 ⟨b2, of2, c2, rfl, hwt8, hbel8, hkeep, hcase⟩
      have k68 : W8.heap[b6]? = some (.cells #[.slice (some ⟨b', off', none⟩) wl'.length cw'] 215 (0, 0)) := (hkeep _ (Array.getElem?_eq_some_iff.1 HT7.out.k6).1 (Ne.symm HT7.out.d1.2.2.1)).trans HT7.out.k6
      have k6 : W8.cell? ⟨b6, 0, none⟩ = some (.slice (some ⟨b', off', none⟩) wl'.length cw') := cell_at k68 rfl
      have f6 : W8.frozen? ⟨b6, 0, none⟩ = false := free_at k68
      have lt6 := cell_lt k6
      have hF : Hid (NbPost W4.heap.size (fun W => TI w Ds gb b5 b6 og b7 (pg + 1) pg c r A n cap l s x out1 wl.length (pre ++ [y]) W) (fun x => False) Code.ret W Exit.normal { tmps := #[], defers := [] } (W8.setCell ⟨b6, 0, none⟩ (.slice (some ⟨b2, of2, none⟩) (Im.put wl' z).length c2))) := Lib.hid (by
       have h7 := hb75'.out
       have hs7 := h7.size
       have same : ∀ (k : Nat) (o : Obj), W.heap[k]? = some o → k ≠ b' → k ≠ b6 → (W8.setCell ⟨b6, 0, none⟩ (.slice (some ⟨b2, of2, none⟩) (Im.put wl' z).length c2)).heap[k]? = some o := fun k o hk hk1 hk2 =>
        (set_far _ hk2).trans ((hkeep k (by have := (Array.getElem?_eq_some_iff.1 hk).1; omega) hk1).trans (blkb hk h7))
       have noncell : ∀ (k : Nat) (o : Obj), W.heap[k]? = some o → o.isCells = false → k ≠ b' ∧ k ≠ b6 := fun k o hk hc => by
        obtain ⟨cs, hkb, _⟩ := htI.out.wt.blk
        refine ⟨fun e => ?_, fun e => ?_⟩
        ·subst e; rw [hkb] at hk; cases hk; cases hc
        ·subst e; have := htI.out.k6; rw [hk] at this; cases this; cases hc
       obtain ⟨i1, i2, i3, i4, _⟩ := HI.out
       obtain ⟨t1, t2, t3, t4, t5, t6, t7⟩ := HT4.out
       obtain ⟨y1, y2, y3⟩ := HY.out
       have p7 := (Array.getElem?_eq_some_iff.1 i2).1
       have pi1 := (Array.getElem?_eq_some_iff.1 i3).1
       have pg1 := (Array.getElem?_eq_some_iff.1 i4).1
       obtain ⟨hd1, hd2, hd3⟩ := hd
       have hx8 : 0 ≤ Im.at0 out1 x.1 := by rw [t2]; exact hx2
       have hpush := HDJ.out.push g t3 y1 t1 hx8 y3
       rw [t2, ← y2, ← HZ.out] at hpush
       have cellne : ∀ {k : Nat} {cs : Array Value} {t : TypeId} {f : Nat × Nat}, W.heap[k]? = some (.cells cs t f) → t ≠ 215 → k ≠ b6 := fun {k cs t f} hk ht e => by
        subst e; have := htI.out.k6; rw [hk] at this; cases this; exact ht rfl
       refine ⟨⟨?_, fun k o _ hk hc => same k o hk (noncell k o hk hc).1 (noncell k o hk hc).2⟩, ⟨i1.keep (fun k o hk hc => same k o hk (noncell k o hk hc).1 (noncell k o hk hc).2), same _ _ i2 (Ne.symm hd1) (cellne i2 (by decide)), same _ _ i3 (Ne.symm hd2) (cellne i3 (by decide)), same _ _ i4 (Ne.symm hd3) (cellne i4 (by decide)), b2, of2, c2, Im.put wl' z, ?_, HT7.out.next (HT7.out.bel.trans hbel8) hkeep hwt8 hcase q2 ⟨Ne.symm hne3, Ne.symm hne2, hne1⟩, hpush.weak (fun a k _ _ _ he => ?_), ?_, fun e he => ?_⟩⟩
       ·have := hbel8.size
        simp [World.setCell]
        omega
       ·rcases hcase with rfl | hcase
        ·exact ⟨hd1, hd2, hd3⟩
        ·exact ⟨by omega, by omega, by omega⟩
       ·rcases he with he | ⟨e, he, hk⟩
        ·exact .inl (.inl he)
        ·rcases List.mem_append.1 he with he | he
         ·exact .inl (.inr ⟨e, he, hk⟩)
         ·obtain rfl := List.mem_singleton.1 he
          by_cases ha : a = x.1
          ·exact .inr ⟨ha, hk.symm⟩
          ·exact .inl (.inl ha)
       ·rw [Im.put_len, List.length_append]
        have := HL4.out
        simp only [List.length_cons, List.length_nil]
        omega
       ·rcases Im.put_mem.1 he with rfl | he
        ·rw [HZ.out]
         simp only
         have := HU.out
         omega
        ·exact HB4.out e he)
      clear hwt8 hbel8 hkeep hcase k68
      gi_wp2
      exact hF.out
end Go.Proofs.YtdimmlljjmmdbaaGreatDoor
namespace Go.Proofs.YtdimmlljjmmdbaaGreatDoor
open Go.RowKit Go.Shelf
set_option maxHeartbeats 8000000
set_option maxRecDepth 100000
attribute [local go_sem] Oper.semAt_some
/-- blocks of cells, the world behind them, marks, and a plain fact: what loops over functions keep -/
structure BI (w : World) (Ds : List Nat) (bs : List (Nat × Array Value × TypeId)) (P : Prop) (W : World) : Prop where
 mks : Marks w.heap.size Ds W
 blk : ∀ x ∈ bs, W.heap[x.1]? = some (.cells x.2.1 x.2.2 (0, 0))
 bel : Below w.heap.size w W
 prop : P
theorem BI.own {w : World} {Ds : List Nat} {bs : List (Nat × Array Value × TypeId)} {P : Prop} {B : Nat} (hB : w.heap.size ≤ B) (hD : ∀ D ∈ Ds, D < B) : OwnFrom B (fun (_ : Unit) => BI w Ds bs P) := by
 intro _ W W' row h hg hr
 have key : ∀ {k : Nat} {cs : Array Value} {t : TypeId} {f : Nat × Nat}, W.heap[k]? = some (.cells cs t f) → W'.heap[k]? = some (.cells cs t f) := fun {k cs t f} hk => by
  refine (hg.block k (Array.getElem?_eq_some_iff.1 hk).1 (fun e => ?_)).trans hk
  obtain ⟨_, o, ho, hc⟩ := hr k e.symm
  rw [hk] at ho
  cases ho
  cases hc
 refine ⟨⟨h.mks.1, fun D hDs => ⟨(h.mks.2 D hDs).1, ?_⟩⟩, fun x hx => key (h.blk x hx), h.bel.grown hg h.bel.size (fun j hj => by have := (hr j hj).1; omega), h.prop⟩
 refine (hg.block D (h.mks.lt D hDs) (fun e => ?_)).trans (h.mks.2 D hDs).2
 have := (hr D e.symm).1
 have := hD D hDs
 omega
theorem BI.below {w W W' : World} {Ds : List Nat} {bs : List (Nat × Array Value × TypeId)} {P : Prop} (h : BI w Ds bs P W) (hb : Below W.heap.size W W') : BI w Ds bs P W' :=
 ⟨h.mks.below hb, fun x hx => blkb (h.blk x hx) hb, h.bel.call hb rfl |> fun q => q, h.prop⟩
theorem BI.imp {w W : World} {Ds : List Nat} {bs : List (Nat × Array Value × TypeId)} {P Q : Prop} (h : BI w Ds bs P W) (hq : P → Q) : BI w Ds bs Q W := ⟨h.mks, h.blk, h.bel, hq h.prop⟩
/-- a store into the one cell of the block b -/
theorem BI.set {w W : World} {Ds : List Nat} {bs bs' : List (Nat × Array Value × TypeId)} {P : Prop} (h : BI w Ds bs P W) {b : Nat} {cs : Array Value} {t : TypeId} (v : Value) (hb : w.heap.size ≤ b) (hk : W.heap[b]? = some (.cells cs t (0, 0)))
  (hbs : ∀ x ∈ bs', (x.1 = b ∧ x.2.1 = cs.setIfInBounds 0 v ∧ x.2.2 = t) ∨ (x.1 ≠ b ∧ x ∈ bs)) : BI w Ds bs' P (W.setCell ⟨b, 0, none⟩ v) := by
 refine ⟨h.mks.keep (fun k o hk1 hc => (set_far _ (fun e => by subst e; rw [hk] at hk1; cases hk1; cases hc)).trans hk1), fun x hx => ?_, h.bel.setCell (p := ⟨b, 0, none⟩) hb _, h.prop⟩
 rcases hbs x hx with ⟨h1, h2, h3⟩ | ⟨h1, h2⟩
 ·rw [h1, h2, h3]
  exact set_blk (i := 0) hk v
 ·exact (set_far _ h1).trans (h.blk x h2)
/-- what a store into the one cell of b keeps of what is no cells -/
theorem keepsF_set {B : Nat} {W : World} {b : Nat} {cs : Array Value} {t : TypeId} {f : Nat × Nat} (v : Value) (hk : W.heap[b]? = some (.cells cs t f)) : KeepsFrom B W (W.setCell ⟨b, 0, none⟩ v) :=
 ⟨by simp [World.setCell], fun k o _ hk1 hc => (set_far _ (fun e => by subst e; rw [hk] at hk1; cases hk1; cases hc)).trans hk1⟩
theorem keepsF_below {B : Nat} {W W' : World} (h : Below W.heap.size W W') : KeepsFrom B W W' := ⟨h.size, fun k o _ hk _ => blkb hk h⟩
end Go.Proofs.YtdimmlljjmmdbaaGreatDoor
namespace Go.Proofs.YtdimmlljjmmdbaaGreatDoor
open Go.RowKit Go.Shelf
set_option maxHeartbeats 8000000
set_option maxRecDepth 100000
attribute [local go_sem] Oper.semAt_some
/-- a cell of a list of integers, with its block -/
theorem RdI.cellA {w : World} {A : Option Addr} {n : Nat} {l : List Int} (h : RdI w A n l) (hn : 0 < n) : ∃ b off, A = some ⟨b, off, none⟩ ∧ ∀ W, Below w.heap.size w W → b < W.heap.size ∧ ∀ k, k < n → W.cell? ⟨b, off + k, none⟩ = some (.int .i64 (Im.at0 l k)) := by
 obtain ⟨b, off, rfl, hb⟩ := h.form hn
 exact ⟨b, off, rfl, fun W hW => ⟨Nat.lt_of_lt_of_le hb hW.size, fun k hk => (h.below hW).get hk⟩⟩
theorem c141 (c r : Nat) (A : Option Addr) (n cap : Nat) (l : List Int) (C : Option Addr) (capn : Nat) (ns : List Int) (most : Int) (i : Nat) (w : World) (g : Im.Gr c r l) (hc : c ≤ 16) (hr : r ≤ 16) (hi : i < n) (H : RdI w A n l) (G : RdI w C n ns) (hns : ∀ k, k < n → 0 ≤ Im.at0 ns k ∧ Im.at0 ns k ≤ 1000000) (hst : Steps w) :
  Calls Tryz.prog 141 #[.agg #[.int .i64 c, .int .i64 r, .slice A n cap], .slice C n capn, .int .i64 most, .int .i64 i] w fun en w' => en = .returned (.bool (Im.alia c l ns most i)) ∧ Below w.heap.size w w' := by
 have hln := H.len
 obtain ⟨T, hT⟩ : ∃ T : Nat × Int → Bool, T = fun e => Im.straight c i e.1 && decide (most < max (Im.at0 ns e.1 - Im.at0 ns i) (Im.at0 ns i - Im.at0 ns e.1)) := ⟨_, rfl⟩
 have HV : Hid (Im.alia c l ns most i = (Im.nbs c r l i).any T) := Lib.hid (by rw [hT]; exact Im.alia_nbs g (by omega))
 obtain ⟨V, hV⟩ : ∃ V, V = Im.alia c l ns most i := ⟨_, rfl⟩
 rw [← hV] at HV ⊢
 obtain ⟨nb, noff, rfl, HN⟩ := G.cellA (by omega)
 have h256 : c * r ≤ 256 := Nat.mul_le_mul hc hr
 have hn256 : n ≤ 256 := by rw [← hln, g.len]; exact h256
 have HNS := Lib.hid hns
 have HT := Lib.hid hT
 have HNN := Lib.hid HN
 have HAL : Hid (i < l.length) := Lib.hid (by omega)
 clear hns hT hV h256 HN G
 refine (callsIn_wide (n := 6)).1 ?_
 refine callsIn_of_wp_marks Tryz.func141 rfl trivial ?_ rfl
 refine wpIn_wide.2 ?_
 simp only [Tryz.ntmps141, List.size_toArray, List.length_cons, List.length_nil, Nat.reduceAdd, Nat.reduceSub, Array.replicate_succ, Array.replicate_zero, List.push_toArray, List.append_toArray, List.nil_append, List.cons_append]
 obtain ⟨w0, hw0⟩ : ∃ W, W = ((((w.alloc (Obj.cells #[.int .i64 c, .int .i64 r, .slice A n cap] 35)).alloc (Obj.cells #[.slice (some ⟨nb, noff, none⟩) n capn] 22)).alloc (Obj.cells #[.int .i64 most] 3)).alloc (Obj.cells #[.int .i64 i] 3)).alloc (Obj.cells #[.bool false] 4) := ⟨_, rfl⟩
 obtain ⟨gb, hgb⟩ : ∃ b, b = w.heap.size := ⟨_, rfl⟩
 have hg0 : w0.heap[gb]? = some (.cells #[.int .i64 c, .int .i64 r, .slice A n cap] 35 (0, 0)) := by rw [hw0]; exact heap_old (by simp; try omega) (heap_old (by simp; try omega) (heap_old (by simp; try omega) (heap_old (by simp; try omega) (heap_new (by omega)))))
 have hg1 : w0.heap[gb + 1]? = some (.cells #[.slice (some ⟨nb, noff, none⟩) n capn] 22 (0, 0)) := by rw [hw0]; exact heap_old (by simp; try omega) (heap_old (by simp; try omega) (heap_old (by simp; try omega) (heap_new (by simp; try omega))))
 have hg2 : w0.heap[gb + 1 + 1]? = some (.cells #[.int .i64 most] 3 (0, 0)) := by rw [hw0]; exact heap_old (by simp; try omega) (heap_old (by simp; try omega) (heap_new (by simp; try omega)))
 have hg3 : w0.heap[gb + 1 + 1 + 1]? = some (.cells #[.int .i64 i] 3 (0, 0)) := by rw [hw0]; exact heap_old (by simp; try omega) (heap_new (by simp; try omega))
 have hg4 : w0.heap[gb + 1 + 1 + 1 + 1]? = some (.cells #[.bool false] 4 (0, 0)) := by rw [hw0]; exact heap_new (by simp; try omega)
 have hB0 : Below w.heap.size w w0 := by rw [hw0]; exact ((((below2 _ _ _).alloc (by simp; try omega) _).alloc (by simp; try omega) _).alloc (by simp; try omega) _)
 go_wp2_with fail
 rw [← hw0, ← hgb]
 refine (c128 c r A n cap (i : Nat) w0).mono ?_
 rintro e w1 ⟨rfl, hw1⟩
 have hB1 : Below w0.heap.size w0 w1 := by rw [hw1]; exact below2 _ _ _
 obtain ⟨pg, hpg⟩ : ∃ p, p = w0.heap.size := ⟨_, rfl⟩
 have hpe : pg = gb + 1 + 1 + 1 + 1 + 1 := by rw [hpg, hw0]; simp; omega
 have KG : w1.heap[pg]? = some (.cells #[.int .i64 c, .int .i64 r, .slice A n cap] 35 (0, 0)) := by rw [hw1]; exact heap_old (by simp; omega) (heap_new hpg)
 have KI : w1.heap[pg + 1]? = some (.cells #[.int .i64 i] 3 (0, 0)) := by rw [hw1]; exact heap_new (by simp; omega)
 obtain ⟨bs, hbs⟩ : ∃ bs : Bool → List (Nat × Array Value × TypeId), bs = fun x => [(gb, #[.int .i64 c, .int .i64 r, .slice A n cap], 35), (gb + 1, #[.slice (some ⟨nb, noff, none⟩) n capn], 22), (gb + 1 + 1, #[.int .i64 most], 3), (gb + 1 + 1 + 1, #[.int .i64 i], 3), (gb + 1 + 1 + 1 + 1, #[.bool x], 4), (pg, #[.int .i64 c, .int .i64 r, .slice A n cap], 35), (pg + 1, #[.int .i64 (i : Nat)], 3)] := ⟨_, rfl⟩
 have I0 : BI w [] (bs false) (∀ e ∈ ([] : List (Nat × Int)), T e = false) w1 := by
  refine ⟨Marks.nil _ _, fun x hx => ?_, hB0.call hB1 rfl, fun e he => by cases he⟩
  rw [hbs] at hx
  simp only [List.mem_cons, List.not_mem_nil, or_false] at hx
  rcases hx with rfl | rfl | rfl | rfl | rfl | rfl | rfl
  ·exact blkb hg0 hB1
  ·exact blkb hg1 hB1
  ·exact blkb hg2 hB1
  ·exact blkb hg3 hB1
  ·exact blkb hg4 hB1
  ·exact KG
  ·exact KI
 have hsz := (hB0.call hB1 rfl).size
 rw [← hpg]
 have HRD := Lib.hid H
 have HST := Lib.hid hst
 have HBS := Lib.hid hbs
 have hgb2 := Lib.hid hgb
 have HPE := Lib.hid hpe
 have HBL := Lib.hid (hB0.call hB1 rfl)
 clear hw1 hw0 hpg hg0 hg1 hg2 hg3 hg4 hB0 hB1 KG KI H hst hbs hgb hpe 
 go_wp2
 refine (wpIn_wide (n := 6)).1 ?_
 refine wpIn_nbs (n := 6) (by omega) (pi := pg + 1) (pg := pg) g hc hr (A := A) (N := n) (cap := cap) (i := i) HAL.out rfl rfl .ret (fun pre W => BI w [] (bs false) (∀ e ∈ pre, T e = false) W) (fun W => BI w [] (bs true) (V = true) W)
  (fun pre => BI.own hsz (fun _ h => by cases h)) (BI.own hsz (fun _ h => by cases h))
  (fun pre W h => ⟨h.blk (pg + 1, _, _) (by rw [HBS.out]; simp), h.blk (pg, _, _) (by rw [HBS.out]; simp), HRD.out.below h.bel, HST.out.below h.bel⟩) I0 ?a1 ?assign ?body ?done ?stop
 case assign =>
  intro lr y W K hK
  have HK := Lib.hid hK
  clear hK
  gi_wp2
  exact HK.out
 case stop =>
  intro D W hD hX hK
  have k2 : W.heap[gb + 1 + 1 + 1 + 1]? = some (.cells #[.bool true] 4 (0, 0)) := hX.blk (gb + 1 + 1 + 1 + 1, _, _) (by rw [HBS.out]; simp)
  have HX := Lib.hid hX
  clear hX
  gi_wp2
  refine leaves_marks [D] W W ((Marks.nil _ w).push (Marks.nil _ W) (Nat.le_refl _) (Nat.le_trans hsz hD) hK) (Aft.refl _ _) rfl (fun w' ha => ?_)
  have e2 : w'.cell? ⟨gb + 1 + 1 + 1 + 1, 0, none⟩ = some (.bool true) := cell_at (ha.1 _ _ k2 rfl) rfl
  refine ⟨.bool true, by simp [results, Tryz.results141, go_sem, e2], ?_⟩
  exact ⟨by rw [HX.out.prop], ha.2 w HX.out.bel.size HX.out.bel⟩
 case done =>
  intro D W hD hI hK
  have hV0 : V = false := by
   rw [HV.out, List.any_eq_false]
   intro e he
   simp [hI.prop e he]
  have k2 : W.heap[gb + 1 + 1 + 1 + 1]? = some (.cells #[.bool false] 4 (0, 0)) := hI.blk (gb + 1 + 1 + 1 + 1, _, _) (by rw [HBS.out]; simp)
  have HI := Lib.hid hI
  have f2 := free_at k2 (i := 0)
  have c2 : W.cell? ⟨gb + 1 + 1 + 1 + 1, 0, none⟩ = some (.bool false) := cell_at k2 rfl
  have l2 := cell_lt c2
  have hM : Marks w.heap.size [D] W := (Marks.nil _ w).push (Marks.nil _ W) (Nat.le_refl _) (Nat.le_trans hsz hD) hK
  have HM := Lib.hid hM
  clear hI hM hK
  go_wp2
  have hbn : w.heap.size ≤ gb := by have := hgb2.out; omega
  have hi3 := HI.out.set (b := gb + 1 + 1 + 1 + 1) (bs' := bs false) (.bool false) (by omega) k2 (fun x hx => by
   rw [HBS.out] at hx ⊢
   simp only [List.mem_cons, List.not_mem_nil, or_false] at hx
   have := HPE.out
   rcases hx with rfl | rfl | rfl | rfl | rfl | rfl | rfl <;> first | exact .inl ⟨rfl, rfl, rfl⟩ | exact .inr ⟨by show _ ≠ _; omega, by simp⟩)
  have hM2 : Marks w.heap.size [D] (W.setCell ⟨gb + 1 + 1 + 1 + 1, 0, none⟩ (.bool false)) := HM.out.keep (fun k o hk hcc =>
   (set_far _ (fun e => by have e2 : k = gb + 1 + 1 + 1 + 1 := e; rw [e2, k2] at hk; cases hk; cases hcc)).trans hk)
  obtain ⟨W2, hW2⟩ : ∃ V, V = W.setCell ⟨gb + 1 + 1 + 1 + 1, 0, none⟩ (.bool false) := ⟨_, rfl⟩
  rw [← hW2] at hi3 hM2 ⊢
  refine leaves_marks [D] W2 W2 hM2 (Aft.refl _ _) rfl (fun w' ha => ?_)
  have e2 : w'.cell? ⟨gb + 1 + 1 + 1 + 1, 0, none⟩ = some (.bool false) := cell_at (ha.1 _ _ (hi3.blk (gb + 1 + 1 + 1 + 1, #[.bool false], 4) (by rw [HBS.out]; simp)) rfl) rfl
  refine ⟨.bool false, by simp [results, Tryz.results141, go_sem, e2], ?_⟩
  exact ⟨by rw [hV0], ha.2 w hi3.bel.size hi3.bel⟩
 case body =>
  intro lr pre y suf W hnb hsz2 hI
  have hbn : w.heap.size ≤ gb := by have := hgb2.out; omega
  have hymem : y ∈ Im.nbs c r l i := by rw [hnb]; simp
  obtain ⟨hy1, hy2, hy3⟩ := (Im.nbs_mem g HAL.out (k := y.1) (n := y.2)).1 hymem
  have hcp := g.c1
  have hcz : ¬ c = 0 := by omega
  have hcz2 : ((c : Int) == 0) = false := by simp; omega
  have hyn : y.1 < n := by omega
  obtain ⟨hnb1, hnc⟩ := HNN.out W hI.bel
  have ny := hnc y.1 hyn
  have ni := hnc i hi
  obtain ⟨vy1, vy2⟩ := HNS.out y.1 hyn
  obtain ⟨vi1, vi2⟩ := HNS.out i hi
  have hm1 : (y.1 : Int).tmod (c : Int) = ((y.1 % c : Nat) : Int) := Int.ofNat_tmod _ _
  have hm2 : (i : Int).tmod (c : Int) = ((i % c : Nat) : Int) := Int.ofNat_tmod _ _
  have hq1 : (y.1 : Int).tdiv (c : Int) = ((y.1 / c : Nat) : Int) := Int.ofNat_tdiv _ _
  have hq2 : (i : Int).tdiv (c : Int) = ((i / c : Nat) : Int) := Int.ofNat_tdiv _ _
  have hw1 : IntKind.i64.wrap ((y.1 / c : Nat) : Int) = ((y.1 / c : Nat) : Int) := wrapN (Nat.le_trans (Nat.div_le_self _ c) (by omega))
  have hw2 : IntKind.i64.wrap ((i / c : Nat) : Int) = ((i / c : Nat) : Int) := wrapN (Nat.le_trans (Nat.div_le_self i c) (by omega))
  have hTy : T y = (decide (i % c = y.1 % c ∨ i / c = y.1 / c) && decide (most < max (Im.at0 ns y.1 - Im.at0 ns i) (Im.at0 ns i - Im.at0 ns y.1))) := by rw [HT.out]; rfl
  generalize y.1 % c = ma at hm1 hTy
  generalize i % c = mb at hm2 hTy
  generalize y.1 / c = qa at hq1 hw1 hTy
  generalize i / c = qb at hq2 hw2 hTy
  generalize Im.at0 ns y.1 = xa at ny vy1 vy2 hTy
  generalize Im.at0 ns i = xb at ni vi1 vi2 hTy
  have k1 : W.heap[gb + 1]? = some (.cells #[.slice (some ⟨nb, noff, none⟩) n capn] 22 (0, 0)) := hI.blk (gb + 1, _, _) (by rw [HBS.out]; simp)
  have k2 : W.heap[gb + 1 + 1]? = some (.cells #[.int .i64 most] 3 (0, 0)) := hI.blk (gb + 1 + 1, _, _) (by rw [HBS.out]; simp)
  have k3 : W.heap[gb + 1 + 1 + 1]? = some (.cells #[.int .i64 i] 3 (0, 0)) := hI.blk (gb + 1 + 1 + 1, _, _) (by rw [HBS.out]; simp)
  have k4 : W.heap[gb + 1 + 1 + 1 + 1]? = some (.cells #[.bool false] 4 (0, 0)) := hI.blk (gb + 1 + 1 + 1 + 1, _, _) (by rw [HBS.out]; simp)
  have kg : W.heap[pg]? = some (.cells #[.int .i64 c, .int .i64 r, .slice A n cap] 35 (0, 0)) := hI.blk (pg, _, _) (by rw [HBS.out]; simp)
  have c1 : W.cell? ⟨gb + 1, 0, none⟩ = some (.slice (some ⟨nb, noff, none⟩) n capn) := cell_at k1 rfl
  have c2 : W.cell? ⟨gb + 1 + 1, 0, none⟩ = some (.int .i64 most) := cell_at k2 rfl
  have c3 : W.cell? ⟨gb + 1 + 1 + 1, 0, none⟩ = some (.int .i64 i) := cell_at k3 rfl
  have c4 : W.cell? ⟨gb + 1 + 1 + 1 + 1, 0, none⟩ = some (.bool false) := cell_at k4 rfl
  have f4 := free_at k4 (i := 0)
  have k0 : W.heap[gb]? = some (.cells #[.int .i64 c, .int .i64 r, .slice A n cap] 35 (0, 0)) := hI.blk (gb, _, _) (by rw [HBS.out]; simp)
  have c0 : W.cell? ⟨gb, 0, none⟩ = some (.int .i64 c) := cell_at k0 rfl
  have l0 := cell_lt c0
  have l1 := cell_lt c1
  have l2 := cell_lt c2
  have l3 := cell_lt c3
  have l4 := cell_lt c4
  have HI := Lib.hid hI
  have HYM := Lib.hid hymem
  have HBN := Lib.hid hbn
  have hnx : Hid (∀ W', Below W.heap.size W W' → T y = false → ∀ a, NbPost w1.heap.size (fun W => BI w [] (bs false) (∀ e ∈ pre ++ [y], T e = false) W) (fun W => BI w [] (bs true) (V = true) W) .ret W .normal a W') := Lib.hid (fun W' hb hf a => ⟨keepsF_below hb, (HI.out.below hb).imp (fun hp e he => by
   rcases List.mem_append.1 he with he | he
   ·exact hp e he
   ·obtain rfl := List.mem_singleton.1 he
    exact hf)⟩)
  have hst2 : Hid (∀ W', Below W.heap.size W W' → T y = true → ∀ a, NbPost w1.heap.size (fun W => BI w [] (bs false) (∀ e ∈ pre ++ [y], T e = false) W) (fun W => BI w [] (bs true) (V = true) W) .ret W .ret a (W'.setCell ⟨gb + 1 + 1 + 1 + 1, 0, none⟩ (.bool true))) := Lib.hid (fun W' hb ht a => by
   have h2 := HI.out.below hb
   have kk : W'.heap[gb + 1 + 1 + 1 + 1]? = some (.cells #[.bool false] 4 (0, 0)) := h2.blk (gb + 1 + 1 + 1 + 1, _, _) (by rw [HBS.out]; simp)
   refine ⟨rfl, (keepsF_below hb).trans (keepsF_set _ kk), ?_⟩
   have hbn := HBN.out
   have h3 := h2.set (b := gb + 1 + 1 + 1 + 1) (bs' := bs true) (.bool true) (by omega) kk (fun x hx => by
    rw [HBS.out] at hx ⊢
    simp only [List.mem_cons, List.not_mem_nil, or_false] at hx
    have := HPE.out
    rcases hx with rfl | rfl | rfl | rfl | rfl | rfl | rfl <;> first | exact .inl ⟨rfl, rfl, rfl⟩ | exact .inr ⟨by show _ ≠ _; omega, by simp⟩)
   exact h3.imp (fun _ => by rw [HV.out, List.any_eq_true]; exact ⟨y, HYM.out, ht⟩))
  have HTY := Lib.hid hTy
  have dwx : IntKind.i64.wrap (xa - xb) = xa - xb := wrapI (by omega)
  have dwn : IntKind.i64.wrap (-(xa - xb)) = -(xa - xb) := wrapI (by omega)
  clear k0 k1 k2 k3 k4 kg hI hymem hnb hsz2 hy1 hy2 hy3 hTy hnc vy1 vy2 vi1 vi2 hbn
  by_cases hs1 : ma = mb
  ·have t1 : ((ma : Int) == (mb : Int)) = true := by simp; omega
   have HSS : Hid (mb = ma ∨ qb = qa) := Lib.hid (.inl hs1.symm)
   clear hs1
   gi_wp2
   refine wpIn_region_splitG 20 (by kernel_rfl) (by kernel_rfl) (by kernel_rfl) (fun ⟨_, _, h⟩ => h) ?_
   simp only [List.take_succ_cons, List.take_zero, List.drop_succ_cons, List.drop_zero]
   repeat (go_big_quiet_step ((first | fail)))
   refine wpQuiet_nil (gw_out ?_)
   intro W3 hb3
   go_wp2
   have c0 := (hb3.cell (p := ⟨gb, 0, none⟩) l0).trans c0
   have c1 := (hb3.cell (p := ⟨gb + 1, 0, none⟩) l1).trans c1
   have c2 := (hb3.cell (p := ⟨gb + 1 + 1, 0, none⟩) l2).trans c2
   have c3 := (hb3.cell (p := ⟨gb + 1 + 1 + 1, 0, none⟩) l3).trans c3
   have c4 := (hb3.cell (p := ⟨gb + 1 + 1 + 1 + 1, 0, none⟩) l4).trans c4
   have f4 := (hb3.frozen (p := ⟨gb + 1 + 1 + 1 + 1, 0, none⟩) l4).trans f4
   have ny := (hb3.cell (p := ⟨nb, _, none⟩) hnb1).trans ny
   have ni := (hb3.cell (p := ⟨nb, _, none⟩) hnb1).trans ni
   have l0 := cell_lt c0
   have l1 := cell_lt c1
   have l2 := cell_lt c2
   have l3 := cell_lt c3
   have l4 := cell_lt c4
   have hnb1 := cell_lt ny
   gi_wp2
   refine wpIn_region_splitG 9 (by kernel_rfl) (by kernel_rfl) (by kernel_rfl) (fun ⟨_, _, h⟩ => h) ?_
   simp only [List.take_succ_cons, List.take_zero, List.drop_succ_cons, List.drop_zero]
   repeat (go_big_quiet_step ((first | fail)))
   refine wpQuiet_nil (gw_out ?_)
   intro W4 hb4
   go_wp2
   have c0 := (hb4.cell (p := ⟨gb, 0, none⟩) l0).trans c0
   have c1 := (hb4.cell (p := ⟨gb + 1, 0, none⟩) l1).trans c1
   have c2 := (hb4.cell (p := ⟨gb + 1 + 1, 0, none⟩) l2).trans c2
   have c3 := (hb4.cell (p := ⟨gb + 1 + 1 + 1, 0, none⟩) l3).trans c3
   have c4 := (hb4.cell (p := ⟨gb + 1 + 1 + 1 + 1, 0, none⟩) l4).trans c4
   have f4 := (hb4.frozen (p := ⟨gb + 1 + 1 + 1 + 1, 0, none⟩) l4).trans f4
   have ny := (hb4.cell (p := ⟨nb, _, none⟩) hnb1).trans ny
   have ni := (hb4.cell (p := ⟨nb, _, none⟩) hnb1).trans ni
   have l0 := cell_lt c0
   have l1 := cell_lt c1
   have l2 := cell_lt c2
   have l3 := cell_lt c3
   have l4 := cell_lt c4
   have hnb1 := cell_lt ny
   have hbb : Below W.heap.size W W4 := hb3.call hb4 rfl
   clear hb3 hb4
   by_cases hgt : most < max (xa - xb) (xb - xa)
   ·have hTt := Lib.hid (show T y = true by rw [HTY.out]; simp [HSS.out, hgt])
    have tg : decide (most < max (xa - xb) (-(xa - xb))) = true := by simp; omega
    clear hgt
    gi_wp2
    exact hst2.out W4 hbb hTt.out _
   ·have hTf := Lib.hid (show T y = false by rw [HTY.out]; simp [hgt])
    have tg : decide (most < max (xa - xb) (-(xa - xb))) = false := by simp; omega
    clear hgt
    gi_wp2
    exact hnx.out W4 hbb hTf.out _
  ·have t1 : ((ma : Int) == (mb : Int)) = false := by simp; omega
   by_cases hs2 : qa = qb
   ·have t2 : ((qa : Int) == (qb : Int)) = true := by simp; omega
    have HSS : Hid (mb = ma ∨ qb = qa) := Lib.hid (.inr hs2.symm)
    clear hs1 hs2
    gi_wp2
    refine wpIn_region_splitG 20 (by kernel_rfl) (by kernel_rfl) (by kernel_rfl) (fun ⟨_, _, h⟩ => h) ?_
    simp only [List.take_succ_cons, List.take_zero, List.drop_succ_cons, List.drop_zero]
    repeat (go_big_quiet_step ((first | fail)))
    refine wpQuiet_nil (gw_out ?_)
    intro W3 hb3
    go_wp2
    have c0 := (hb3.cell (p := ⟨gb, 0, none⟩) l0).trans c0
    have c1 := (hb3.cell (p := ⟨gb + 1, 0, none⟩) l1).trans c1
    have c2 := (hb3.cell (p := ⟨gb + 1 + 1, 0, none⟩) l2).trans c2
    have c3 := (hb3.cell (p := ⟨gb + 1 + 1 + 1, 0, none⟩) l3).trans c3
    have c4 := (hb3.cell (p := ⟨gb + 1 + 1 + 1 + 1, 0, none⟩) l4).trans c4
    have f4 := (hb3.frozen (p := ⟨gb + 1 + 1 + 1 + 1, 0, none⟩) l4).trans f4
    have ny := (hb3.cell (p := ⟨nb, _, none⟩) hnb1).trans ny
    have ni := (hb3.cell (p := ⟨nb, _, none⟩) hnb1).trans ni
    have l0 := cell_lt c0
    have l1 := cell_lt c1
    have l2 := cell_lt c2
    have l3 := cell_lt c3
    have l4 := cell_lt c4
    have hnb1 := cell_lt ny
    gi_wp2
    refine wpIn_region_splitG 9 (by kernel_rfl) (by kernel_rfl) (by kernel_rfl) (fun ⟨_, _, h⟩ => h) ?_
    simp only [List.take_succ_cons, List.take_zero, List.drop_succ_cons, List.drop_zero]
    repeat (go_big_quiet_step ((first | fail)))
    refine wpQuiet_nil (gw_out ?_)
    intro W4 hb4
    go_wp2
    have c0 := (hb4.cell (p := ⟨gb, 0, none⟩) l0).trans c0
    have c1 := (hb4.cell (p := ⟨gb + 1, 0, none⟩) l1).trans c1
    have c2 := (hb4.cell (p := ⟨gb + 1 + 1, 0, none⟩) l2).trans c2
    have c3 := (hb4.cell (p := ⟨gb + 1 + 1 + 1, 0, none⟩) l3).trans c3
    have c4 := (hb4.cell (p := ⟨gb + 1 + 1 + 1 + 1, 0, none⟩) l4).trans c4
    have f4 := (hb4.frozen (p := ⟨gb + 1 + 1 + 1 + 1, 0, none⟩) l4).trans f4
    have ny := (hb4.cell (p := ⟨nb, _, none⟩) hnb1).trans ny
    have ni := (hb4.cell (p := ⟨nb, _, none⟩) hnb1).trans ni
    have l0 := cell_lt c0
    have l1 := cell_lt c1
    have l2 := cell_lt c2
    have l3 := cell_lt c3
    have l4 := cell_lt c4
    have hnb1 := cell_lt ny
    have hbb : Below W.heap.size W W4 := hb3.call hb4 rfl
    clear hb3 hb4
    by_cases hgt : most < max (xa - xb) (xb - xa)
    ·have hTt := Lib.hid (show T y = true by rw [HTY.out]; simp [HSS.out, hgt])
     have tg : decide (most < max (xa - xb) (-(xa - xb))) = true := by simp; omega
     clear hgt
     gi_wp2
     exact hst2.out W4 hbb hTt.out _
    ·have hTf := Lib.hid (show T y = false by rw [HTY.out]; simp [hgt])
     have tg : decide (most < max (xa - xb) (-(xa - xb))) = false := by simp; omega
     clear hgt
     gi_wp2
     exact hnx.out W4 hbb hTf.out _
   ·have t2 : ((qa : Int) == (qb : Int)) = false := by simp; omega
    have hTf := Lib.hid (show T y = false by
     rw [HTY.out]
     have : ¬ (mb = ma ∨ qb = qa) := by omega
     simp [this])
    clear hs1 hs2
    gi_wp2
    refine wpIn_region_splitG 20 (by kernel_rfl) (by kernel_rfl) (by kernel_rfl) (fun ⟨_, _, h⟩ => h) ?_
    simp only [List.take_succ_cons, List.take_zero, List.drop_succ_cons, List.drop_zero]
    repeat (go_big_quiet_step ((first | fail)))
    refine wpQuiet_nil (gw_out ?_)
    intro W3 hb3
    go_wp2
    have c0 := (hb3.cell (p := ⟨gb, 0, none⟩) l0).trans c0
    have c1 := (hb3.cell (p := ⟨gb + 1, 0, none⟩) l1).trans c1
    have c2 := (hb3.cell (p := ⟨gb + 1 + 1, 0, none⟩) l2).trans c2
    have c3 := (hb3.cell (p := ⟨gb + 1 + 1 + 1, 0, none⟩) l3).trans c3
    have c4 := (hb3.cell (p := ⟨gb + 1 + 1 + 1 + 1, 0, none⟩) l4).trans c4
    have f4 := (hb3.frozen (p := ⟨gb + 1 + 1 + 1 + 1, 0, none⟩) l4).trans f4
    have ny := (hb3.cell (p := ⟨nb, _, none⟩) hnb1).trans ny
    have ni := (hb3.cell (p := ⟨nb, _, none⟩) hnb1).trans ni
    have l0 := cell_lt c0
    have l1 := cell_lt c1
    have l2 := cell_lt c2
    have l3 := cell_lt c3
    have l4 := cell_lt c4
    have hnb1 := cell_lt ny
    gi_wp2
    refine wpIn_region_splitG 9 (by kernel_rfl) (by kernel_rfl) (by kernel_rfl) (fun ⟨_, _, h⟩ => h) ?_
    simp only [List.take_succ_cons, List.take_zero, List.drop_succ_cons, List.drop_zero]
    repeat (go_big_quiet_step ((first | fail)))
    refine wpQuiet_nil (gw_out ?_)
    intro W4 hb4
    go_wp2
    have c0 := (hb4.cell (p := ⟨gb, 0, none⟩) l0).trans c0
    have c1 := (hb4.cell (p := ⟨gb + 1, 0, none⟩) l1).trans c1
    have c2 := (hb4.cell (p := ⟨gb + 1 + 1, 0, none⟩) l2).trans c2
    have c3 := (hb4.cell (p := ⟨gb + 1 + 1 + 1, 0, none⟩) l3).trans c3
    have c4 := (hb4.cell (p := ⟨gb + 1 + 1 + 1 + 1, 0, none⟩) l4).trans c4
    have f4 := (hb4.frozen (p := ⟨gb + 1 + 1 + 1 + 1, 0, none⟩) l4).trans f4
    have ny := (hb4.cell (p := ⟨nb, _, none⟩) hnb1).trans ny
    have ni := (hb4.cell (p := ⟨nb, _, none⟩) hnb1).trans ni
    have l0 := cell_lt c0
    have l1 := cell_lt c1
    have l2 := cell_lt c2
    have l3 := cell_lt c3
    have l4 := cell_lt c4
    have hnb1 := cell_lt ny
    have hbb : Below W.heap.size W W4 := hb3.call hb4 rfl
    clear hb3 hb4
    gi_wp2
    exact hnx.out W4 hbb hTf.out _
end Go.Proofs.YtdimmlljjmmdbaaGreatDoor
namespace Go.Proofs.YtdimmlljjmmdbaaGreatDoor
open Go.RowKit Go.Shelf
set_option maxHeartbeats 8000000
set_option maxRecDepth 100000
attribute [local go_sem] Oper.semAt_some
theorem feas_nbs {c r : Nat} {l u : List Int} (g : Im.Gr c r l) : (∀ i, i < l.length → ∀ e ∈ Im.nbs c r l i, Im.at0 u i - Im.at0 u e.1 ≤ e.2) ↔ Im.Feas c l u := by
 constructor
 ·intro h a b ha hb hc
  have := h b hb (a, Im.cost c l b a) ((Im.nbs_mem g hb).2 ⟨ha, rfl, by rw [Im.cost_comm]; exact hc⟩)
  simp only at this
  rw [Im.cost_comm c l b a] at this
  omega
 ·rintro h i hi ⟨k, m⟩ he
  obtain ⟨h1, h2, h3⟩ := (Im.nbs_mem g hi).1 he
  have := h k i h1 hi (by rw [Im.cost_comm]; exact h3)
  rw [Im.cost_comm] at this
  simp only
  omega
theorem c132 (c r : Nat) (A : Option Addr) (n cap : Nat) (l : List Int) (C : Option Addr) (capu : Nat) (u : List Int) (w : World) (g : Im.Gr c r l) (hc : c ≤ 16) (hr : r ≤ 16) (H : RdI w A n l) (U : RdI w C n u) (hu : ∀ k, k < n → -1000000000 ≤ Im.at0 u k ∧ Im.at0 u k ≤ 1000000000) (hst : Steps w) :
  Calls Tryz.prog 132 #[.agg #[.int .i64 c, .int .i64 r, .slice A n cap], .slice C n capu] w fun en w' => ∃ b, en = .returned (.bool b) ∧ (b = true ↔ Im.Feas c l u) ∧ Below w.heap.size w w' := by
 have hln := H.len
 have hc1 := g.c1
 have hr1 := g.r1
 have hn0 : 0 < n := by rw [← hln, g.len]; exact Nat.mul_pos hc1 hr1
 obtain ⟨nb, noff, rfl, HN⟩ := U.cellA hn0
 have h256 : c * r ≤ 256 := Nat.mul_le_mul hc hr
 have hn256 : n ≤ 256 := by rw [← hln, g.len]; exact h256
 have HNS := Lib.hid hu
 have HNN := Lib.hid HN
 have HFS := Lib.hid (feas_nbs (u := u) g)
 refine (callsIn_wide (n := 6)).1 ?_
 refine callsIn_of_wp_marks Tryz.func132 rfl trivial ?_ rfl
 refine wpIn_wide.2 ?_
 simp only [Tryz.ntmps132, List.size_toArray, List.length_cons, List.length_nil, Nat.reduceAdd, Nat.reduceSub, Array.replicate_succ, Array.replicate_zero, List.push_toArray, List.append_toArray, List.nil_append, List.cons_append]
 obtain ⟨w0, hw0⟩ : ∃ W, W = ((w.alloc (Obj.cells #[.int .i64 c, .int .i64 r, .slice A n cap] 35)).alloc (Obj.cells #[.slice (some ⟨nb, noff, none⟩) n capu] 22)).alloc (Obj.cells #[.bool false] 4) := ⟨_, rfl⟩
 obtain ⟨gb, hgb⟩ : ∃ b, b = w.heap.size := ⟨_, rfl⟩
 have hg0 : w0.heap[gb]? = some (.cells #[.int .i64 c, .int .i64 r, .slice A n cap] 35 (0, 0)) := by rw [hw0]; exact heap_old (by simp; omega) (heap_old (by simp; omega) (heap_new (by omega)))
 have hg1 : w0.heap[gb + 1]? = some (.cells #[.slice (some ⟨nb, noff, none⟩) n capu] 22 (0, 0)) := by rw [hw0]; exact heap_old (by simp; omega) (heap_new (by simp; omega))
 have hg2 : w0.heap[gb + 1 + 1]? = some (.cells #[.bool false] 4 (0, 0)) := by rw [hw0]; exact heap_new (by simp; omega)
 have hB0 : Below w.heap.size w w0 := by rw [hw0]; exact (below2 _ _ _).alloc (by simp; omega) _
 obtain ⟨bs, hbs⟩ : ∃ bs : Bool → List (Nat × Array Value × TypeId), bs = fun x => [(gb, #[.int .i64 c, .int .i64 r, .slice A n cap], 35), (gb + 1, #[.slice (some ⟨nb, noff, none⟩) n capu], 22), (gb + 1 + 1, #[.bool x], 4)] := ⟨_, rfl⟩
 have I0 : BI w [] (bs false) (∀ i, i < 0 → ∀ e ∈ Im.nbs c r l i, Im.at0 u i - Im.at0 u e.1 ≤ e.2) w0 := by
  refine ⟨Marks.nil _ _, fun x hx => ?_, hB0, fun i hi => absurd hi (Nat.not_lt_zero i)⟩
  rw [hbs] at hx
  simp only [List.mem_cons, List.not_mem_nil, or_false] at hx
  rcases hx with rfl | rfl | rfl
  ·exact hg0
  ·exact hg1
  ·exact hg2
 have q1 : w0.cell? ⟨gb + 1, 0, none⟩ = some (.slice (some ⟨nb, noff, none⟩) n capu) := cell_at hg1 rfl
 go_wp2_with fail
 rw [← hw0, ← hgb]
 have HRD := Lib.hid H
 have HST := Lib.hid hst
 have HBS := Lib.hid hbs
 have HGB := Lib.hid hgb
 have hbn : Hid (w.heap.size ≤ gb) := Lib.hid (by omega)
 clear hw0 hg0 hg1 hg2 hB0 H hst hbs hgb hu HN U h256 q1
 refine wp_loop (fun a' wr => ∃ (Ds : List Nat) (k : Nat), (k ≤ n ∧ BI w Ds (bs false) (∀ i, i < k → ∀ e ∈ Im.nbs c r l i, Im.at0 u i - Im.at0 u e.1 ≤ e.2) wr) ∧ a' = { tmps := #[.agg #[.int .i64 c, .int .i64 r, .slice A n cap], .slice (some ⟨nb, noff, none⟩) n capu, .pointer (some ⟨gb, 0, none⟩), .pointer (some ⟨gb + 1, 0, none⟩), .pointer (some ⟨gb + 1 + 1, 0, none⟩), a'.tmps.getD 5 undef, a'.tmps.getD 6 undef, a'.tmps.getD 7 undef, a'.tmps.getD 8 undef, .slice (some ⟨nb, noff, none⟩) n capu, .int .i64 n, .int .i64 k, a'.tmps.getD 12 undef, a'.tmps.getD 13 undef, a'.tmps.getD 14 undef, a'.tmps.getD 15 undef, a'.tmps.getD 16 undef, a'.tmps.getD 17 undef, a'.tmps.getD 18 undef, a'.tmps.getD 19 undef, a'.tmps.getD 20 undef, a'.tmps.getD 21 undef, a'.tmps.getD 22 undef, a'.tmps.getD 23 undef, a'.tmps.getD 24 undef, a'.tmps.getD 25 undef, a'.tmps.getD 26 undef, a'.tmps.getD 27 undef, a'.tmps.getD 28 undef, a'.tmps.getD 29 undef], defers := MarkL Ds }) (fun a' _ => n - (intOf (a'.tmps.getD 11 undef)).toNat) ?atStart ?round
 case atStart => exact ⟨[], 0, ⟨Nat.zero_le _, I0⟩, rfl⟩
 case round =>
  clear I0 w0
  rintro a0 wr ⟨Ds, k, ⟨hk, hI⟩, ha0⟩
  obtain ⟨u', hu'⟩ : ∃ u : Nat → Value, u = fun k => a0.tmps.getD k undef := ⟨_, rfl⟩
  have ha1 : a0 = { tmps := #[.agg #[.int .i64 c, .int .i64 r, .slice A n cap], .slice (some ⟨nb, noff, none⟩) n capu, .pointer (some ⟨gb, 0, none⟩), .pointer (some ⟨gb + 1, 0, none⟩), .pointer (some ⟨gb + 1 + 1, 0, none⟩), u' 5, u' 6, u' 7, u' 8, .slice (some ⟨nb, noff, none⟩) n capu, .int .i64 n, .int .i64 k, u' 12, u' 13, u' 14, u' 15, u' 16, u' 17, u' 18, u' 19, u' 20, u' 21, u' 22, u' 23, u' 24, u' 25, u' 26, u' 27, u' 28, u' 29], defers := MarkL Ds } := by rw [hu']; exact ha0
  clear ha0 hu'
  subst ha1
  dsimp only
  have HI := Lib.hid hI
  have k0 : wr.heap[gb]? = some (.cells #[.int .i64 c, .int .i64 r, .slice A n cap] 35 (0, 0)) := hI.blk (gb, _, _) (by rw [HBS.out]; simp)
  have k2 : wr.heap[gb + 1 + 1]? = some (.cells #[.bool false] 4 (0, 0)) := hI.blk (gb + 1 + 1, _, _) (by rw [HBS.out]; simp)
  have c0 : wr.cell? ⟨gb, 0, none⟩ = some (.int .i64 c) := cell_at k0 rfl
  have c1 : wr.cell? ⟨gb, 1, none⟩ = some (.int .i64 r) := cell_at k0 rfl
  have c2 : wr.cell? ⟨gb, 2, none⟩ = some (.slice A n cap) := cell_at k0 rfl
  have c4 : wr.cell? ⟨gb + 1 + 1, 0, none⟩ = some (.bool false) := cell_at k2 rfl
  have f4 : wr.frozen? ⟨gb + 1 + 1, 0, none⟩ = false := free_at k2
  have l0 := cell_lt c0
  have l4 := cell_lt c4
  by_cases hlt : k < n
  ·obtain ⟨hnb1, hnc⟩ := HNN.out wr hI.bel
   have nk := hnc k hlt
   obtain ⟨p, hp⟩ : ∃ p, p = Im.at0 u k := ⟨_, rfl⟩
   rw [← hp] at nk
   obtain ⟨b6, hb6⟩ : ∃ b, b = wr.heap.size := ⟨_, rfl⟩
   obtain ⟨w1, hw1⟩ : ∃ V, V = wr.alloc (Obj.cells #[.int .i64 p] 3) := ⟨_, rfl⟩
   have hB1 : Below wr.heap.size wr w1 := by rw [hw1]; exact (Below.refl _ _).alloc (Nat.le_refl _) _
   have k6 : w1.heap[b6]? = some (.cells #[.int .i64 p] 3 (0, 0)) := by rw [hw1]; exact heap_new hb6
   have HP := Lib.hid hp
   clear hnc hI k0 k2 hp
   go_wp2_with fail
   rw [← hw1]
   refine (c128 c r A n cap (k : Nat) w1).mono ?_
   rintro e w2 ⟨rfl, hw2⟩
   have hB2 : Below w1.heap.size w1 w2 := by rw [hw2]; exact below2 _ _ _
   obtain ⟨pg, hpg⟩ : ∃ p, p = w1.heap.size := ⟨_, rfl⟩
   have KG : w2.heap[pg]? = some (.cells #[.int .i64 c, .int .i64 r, .slice A n cap] 35 (0, 0)) := by rw [hw2]; exact heap_old (by simp; omega) (heap_new hpg)
   have KI : w2.heap[pg + 1]? = some (.cells #[.int .i64 k] 3 (0, 0)) := by rw [hw2]; exact heap_new (by simp; omega)
   obtain ⟨bt, hbt⟩ : ∃ bt : List (Nat × Array Value × TypeId), bt = [(b6, #[.int .i64 p], 3), (pg, #[.int .i64 c, .int .i64 r, .slice A n cap], 35), (pg + 1, #[.int .i64 k], 3)] := ⟨_, rfl⟩
   have hB12 : Below wr.heap.size wr w2 := hB1.call hB2 rfl
   have I1 : BI w Ds (bs false ++ bt) (∀ e ∈ ([] : List (Nat × Int)), p - Im.at0 u e.1 ≤ e.2) w2 := by
    have hb := HI.out.below hB12
    refine ⟨hb.mks, fun x hx => ?_, hb.bel, fun e he => by cases he⟩
    rcases List.mem_append.1 hx with hx | hx
    ·exact hb.blk x hx
    ·rw [hbt] at hx
     simp only [List.mem_cons, List.not_mem_nil, or_false] at hx
     rcases hx with rfl | rfl | rfl
     ·exact blkb k6 hB2
     ·exact KG
     ·exact KI
   have hsz := I1.bel.size
   have hbd1 : b6 ≠ gb + 1 + 1 ∧ pg ≠ gb + 1 + 1 ∧ pg + 1 ≠ gb + 1 + 1 := by have := hB1.size; omega
   have HBT := Lib.hid hbt
   have HM2 := Lib.hid I1.mks
   have HD1 := Lib.hid hbd1
   have HKL : Hid (k < l.length) := Lib.hid (by omega)
   rw [← hpg, ← hb6]
   clear hw1 hw2 hB1 hB2 hpg KG KI hB12 hbt k6 hbd1 c0 c1 c2 c4 f4 l0 l4 hnb1 nk
   go_wp2
   try rw [← hb6]
   refine (wpIn_wide (n := 6)).1 ?_
   refine wpIn_nbs (n := 6) (by omega) (pi := pg + 1) (pg := pg) g hc hr (A := A) (N := n) (cap := cap) (i := k) HKL.out rfl rfl .ret (fun pre W => BI w Ds (bs false ++ bt) (∀ e ∈ pre, p - Im.at0 u e.1 ≤ e.2) W) (fun W => BI w Ds (bs false ++ bt) (¬ Im.Feas c l u) W)
    (fun pre => BI.own hsz HM2.out.lt) (BI.own hsz HM2.out.lt)
    (fun pre W h => ⟨h.blk (pg + 1, _, _) (by rw [HBT.out]; simp), h.blk (pg, _, _) (by rw [HBT.out]; simp), HRD.out.below h.bel, HST.out.below h.bel⟩) I1 ?a1 ?assign ?body ?done ?stop
   case assign =>
    intro lr y W K hK
    have HK := Lib.hid hK
    clear hK
    gi_wp2
    exact HK.out
   case stop =>
    intro D W hD hX hK
    have k2 : W.heap[gb + 1 + 1]? = some (.cells #[.bool false] 4 (0, 0)) := hX.blk (gb + 1 + 1, _, _) (by rw [HBS.out]; simp)
    have HX := Lib.hid hX
    clear hX
    gi_wp2
    refine leaves_marks (D :: Ds) W W (HM2.out.push HX.out.mks hsz hD hK) (Aft.refl _ _) rfl (fun w' ha => ?_)
    have e2 : w'.cell? ⟨gb + 1 + 1, 0, none⟩ = some (.bool false) := cell_at (ha.1 _ _ k2 rfl) rfl
    refine ⟨.bool false, by simp [results, Tryz.results132, go_sem, e2], ?_⟩
    exact ⟨false, rfl, by simp [HX.out.prop], ha.2 w HX.out.bel.size HX.out.bel⟩
   case done =>
    intro D W hD hI2 hK
    have hI3 : BI w (D :: Ds) (bs false) (∀ i, i < k + 1 → ∀ e ∈ Im.nbs c r l i, Im.at0 u i - Im.at0 u e.1 ≤ e.2) W := by
     refine ⟨HM2.out.push hI2.mks hsz hD hK, fun x hx => hI2.blk x (List.mem_append_left _ hx), hI2.bel, fun i hi => ?_⟩
     rcases Nat.lt_or_ge i k with h | h
     ·exact HI.out.prop i h
     ·obtain rfl : i = k := by omega
      intro e he
      rw [← HP.out]
      exact hI2.prop e he
    have HI3 := Lib.hid hI3
    clear hI3 hI2 hK
    go_wp2
    refine ⟨⟨D :: Ds, k + 1, ⟨by omega, HI3.out⟩, by rfl⟩, ?_⟩
    simp [intOf]
    omega
   case body =>
    intro lr pre y suf W hnb hsz2 hI2
    have hym : y ∈ Im.nbs c r l k := by rw [hnb]; simp
    obtain ⟨hy1, hy2, hy3⟩ := (Im.nbs_mem g HKL.out (k := y.1) (n := y.2)).1 hym
    have hyn : y.1 < n := by omega
    obtain ⟨hnb1, hnc⟩ := HNN.out W hI2.bel
    have ny := hnc y.1 hyn
    obtain ⟨v1, v2⟩ := HNS.out y.1 hyn
    have hpv := HNS.out k hlt
    rw [← HP.out] at hpv
    have k1 : W.heap[gb + 1]? = some (.cells #[.slice (some ⟨nb, noff, none⟩) n capu] 22 (0, 0)) := hI2.blk (gb + 1, _, _) (by rw [HBS.out]; simp)
    have k2 : W.heap[gb + 1 + 1]? = some (.cells #[.bool false] 4 (0, 0)) := hI2.blk (gb + 1 + 1, _, _) (by rw [HBS.out]; simp)
    have k6 : W.heap[b6]? = some (.cells #[.int .i64 p] 3 (0, 0)) := hI2.blk (b6, _, _) (by rw [HBT.out]; simp)
    have c1 : W.cell? ⟨gb + 1, 0, none⟩ = some (.slice (some ⟨nb, noff, none⟩) n capu) := cell_at k1 rfl
    have c2 : W.cell? ⟨gb + 1 + 1, 0, none⟩ = some (.bool false) := cell_at k2 rfl
    have c6 : W.cell? ⟨wr.heap.size, 0, none⟩ = some (.int .i64 p) := by rw [← hb6]; exact cell_at k6 rfl
    have f2 : W.frozen? ⟨gb + 1 + 1, 0, none⟩ = false := free_at k2
    have l1 := cell_lt c1
    have l2 := cell_lt c2
    have l6 := cell_lt c6
    have HI2 := Lib.hid hI2
    have HYM := Lib.hid hym
    obtain ⟨q, hq⟩ : ∃ q, q = Im.at0 u y.1 := ⟨_, rfl⟩
    rw [← hq] at ny v1 v2
    have HQ := Lib.hid hq
    have hws : IntKind.i64.wrap (p - q) = p - q := wrapI (by omega)
    clear k1 k2 k6 hI2 hym hnb hsz2 hy1 hy2 hy3 hnc hq
    gi_wp2
    refine wpIn_region_splitG 7 (by kernel_rfl) (by kernel_rfl) (by kernel_rfl) (fun ⟨_, _, h⟩ => h) ?_
    simp only [List.take_succ_cons, List.take_zero, List.drop_succ_cons, List.drop_zero]
    repeat (go_big_quiet_step ((first | fail)))
    refine wpQuiet_nil (gw_out ?_)
    intro W3 hb3
    have c2 := (hb3.cell (p := ⟨gb + 1 + 1, 0, none⟩) l2).trans c2
    have f2 := (hb3.frozen (p := ⟨gb + 1 + 1, 0, none⟩) l2).trans f2
    have l2 := cell_lt c2
    have HB3 := Lib.hid hb3
    by_cases hgt : y.2 < p - q
    ·have hd : decide (y.2 < p - q) = true := by simpa using hgt
     have HGT := Lib.hid hgt
     clear hgt hb3
     go_wp2
     gi_wp2
     have hI3 := HI2.out.below HB3.out
     have k32 : W3.heap[gb + 1 + 1]? = some (.cells #[.bool false] 4 (0, 0)) := hI3.blk (gb + 1 + 1, _, _) (by rw [HBS.out]; simp)
     have hbn1 := hbn.out
     have hD1 := HD1.out
     have h4 : BI w Ds (bs false ++ bt) (∀ e ∈ pre, p - Im.at0 u e.1 ≤ e.2) (W3.setCell ⟨gb + 1 + 1, 0, none⟩ (.bool false)) := hI3.set (b := gb + 1 + 1) (.bool false) (by omega) k32 (fun x hx => by
      rw [HBS.out, HBT.out] at hx ⊢
      simp only [List.mem_cons, List.not_mem_nil, or_false, List.cons_append, List.nil_append] at hx
      rcases hx with rfl | rfl | rfl | rfl | rfl | rfl <;> first | exact .inl ⟨rfl, rfl, rfl⟩ | exact .inr ⟨by show _ ≠ _; omega, by simp⟩)
     refine ⟨rfl, (keepsF_below HB3.out).trans (keepsF_set _ k32), h4.imp (fun _ hf => ?_)⟩
     have := HFS.out.2 hf k HKL.out y HYM.out
     rw [← HP.out, ← HQ.out] at this
     have := HGT.out
     omega
    ·have hd : decide (y.2 < p - q) = false := by simpa using hgt
     have HGT := Lib.hid hgt
     clear hgt hb3
     go_wp2
     gi_wp2
     refine ⟨keepsF_below HB3.out, (HI2.out.below HB3.out).imp (fun hp e he => ?_)⟩
     rcases List.mem_append.1 he with he | he
     ·exact hp e he
     ·obtain rfl := List.mem_singleton.1 he
      have := HGT.out
      rw [← HQ.out]
      omega
  ·obtain rfl : k = n := by omega
   have hfe := HFS.out.1 (fun i hi => hI.prop i (by omega))
   have HF := Lib.hid hfe
   clear hI k0 hfe
   go_wp2
   have hbn1 := hbn.out
   have h3 := HI.out.set (b := gb + 1 + 1) (bs' := bs true) (.bool true) (by omega) k2 (fun x hx => by
    rw [HBS.out] at hx ⊢
    simp only [List.mem_cons, List.not_mem_nil, or_false, List.cons_append, List.nil_append] at hx
    rcases hx with rfl | rfl | rfl <;> first | exact .inl ⟨rfl, rfl, rfl⟩ | exact .inr ⟨by show _ ≠ _; omega, by simp⟩)
   obtain ⟨W2, hW2⟩ : ∃ V, V = wr.setCell ⟨gb + 1 + 1, 0, none⟩ (.bool true) := ⟨_, rfl⟩
   rw [← hW2] at h3 ⊢
   refine leaves_marks Ds W2 W2 h3.mks (Aft.refl _ _) rfl (fun w' ha => ?_)
   have e2 : w'.cell? ⟨gb + 1 + 1, 0, none⟩ = some (.bool true) := cell_at (ha.1 _ _ (h3.blk (gb + 1 + 1, #[.bool true], 4) (by rw [HBS.out]; simp)) rfl) rfl
   refine ⟨.bool true, by simp [results, Tryz.results132, go_sem, e2], ?_⟩
   exact ⟨true, rfl, by simp [HF.out], ha.2 w h3.bel.size h3.bel⟩
end Go.Proofs.YtdimmlljjmmdbaaGreatDoor
namespace Go.Proofs.YtdimmlljjmmdbaaGreatDoor
open Go.RowKit
set_option maxHeartbeats 8000000
set_option maxRecDepth 20000
namespace Mo
theorem range_ok {x lo hi : Int} : range x lo hi = 0 ↔ lo ≤ x ∧ x ≤ hi := by unfold range; split <;> omega
theorem first_zero {xs : List Int} (h : first xs = 0) : ∀ x ∈ xs, x = 0 := by
 induction xs with
 | nil => intro x hx; cases hx
 | cons a l ih =>
  rw [first_cons] at h
  by_cases ha : a = 0
  ·rw [if_neg (by simp [ha])] at h
   intro x hx
   rcases List.mem_cons.1 hx with rfl | hx
   ·exact ha
   ·exact ih h x hx
  ·rw [if_pos (by simpa using ha)] at h
   exact absurd h ha
theorem first_all {xs : List Int} (h : ∀ x ∈ xs, x = 0) : first xs = 0 := by
 induction xs with
 | nil => rfl
 | cons a l ih => rw [first_z (h a (by simp))]; exact ih (fun x hx => h x (by simp [hx]))
theorem allw_ok {l : List Int} {lo hi : Int} : allw l lo hi = 0 ↔ ∀ x ∈ l, lo ≤ x ∧ x ≤ hi := by
 unfold allw
 constructor
 ·intro h x hx
  exact range_ok.1 (first_zero h _ (List.mem_map.2 ⟨x, hx, rfl⟩))
 ·intro h
  refine first_all (fun y hy => ?_)
  obtain ⟨x, hx, rfl⟩ := List.mem_map.1 hy
  exact range_ok.2 (h x hx)
theorem when_zero {b : Bool} {e : Int} (he : e ≠ 0) : when b e = 0 ↔ b = false := by unfold when; cases b <;> simp [he]
theorem cell_ok {n i : Int} : cell n i = 0 ↔ 0 ≤ i ∧ i < n := by
 unfold cell
 rw [when_zero (by decide)]
 simp
theorem ground_ok {c r : Int} {l : List Int} (h : ground c r l = 0) : ∃ c' r' : Nat, c = c' ∧ r = r' ∧ c' ≤ 16 ∧ r' ≤ 16 ∧ Im.Gr c' r' l := by
 have hz := first_zero h
 obtain ⟨h1, h2, h3, h4⟩ := sides_ok (hz (sides c r) (by simp))
 have h5 := (when_zero (by decide)).1 (hz (when ((l.length : Int) != c * r) 2) (by simp))
 have h6 := allw_ok.1 (hz (allw l 1 100) (by simp))
 refine ⟨c.toNat, r.toNat, by omega, by omega, by omega, by omega, by omega, by omega, ?_, fun i hi => ?_, fun i hi => ?_⟩
 ·have h7 : (l.length : Int) = c * r := by simpa using h5
  obtain ⟨c', rfl⟩ : ∃ c' : Nat, c = c' := ⟨c.toNat, by omega⟩
  obtain ⟨r', rfl⟩ : ∃ r' : Nat, r = r' := ⟨r.toNat, by omega⟩
  simp only [Int.toNat_natCast]
  exact_mod_cast h7
 ·have := h6 (Im.at0 l i) (by simp [Im.at0, List.getD_eq_getElem?_getD, hi])
  omega
 ·have := h6 (Im.at0 l i) (by simp [Im.at0, List.getD_eq_getElem?_getD, hi])
  omega
theorem ground_of {c r : Nat} {l : List Int} (g : Im.Gr c r l) (hc : c ≤ 16) (hr : r ≤ 16) : ground c r l = 0 := by
 have h1 := g.c1
 have h2 := g.r1
 refine first_all (fun x hx => ?_)
 simp only [List.mem_cons, List.not_mem_nil, or_false] at hx
 rcases hx with rfl | rfl | rfl
 ·unfold sides
  refine first_all (fun x hx => ?_)
  simp only [List.mem_cons, List.not_mem_nil, or_false] at hx
  rcases hx with rfl | rfl
  ·exact range_ok.2 (by omega)
  ·exact range_ok.2 (by omega)
 ·rw [when_zero (by decide), g.len]
  simp
 ·refine allw_ok.2 (fun x hx => ?_)
  obtain ⟨i, hi, rfl⟩ := List.getElem_of_mem hx
  have a1 := g.lo i hi
  have a2 := g.hi i hi
  simp only [Im.at0, List.getD_eq_getElem?_getD, List.getElem?_eq_getElem hi, Option.getD_some] at a1 a2
  exact ⟨a1, a2⟩
end Mo
theorem take_eq_step {l m : List Int} {k : Nat} {x y : Int} (h : l.take k = m.take k) (hx : l[k]? = some x) (hy : m[k]? = some y) (he : x = y) : l.take (k + 1) = m.take (k + 1) := by
 rw [List.take_succ, List.take_succ, h, hx, hy, he]
theorem c30 (A B : Option Addr) (n m cap cap2 : Nat) (l k : List Int) (w : World) (hn : n ≤ 1000000) (hm : m ≤ 1000000) (H : RdI w A n l) (G : RdI w B m k) :
  Calls Tryz.prog 30 #[.slice A n cap, .slice B m cap2] w fun en w' => en = .returned (.bool (decide (l = k))) ∧ Below w.heap.size w w' := by
 have h1 := H.len
 have h2 := G.len
 by_cases hnm : n = m
 ·subst hnm
  obtain ⟨V, hV⟩ : ∃ V, V = decide (l = k) := ⟨_, rfl⟩
  rw [← hV]
  have HT : Hid (l.take n = k.take n → V = true) := Lib.hid (fun h => by
   rw [List.take_of_length_le (by omega), List.take_of_length_le (by omega)] at h
   rw [hV]; simpa using h)
  have HF : Hid (∀ (i : Nat) (x y : Int), l[i]? = some x → k[i]? = some y → x ≠ y → V = false) := Lib.hid (fun i x y hx hy hne => by
   rw [hV]
   simp only [decide_eq_false_iff_not]
   intro e
   rw [e, hy] at hx
   exact hne (by simpa using hx.symm))
  clear hV h1 h2
  have hnn : ((n : Int) != (n : Int)) = false := by simp
  go_enter Tryz.func30, Tryz.ntmps30
  go_wp2
  go_loopw [5] (fun i wr => ∃ j : Nat, j ≤ n ∧ i = .int .i64 j ∧ Hid (l.take j = k.take j) ∧ Below w.heap.size w wr) (fun i _ => n - (intOf i).toNat)
  case atStart => exact ⟨0, Nat.zero_le _, rfl, Lib.hid rfl, Below.refl _ _⟩
  case round =>
   obtain ⟨j, hj, rfl, he, hB⟩ := hrel
   by_cases hlt : j < n
   ·obtain ⟨b, off, x, rfl, hx, hb, h0⟩ := (H.below hB).at hlt
    obtain ⟨b2, off2, y, rfl, hy, hb2, h02⟩ := (G.below hB).at hlt
    have HX := Lib.hid hx
    have HY := Lib.hid hy
    clear hx hy
    go_wp2
    refine wp_region_growG (by kernel_rfl) (by kernel_rfl) ?_
    repeat (go_big_quiet_step ((first | fail)))
    refine wpQuiet_nil (gw_out ?_)
    intro w2 hw2
    have hB2 := fin0 hB hw2
    clear hw2
    by_cases hxy : x = y
    ·have hd : (x != y) = false := by simpa using hxy
     have HE := Lib.hid (take_eq_step he.out HX.out HY.out hxy)
     clear hxy
     go_wp2
     go_roundw
     case rel => exact ⟨j + 1, by omega, by go_num, HE, hB2⟩
     case measure => simp [intOf]; omega
    ·have hd : (x != y) = true := by simpa using hxy
     have HE := Lib.hid (HF.out j x y HX.out HY.out hxy)
     clear hxy
     go_wp2
     go_ret
     exact ⟨by rw [HE.out]; rfl, hB2⟩
   ·obtain rfl : j = n := by omega
    go_wp2
    go_ret
    exact ⟨by rw [HT.out he.out]; rfl, hB⟩
 ·have hd : ((n : Int) != (m : Int)) = true := by simp; omega
  have hne : decide (l = k) = false := by
   simp only [decide_eq_false_iff_not]
   intro e
   rw [e] at h1
   omega
  rw [hne]
  go_enter Tryz.func30, Tryz.ntmps30
  go_wp2
  go_ret
  exact ⟨rfl, Below.refl _ _⟩
end Go.Proofs.YtdimmlljjmmdbaaGreatDoor
namespace Go.Proofs.YtdimmlljjmmdbaaGreatDoor
open Go.RowKit
set_option maxHeartbeats 8000000
set_option maxRecDepth 20000
theorem first2 {a b : Int} (ha : a = 0) (hb : b = 0) : Mo.first [a, b] = 0 := Mo.first_all (by simp [ha, hb])
theorem first3 {a b c : Int} (ha : a = 0) (hb : b = 0) (hc : c = 0) : Mo.first [a, b, c] = 0 := Mo.first_all (by simp [ha, hb, hc])
theorem c58_ok (c r : Nat) (A : Option Addr) (n cap : Nat) (l : List Int) (s : Nat) (w : World) (g : Im.Gr c r l) (hc : c ≤ 16) (hr : r ≤ 16) (H : RdI w A n l) (hst : Steps w) (hs : s < n) :
  Calls Tryz.prog 58 #[.agg #[.int .i64 c, .int .i64 r, .slice A n cap], .int .i64 s] w fun en w' => ∃ og t, en = .returned (.tuple #[.slice (some ⟨og, 0, none⟩) n n, .int .i64 0]) ∧ w.heap.size ≤ og ∧ w'.heap[og]? = some (.cells (encI t).toArray 3 (0, 0)) ∧ Im.IsT c l s t ∧ Below w.heap.size w w' := by
 have hl : n ≤ 1000000 := by have := H.len; have := g.len; have : c * r ≤ 256 := Nat.mul_le_mul hc hr; omega
 have hF : Mo.first [Mo.ground c r l, Mo.cell n s] = 0 := first2 (Mo.ground_of g hc hr) (Mo.cell_ok.2 (by omega))
 obtain ⟨w0, hW⟩ : ∃ W, W = w.alloc (Obj.cells #[.int .i64 c, .int .i64 r, .slice A n cap] 35) := ⟨_, rfl⟩
 have hT0 : w0.heap[w.heap.size]? = some (.cells #[.int .i64 c, .int .i64 r, .slice A n cap] 35 (0, 0)) := by rw [hW]; exact heap_new (by simp)
 have hB0 : Below w.heap.size w w0 := by rw [hW]; exact ((Below.refl _ _).alloc (by first | omega | (simp <;> omega)) _)
 replace H := H.below hB0
 replace hst := hst.below hB0
 go_enter Tryz.func58, Tryz.ntmps58
 go_wp2_with fail
 rw [← hW]
 clear hW
 have qhT0_0 : w0.cell? ⟨w.heap.size, 0, none⟩ = some (.int .i64 c) := cell_at hT0 rfl
 have qhT0_1 : w0.cell? ⟨w.heap.size, 1, none⟩ = some (.int .i64 r) := cell_at hT0 rfl
 have qhT0_2 : w0.cell? ⟨w.heap.size, 2, none⟩ = some (.slice A n cap) := cell_at hT0 rfl
 refine wp_region_plan [(0, true), (2, true), (3, true), (1, false), (4, false), (5, false), (6, false), (7, true)] w0.heap.size (by kernel_rfl) (by kernel_rfl) (Nat.le_refl _) (fun _ _ d _ _ h => by cases d <;> exact h) ?_
 have hC : Below w0.heap.size w0 w0 := Below.refl _ _
 have zhT0 : w.heap.size < w0.heap.size := (Array.getElem?_eq_some_iff.1 hT0).1
 repeat (first | (refine wpPlanA_skip _ rfl (by rfl) ?_; simp only [Act.put, List.setIfInBounds_toArray, List.set_cons_zero, List.set_cons_succ]) | (refine wpPlanA_soft _ ?_ rfl (by rfl) ?_ ?_; rotate_left; (intro wq hq hcq; go_simp; first | exact rfl | exact ⟨rfl, rfl⟩); simp only [Act.put, List.setIfInBounds_toArray, List.set_cons_zero, List.set_cons_succ]))
 refine wpPlanA_hard _ rfl (by rfl) (fun w1 hS K hK => ?_)
 have hB1 := hB0.call hS rfl
 replace hC := hC.call hS rfl
 replace hT0 := blkb hT0 hS
 replace H := H.below hS
 replace hst := hst.below hS
 clear hS hB0
 go_simp
 refine (c64 c r A n cap l _ hl H).mono ?_
 rintro e w2 ⟨rfl, hb⟩
 have hB2 := hB1.call hb rfl
 replace hC := hC.call hb rfl
 replace hT0 := blkb hT0 hb
 replace H := H.below hb
 replace hst := hst.below hb
 clear hb hB1
 refine hK _ _ hC ?_
 clear hK K
 try simp only [Act.put, List.setIfInBounds_toArray, List.set_cons_zero, List.set_cons_succ]
 refine wpPlanA_hard _ rfl (by rfl) (fun w3 hS K hK => ?_)
 have hB3 := hB2.call hS rfl
 replace hC := hC.call hS rfl
 replace hT0 := blkb hT0 hS
 replace H := H.below hS
 replace hst := hst.below hS
 clear hS hB2
 go_simp
 refine (c97 c r A n cap s _).mono ?_
 rintro e w4 ⟨rfl, hb⟩
 have hB4 := hB3.call hb rfl
 replace hC := hC.call hb rfl
 replace hT0 := blkb hT0 hb
 replace H := H.below hb
 replace hst := hst.below hb
 clear hb hB3
 refine hK _ _ hC ?_
 clear hK K
 try simp only [Act.put, List.setIfInBounds_toArray, List.set_cons_zero, List.set_cons_succ]
 refine wpPlanA_hard _ rfl (by rfl) (fun w5 hS K hK => ?_)
 have hB5 := hB4.call hS rfl
 replace hC := hC.call hS rfl
 replace hT0 := blkb hT0 hS
 replace H := H.below hS
 replace hst := hst.below hS
 clear hS hB4
 go_simp
 have hb : Below w5.heap.size w5 (w5.alloc (Obj.cells #[.int .i64 (Mo.ground c r l), .int .i64 (Mo.cell n s)] 32)) := (Below.refl _ _).alloc (Nat.le_refl _) _
 have k1 : (w5.alloc (Obj.cells #[.int .i64 (Mo.ground c r l), .int .i64 (Mo.cell n s)] 32)).heap[w5.heap.size]? = some (Obj.cells #[.int .i64 (Mo.ground c r l), .int .i64 (Mo.cell n s)] 32) := heap_new rfl
 refine hK _ _ (hC.alloc hC.size _) ?_
 clear hK K
 replace hC := hC.call hb rfl
 have hB6 := hB5.call hb rfl
 replace hT0 := blkb hT0 hb
 replace H := H.below hb
 replace hst := hst.below hb
 clear hb hB5
 generalize hWn : w5.alloc (Obj.cells #[.int .i64 (Mo.ground c r l), .int .i64 (Mo.cell n s)] 32) = w6 at k1 hC hB6 hT0 H hst ⊢
 clear hWn
 generalize hWn : w5.heap.size = bk1 at k1 ⊢
 clear hWn
 try simp only [Act.put, List.setIfInBounds_toArray, List.set_cons_zero, List.set_cons_succ]
 refine wpPlanA_hard _ rfl (by rfl) (fun w7 hS K hK => ?_)
 have hB7 := hB6.call hS rfl
 replace hC := hC.call hS rfl
 replace hT0 := blkb hT0 hS
 replace H := H.below hS
 replace hst := hst.below hS
 replace k1 := blkb k1 hS
 clear hS hB6
 go_simp
 refine (c89 _ 2 2 [Mo.ground c r l, Mo.cell n s] _ rfl (by omega) (RdS.of_block (cs := encI [Mo.ground c r l, Mo.cell n s]) k1 rfl)).mono ?_
 rintro e w' ⟨rfl, rfl⟩
 refine hK _ _ hC ?_
 clear hK K
 try simp only [Act.put, List.setIfInBounds_toArray, List.set_cons_zero, List.set_cons_succ]
 repeat (first | (refine wpPlanA_skip _ rfl (by rfl) ?_; simp only [Act.put, List.setIfInBounds_toArray, List.set_cons_zero, List.set_cons_succ]) | (refine wpPlanA_soft _ ?_ rfl (by rfl) ?_ ?_; rotate_left; (intro wq hq hcq; go_simp; first | exact rfl | exact ⟨rfl, rfl⟩); simp only [Act.put, List.setIfInBounds_toArray, List.set_cons_zero, List.set_cons_succ]))
 clear k1
 clear qhT0_0 qhT0_1 qhT0_2
 refine wpPlanA_nil (fun w8 hS => ?_)
 clear hC zhT0
 have hB8 := hB7.call hS rfl
 replace hT0 := blkb hT0 hS
 replace H := H.below hS
 replace hst := hst.below hS
 clear hS hB7
 have qhT0_0 : w8.cell? ⟨w.heap.size, 0, none⟩ = some (.int .i64 c) := cell_at hT0 rfl
 have qhT0_1 : w8.cell? ⟨w.heap.size, 1, none⟩ = some (.int .i64 r) := cell_at hT0 rfl
 have qhT0_2 : w8.cell? ⟨w.heap.size, 2, none⟩ = some (.slice A n cap) := cell_at hT0 rfl
 rw [hF]
 clear hF
 go_wp2_with fail
 refine (c127 c r A n cap l s _ g hc hr hs H hst).mono ?_
 rintro e w9 ⟨og, t, rfl, ho, ht, hT, hb⟩
 have HOG : w.heap.size ≤ og := Nat.le_trans hB8.size ho
 clear ho
 clear qhT0_0 qhT0_1 qhT0_2
 have hS := hb
 have hB9 := hB8.call hS rfl
 replace hT0 := blkb hT0 hS
 replace H := H.below hS
 replace hst := hst.below hS
 clear hS hB8
 have qhT0_0 : w9.cell? ⟨w.heap.size, 0, none⟩ = some (.int .i64 c) := cell_at hT0 rfl
 have qhT0_1 : w9.cell? ⟨w.heap.size, 1, none⟩ = some (.int .i64 r) := cell_at hT0 rfl
 have qhT0_2 : w9.cell? ⟨w.heap.size, 2, none⟩ = some (.slice A n cap) := cell_at hT0 rfl
 clear hb
 go_wp2
 go_ret2
 exact ⟨og, t, rfl, HOG, ht, hT, hB9⟩
end Go.Proofs.YtdimmlljjmmdbaaGreatDoor
