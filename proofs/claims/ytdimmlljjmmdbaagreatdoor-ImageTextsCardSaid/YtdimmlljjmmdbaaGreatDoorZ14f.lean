/- A part of the proofs about chapter 7 (image): contracts of functions and plain laws (V29, PMod, V30, V31, V32, V33, Blk, V34, PInn). -/
import Derived.Deep.MidRow
import Derived.WalkKit
import Derived.Test.YtdimmlljjmmdbaaGreatDoorZ14e
set_option linter.all false
namespace Go.Proofs.YtdimmlljjmmdbaaGreatDoor
open Go.RowKit
set_option maxHeartbeats 4000000
set_option maxRecDepth 20000
/-- equal pairs -/
def eqP (a b : Pr) : Bool := decide (a.s = b.s) && decide (a.r = b.r) && (a.h == b.h)
theorem eqP_eq {a b : Pr} (h : eqP a b = true) : a = b := by
 simp only [eqP, Bool.and_eq_true, decide_eq_true_eq, beq_iff_eq] at h
 cases a; cases b
 simp only [Pr.mk.injEq]
 exact ⟨h.1.1, h.1.2, h.2⟩
theorem eq148 (a b : Pr) (w : World) : (Op.equalIn 10000 148 (.agg #[.int .i64 a.s, .int .i64 a.r, .bool a.h]) (.agg #[.int .i64 b.s, .int .i64 b.r, .bool b.h])).run Tryz.prog w = .ok (eqP a b) w := by
 have u3 := Tryz.underlying3
 have a3 := Tryz.isAgg3
 have z3 := Tryz.sizeOf3
 have u4 := Tryz.underlying4
 have a4 := Tryz.isAgg4
 have z4 := Tryz.sizeOf4
 rw [show (10000 : Nat) = 9999 + 1 from rfl, run_equalIn_struct w 9999 148 _ _ (by unfold Program.fieldsOf; rw [Tryz.underlying148]) (by kernel_rfl)]
 unfold Program.fieldsOf
 rw [Tryz.underlying148]
 simp only [Op.eqFields]
 go_simp
 unfold eqP
 by_cases h0 : a.s = b.s <;> simp [h0]
 by_cases h1 : a.r = b.r <;> simp [h1]
 all_goals (by_cases h2 : a.h = b.h <;> simp [h2])
theorem c147 (a b : Pr) (gb : Nat) (w : World) (hg : w.heap[gb]? = some (.cells #[.int .i64 b.s, .int .i64 b.r, .bool b.h] 148 (0, 0))) :
  Calls Tryz.prog 147 #[.agg #[.int .i64 a.s, .int .i64 a.r, .bool a.h], .pointer (some ⟨gb, 0, none⟩)] w fun en w' => en = .returned (.bool (eqP a b)) ∧ Below w.heap.size w w' := by
 have q0 : w.cell? ⟨gb, 0, none⟩ = some (.int .i64 b.s) := cell_at hg rfl
 have q1 : w.cell? ⟨gb, 1, none⟩ = some (.int .i64 b.r) := cell_at hg rfl
 have q2 : w.cell? ⟨gb, 2, none⟩ = some (.bool b.h) := cell_at hg rfl
 have hgl : gb < w.heap.size := (Array.getElem?_eq_some_iff.1 hg).1
 have E := eq148 a b
 go_enter Tryz.func147, Tryz.ntmps147
 go_wp2
 go_ret
 exact ⟨rfl, (Below.refl _ _).alloc (Nat.le_refl _) _⟩
theorem c146 (A : Option Addr) (n cap : Nat) (l : List Pr) (p0 : Addr) (f : Pr → Bool) (w : World) (hl : n ≤ 1000000) (H : RdP w A n l)
  (hcl : ∀ (W : World) (x : Pr), x ∈ l → Below w.heap.size w W → Calls Tryz.prog 147 #[.agg #[.int .i64 x.s, .int .i64 x.r, .bool x.h], .pointer (some p0)] W fun e w' => e = .returned (.bool (f x)) ∧ Below W.heap.size W w') :
  Calls Tryz.prog 146 #[.slice A n cap, .func (.func 147) #[] #[.pointer (some p0)]] w fun en w' => ∃ r : Int, en = .returned (.int .i64 r) ∧ (r = -1 ∨ ∃ (j : Nat) (x : Pr), r = j ∧ j < n ∧ l[j]? = some x ∧ f x = true) ∧ Below w.heap.size w w' := by
 have Hcl := Lib.hid hcl
 clear hcl
 go_enter Tryz.func146, Tryz.ntmps146
 go_wp2
 go_loopw [8] (fun i wr => ∃ k : Nat, k ≤ n ∧ i = .int .i64 k ∧ Below w.heap.size w wr) (fun i _ => n - (intOf i).toNat)
 case atStart => exact ⟨0, Nat.zero_le _, rfl, Below.refl _ _⟩
 case round =>
  obtain ⟨k, hk, rfl, hB⟩ := hrel
  have hwk : IntKind.i64.wrap ((k : Int) + 1) = ((k + 1 : Nat) : Int) := by rw [wrapI (by omega)]; simp
  by_cases hlt : k < n
  ·obtain ⟨b, off, x, rfl, hx, hb, h0, h1, h2⟩ := (H.below hB).at hlt
   have Hx := Lib.hid hx
   clear hx
   have hkm2 : (k : Int) < (n : Int) := by omega
   have hk02 : (0 : Int) ≤ (k : Int) := by omega
   go_wp2_with fail
   refine (Hcl.out _ x (List.mem_of_getElem? Hx.out) hB).mono ?_
   rintro e w2 ⟨rfl, hb2⟩
   have hB2 := Lib.hid (fin0 hB hb2)
   clear hb2
   cases hf : f x
   ·go_wp2
    go_roundw
    case rel => exact ⟨k + 1, by omega, rfl, hB2.out⟩
    case measure => simp [intOf]; omega
   ·have HF := Lib.hid hf
    go_wp2
    go_ret
    exact ⟨k, rfl, .inr ⟨k, x, rfl, hlt, Hx.out, HF.out⟩, hB2.out⟩
  ·obtain rfl : n = k := by omega
   go_wp2
   go_ret
   exact ⟨-1, rfl, .inl rfl, hB⟩
theorem surv_ok {c r : Int} {l : List Int} {un len most : Int} {ps : List Pr} (h : Mo.surv c r l un len most ps = 0) :
  Mo.ground c r l = 0 ∧ (1 ≤ un ∧ un ≤ 1000) ∧ (1 ≤ len ∧ len ≤ 256) ∧ (0 ≤ most ∧ most ≤ 256) ∧ ps.length ≤ 16 ∧ ∀ p, p ∈ ps → (0 ≤ p.s ∧ p.s < l.length) ∧ (0 ≤ p.r ∧ p.r < l.length) := by
 unfold Mo.surv Mo.surv0 at h
 have h1 := Mo.first_zero h
 have h2 := Mo.first_zero (h1 _ List.mem_cons_self)
 have h3 := Mo.first_zero (h1 _ (List.mem_cons_of_mem _ List.mem_cons_self))
 have e1 := h2 _ List.mem_cons_self
 have e2 := Mo.range_ok.1 (h2 (Mo.range un 1 1000) (by simp))
 have e3 := Mo.range_ok.1 (h2 (Mo.range len 1 256) (by simp))
 have e4 := Mo.range_ok.1 (h2 (Mo.range most 0 256) (by simp))
 have e5 := (Mo.when_zero (by decide)).1 (h2 (Mo.when (decide (16 < (ps.length : Int))) 5) (by simp))
 refine ⟨e1, e2, e3, e4, by simp at e5; omega, fun p hp => ?_⟩
 have h4 := Mo.first_zero (h3 (Mo.pair l.length p) (List.mem_map.2 ⟨p, hp, rfl⟩))
 exact ⟨Mo.cell_ok.1 (h4 _ List.mem_cons_self), Mo.cell_ok.1 (h4 _ (List.mem_cons_of_mem _ List.mem_cons_self))⟩
theorem infoSl : (Tryz.prog.info? 22).map (fun i => (i.zero, i.size, i.bytes)) = some (some (.slice none 0 0), 1, 24) := by kernel_rfl
/-- the samples of the cells for a pair -/
noncomputable def dlp (c : Nat) (l : List Int) (un len most : Int) (p : Pr) : List Int := dlL c l un len most p.s.toNat p.r.toNat p.h
/-- a row of slices of the call's own -/
def OwnD (w : World) (B : Nat) (v : Value) (k : Nat) (vs : List Value) : Prop := w.ownsRow B 22 1 v k vs
theorem OwnD.below {w w' : World} {B : Nat} {v : Value} {n : Nat} {l : List Value} (h : OwnD w B v n l) (hb : Below w.heap.size w w') : OwnD w' B v n l := own_below h hb
theorem RowI.grown {w w' : World} {B B2 g cap n : Nat} {l : List Int} {x : Value} {k : Nat} {xs : List Value} (h : RowI w B g cap n l) (hown : w.ownsRow B2 22 1 x k xs) (hg : w.grownBy w' x.ownBlock) : RowI w' B g cap n l := by
 obtain ⟨cs, h1, h2⟩ := h
 refine ⟨cs, (hg.block g (Array.getElem?_eq_some_iff.1 h1).1 (fun e => ?_)).trans h1, h2⟩
 obtain ⟨hx, ⟨rfl, hn⟩ | ⟨g', cap', cur, rfl, hg', hh, _⟩⟩ := hown
 ·simp [Value.ownBlock] at e
 ·simp only [Value.ownBlock, Option.some.injEq] at e
  subst e
  rw [h1] at hh
  simp at hh
/-- rows of integers, one for each pair -/
def VD (w : World) (B n : Nat) (f : Pr → List Int) (ps : List Pr) (vs : List Value) (k : Nat) : Prop :=
 vs.length = k ∧ ∀ (j : Nat) (p : Pr), j < k → ps[j]? = some p → ∃ g cap, vs[j]? = some (.slice (some ⟨g, 0, none⟩) n cap) ∧ RowI w B g cap n (f p)
theorem VD.below {w w' : World} {B n : Nat} {f : Pr → List Int} {ps : List Pr} {vs : List Value} {k : Nat} (h : VD w B n f ps vs k) (hb : Below w.heap.size w w') : VD w' B n f ps vs k :=
 ⟨h.1, fun j p hj hp => by obtain ⟨g, cap, h1, h2⟩ := h.2 j p hj hp; exact ⟨g, cap, h1, h2.below hb⟩⟩
theorem VD.push {w w' : World} {B B2 n : Nat} {f : Pr → List Int} {ps : List Pr} {vs : List Value} {k g cap : Nat} {p : Pr} {x : Value} {xs : List Value} (h : VD w B n f ps vs k) (hown : w.ownsRow B2 22 1 x k xs) (hg : w.grownBy w' x.ownBlock) (hp : ps[k]? = some p) (hr : RowI w B g cap n (f p)) :
  VD w' B n f ps (vs ++ [.slice (some ⟨g, 0, none⟩) n cap]) (k + 1) := by
 refine ⟨by simp [h.1], fun j q hj hq => ?_⟩
 by_cases e : j = k
 ·subst e
  rw [hp] at hq
  cases hq
  exact ⟨g, cap, by rw [List.getElem?_append_right (by rw [h.1]; exact Nat.le_refl _), h.1]; simp, hr.grown hown hg⟩
 ·obtain ⟨g', cap', h1, h2⟩ := h.2 j q (by omega) hq
  exact ⟨g', cap', by rw [List.getElem?_append_left (by rw [h.1]; omega)]; exact h1, h2.grown hown hg⟩
theorem RdP.take {w : World} {A : Option Addr} {n : Nat} {l : List Pr} (h : RdP w A n l) {k : Nat} (hk : k ≤ n) : RdP w A k (l.take k) := by
 have hl := h.len
 have e : l.flatMap Pr.enc = (l.take k).flatMap Pr.enc ++ (l.drop k).flatMap Pr.enc := by rw [← List.flatMap_append, List.take_append_drop]
 refine ⟨by rw [flat_len Pr.len, List.length_take]; congr 1; omega, fun h0 => ?_⟩
 obtain ⟨b, off, rfl, hb, hc⟩ := h.2 (by omega)
 refine ⟨b, off, rfl, hb, fun j hj => ?_⟩
 rw [hc j (by rw [e, List.length_append]; omega), e, List.getElem?_append_left hj]
theorem RowI.len {w : World} {B g cap n : Nat} {l : List Int} (h : RowI w B g cap n l) : l.length = n := by obtain ⟨cs, _, _, _, _, h4, _⟩ := h; exact h4
/-- lists of integers in memory of the call's own, from block B on -/
def RdDB (w : World) (B : Nat) (A : Option Addr) (n : Nat) (d : List (List Int)) : Prop :=
 ∃ hs : List Value, RdS w 1 A n hs ∧ d.length = n ∧ (0 < n → ∀ b off, A = some ⟨b, off, none⟩ → B ≤ b) ∧ ∀ (k : Nat) (x : List Int), d[k]? = some x → ∃ g cap, hs[k]? = some (.slice (some ⟨g, 0, none⟩) x.length cap) ∧ B ≤ g ∧ g < w.heap.size ∧ RdI w (some ⟨g, 0, none⟩) x.length x
theorem RdDB.rd {w : World} {B : Nat} {A : Option Addr} {n : Nat} {d : List (List Int)} (h : RdDB w B A n d) : RdD w A n d := by
 obtain ⟨hs, h1, h2, h3, h4⟩ := h
 exact ⟨hs, h1, h2, fun k x hx => by obtain ⟨g, cap, e, _, _, hr⟩ := h4 k x hx; exact ⟨_, cap, e, hr⟩⟩
theorem RdDB.keep {w w' : World} {B : Nat} {A : Option Addr} {n : Nat} {d : List (List Int)} (h : RdDB w B A n d) (hs : w.heap.size ≤ w'.heap.size) (hk : ∀ b, B ≤ b → b < w.heap.size → w'.heap[b]? = w.heap[b]?) : RdDB w' B A n d := by
 obtain ⟨hv, ⟨h1, h1'⟩, h2, h3, h4⟩ := h
 have key : ∀ b o, B ≤ b → b < w.heap.size → w'.cell? ⟨b, o, none⟩ = w.cell? ⟨b, o, none⟩ := fun b o hb hl => World.cell?_of_block (a := ⟨b, o, none⟩) (hk b hb hl)
 refine ⟨hv, ⟨h1, fun h0 => ?_⟩, h2, h3, fun k x hx => ?_⟩
 ·obtain ⟨b, off, rfl, hb, hc⟩ := h1' h0
  exact ⟨b, off, rfl, Nat.lt_of_lt_of_le hb hs, fun j hj => (key b (off + j) (h3 h0 b off rfl) hb).trans (hc j hj)⟩
 ·obtain ⟨g, cap, e, hg, hgl, hr1, hr2⟩ := h4 k x hx
  refine ⟨g, cap, e, hg, Nat.lt_of_lt_of_le hgl hs, hr1, fun h0 => ?_⟩
  obtain ⟨b, off, he, hb, hc⟩ := hr2 h0
  cases he
  exact ⟨g, 0, rfl, Nat.lt_of_lt_of_le hgl hs, fun j hj => (key g (0 + j) hg hgl).trans (hc j hj)⟩
theorem RdDB.lowerB {w : World} {B B' : Nat} {A : Option Addr} {n : Nat} {d : List (List Int)} (h : RdDB w B A n d) (hb : B' ≤ B) : RdDB w B' A n d := by
 obtain ⟨hs, h1, h2, h3, h4⟩ := h
 exact ⟨hs, h1, h2, fun h0 b off he => Nat.le_trans hb (h3 h0 b off he), fun k x hx => by obtain ⟨g, cap, e, h5, h6⟩ := h4 k x hx; exact ⟨g, cap, e, Nat.le_trans hb h5, h6⟩⟩
theorem RdDB.at {w : World} {B : Nat} {A : Option Addr} {n : Nat} {d : List (List Int)} (h : RdDB w B A n d) {k : Nat} (hk : k < n) :
  ∃ b off x g cap, A = some ⟨b, off, none⟩ ∧ d[k]? = some x ∧ (b < w.heap.size ∧ B ≤ b) ∧ (g < w.heap.size ∧ B ≤ g) ∧ w.cell? ⟨b, off + k, none⟩ = some (.slice (some ⟨g, 0, none⟩) x.length cap) ∧ RdI w (some ⟨g, 0, none⟩) x.length x := by
 obtain ⟨hs, h1, h2, h4, h3⟩ := h
 obtain ⟨b, off, hA, hb, hc⟩ := RdS.at h1 hk
 have hx : k < d.length := by omega
 obtain ⟨g, cap, e, hgB, hg, hr⟩ := h3 k d[k] (List.getElem?_eq_getElem hx)
 have h0 := hc 0 (by omega)
 rw [Nat.mul_one, Nat.add_zero, e] at h0
 exact ⟨b, off, d[k], g, cap, hA, List.getElem?_eq_getElem hx, ⟨hb, h4 (by omega) b off hA⟩, ⟨hg, hgB⟩, h0, hr⟩
/-- one block written, else new memory -/
theorem gb_below {W w : World} {go B : Nat} (h : W.grownBy w (some go)) (h1 : B ≤ W.heap.size) (h2 : B ≤ go) : Below B W w := (Below.refl B W).grown h h1 (fun j hj => by cases hj; exact h2)
theorem gb_call {W w w' : World} {go : Nat} (h : W.grownBy w (some go)) (hb : Below W.heap.size w w') : W.grownBy w' (some go) :=
 ⟨hb.os.trans h.os, hb.tape.trans h.tape, hb.output.trans h.output, Nat.le_trans h.size hb.size, fun k hk hne => (hb.block k hk).trans (h.block k hk hne)⟩
theorem gb_set {W w : World} {go k : Nat} {v : Value} (h : W.grownBy w (some go)) : W.grownBy (w.setCell ⟨go, k, none⟩ v) (some go) :=
 ⟨((Below.refl 0 w).setCell (p := ⟨go, k, none⟩) (Nat.zero_le _) v).os.trans h.os, ((Below.refl 0 w).setCell (p := ⟨go, k, none⟩) (Nat.zero_le _) v).tape.trans h.tape, ((Below.refl 0 w).setCell (p := ⟨go, k, none⟩) (Nat.zero_le _) v).output.trans h.output, (by simpa using h.size), fun j hj hne => (set_far (p := ⟨go, k, none⟩) v (fun e => hne (by rw [e]))).trans (h.block j hj hne)⟩
theorem RdI.gb {w w' : World} {g n go : Nat} {l : List Int} (h : RdI w (some ⟨g, 0, none⟩) n l) (hg : w.grownBy w' (some go)) (hne : g ≠ go) : RdI w' (some ⟨g, 0, none⟩) n l := by
 refine ⟨h.1, fun h0 => ?_⟩
 obtain ⟨b, off, he, hb, hc⟩ := h.2 h0
 cases he
 exact ⟨g, 0, rfl, Nat.lt_of_lt_of_le hb hg.size, fun j hj => (World.cell?_of_block (a := ⟨g, 0 + j, none⟩) (hg.block g hb (fun e => hne (Option.some.inj e)))).trans (hc j hj)⟩
theorem VD.rdB {w : World} {B n : Nat} {f : Pr → List Int} {ps : List Pr} {vs : List Value} {x : Value} (h : VD w B n f ps vs ps.length) (hown : OwnD w B x ps.length vs) : ∃ A cap, x = .slice A ps.length cap ∧ RdDB w B A ps.length (ps.map f) := by
 obtain ⟨A, cap, rfl, hr⟩ := Sl.of_own hown
 refine ⟨A, cap, rfl, vs, hr, by simp, fun h0 b off he => ?_, fun k x hx => ?_⟩
 ·obtain ⟨_, ⟨h1, h2⟩ | ⟨g', cap', cur, e, hg', _⟩⟩ := hown
  ·omega
  ·cases e; cases he; exact hg'
 rw [List.getElem?_map] at hx
 cases hp : ps[k]? with
 | none => rw [hp] at hx; cases hx
 | some p =>
  rw [hp] at hx
  have hxe : f p = x := by simpa using hx
  have hk : k < ps.length := by
   by_cases h : k < ps.length
   ·exact h
   ·rw [List.getElem?_eq_none (by omega)] at hp; cases hp
  obtain ⟨g, cap, h1, h2⟩ := h.2 k p hk hp
  rw [hxe] at h2
  have hl := h2.len
  obtain ⟨cs, c1, _, _, _, _, _, c7⟩ := h2
  rw [hl]
  have h2 : RowI w B g cap n x := by
   obtain ⟨g2, cap2, h1', h2'⟩ := h.2 k p hk hp
   rw [h1] at h1'
   cases h1'
   rw [hxe] at h2'
   exact h2'
  exact ⟨g, cap, h1, c7, (Array.getElem?_eq_some_iff.1 c1).1, h2.rd⟩
theorem c108 (c r : Nat) (A : Option Addr) (n cap : Nat) (l : List Int) (un len most : Int) (P : Option Addr) (np capp : Nat) (ps : List Pr) (w : World) (g : Im.Gr c r l) (hc : c ≤ 16) (hr : r ≤ 16) (hu : 1 ≤ un ∧ un ≤ 1000) (hnp : np ≤ 16) (hcp : np ≤ capp) (hcells : ∀ p, p ∈ ps → (0 ≤ p.s ∧ p.s < (n : Int)) ∧ (0 ≤ p.r ∧ p.r < (n : Int))) (H : RdI w A n l) (HP : RdP w P np ps) (hst : Steps w) :
  Calls Tryz.prog 108 #[.agg #[.int .i64 c, .int .i64 r, .slice A n cap], .agg #[.int .i64 un, .int .i64 len, .int .i64 most, .slice P np capp]] w fun en w' => ∃ A' cap', en = .returned (.slice A' np cap') ∧ RdDB w' w.heap.size A' np (ps.map (dlp c l un len most)) ∧ Below w.heap.size w w' := by
 have HPL := Lib.hid HP.len
 have HLN := Lib.hid H.len
 have HCE := Lib.hid hcells
 clear hcells
 have hn0 : 0 < n := by
  have h1 := g.c1; have h2 := g.r1; have h3 := g.len
  have : 1 * 1 ≤ c * r := Nat.mul_le_mul h1 h2
  rw [← HLN.out]; omega
 obtain ⟨i0, hi, hz0, hz1, hz2⟩ := info_parts infoSl
 obtain ⟨w0, hW⟩ : ∃ W, W = (w.alloc (Obj.cells #[.int .i64 c, .int .i64 r, .slice A n cap] 35)).alloc (Obj.cells #[.int .i64 un, .int .i64 len, .int .i64 most, .slice P np capp] 39) := ⟨_, rfl⟩
 have hT0 : w0.heap[w.heap.size]? = some (.cells #[.int .i64 c, .int .i64 r, .slice A n cap] 35 (0, 0)) := by rw [hW]; exact heap_old (by simp <;> omega) (heap_new (by simp))
 have hT1 : w0.heap[w.heap.size + 1]? = some (.cells #[.int .i64 un, .int .i64 len, .int .i64 most, .slice P np capp] 39 (0, 0)) := by rw [hW]; exact heap_new (by simp)
 have hB0 : Below w.heap.size w w0 := by rw [hW]; exact (((Below.refl _ _).alloc (by first | omega | (simp <;> omega)) _).alloc (by first | omega | (simp <;> omega)) _)
 replace H := H.below hB0
 replace HP := HP.below hB0
 replace hst := hst.below hB0
 go_enter Tryz.func108, Tryz.ntmps108
 go_wp2_with fail
 rw [← hW]
 clear hW
 have qhT0_0 : w0.cell? ⟨w.heap.size, 0, none⟩ = some (.int .i64 c) := cell_at hT0 rfl
 have qhT0_1 : w0.cell? ⟨w.heap.size, 1, none⟩ = some (.int .i64 r) := cell_at hT0 rfl
 have qhT0_2 : w0.cell? ⟨w.heap.size, 2, none⟩ = some (.slice A n cap) := cell_at hT0 rfl
 have qhT1_0 : w0.cell? ⟨w.heap.size + 1, 0, none⟩ = some (.int .i64 un) := cell_at hT1 rfl
 have qhT1_1 : w0.cell? ⟨w.heap.size + 1, 1, none⟩ = some (.int .i64 len) := cell_at hT1 rfl
 have qhT1_2 : w0.cell? ⟨w.heap.size + 1, 2, none⟩ = some (.int .i64 most) := cell_at hT1 rfl
 have qhT1_3 : w0.cell? ⟨w.heap.size + 1, 3, none⟩ = some (.slice P np capp) := cell_at hT1 rfl
 have HSW : Hid (w.heap.size ≤ w0.heap.size) := Lib.hid hB0.size
 go_wp2_with fail
 have hst0 : Hid (VD w0 w0.heap.size n (dlp c l un len most) ps [] 0) := Lib.hid ⟨rfl, fun j _ h => absurd h (Nat.not_lt_zero j)⟩
 go_loopw [5, 12] (fun x i wr => ∃ (k : Nat) (vs : List Value), k ≤ np ∧ i = .int .i64 k ∧ OwnD wr w0.heap.size x k vs ∧ Hid (VD wr w0.heap.size n (dlp c l un len most) ps vs k) ∧ Below w0.heap.size w0 wr) (fun _ i _ => np - (intOf i).toNat)
 case atStart => exact ⟨0, [], Nat.zero_le _, rfl, World.ownsRow_nil _ _ _ _, hst0, Below.refl _ _⟩
 case round =>
  clear hst0
  obtain ⟨k, vs, hk, rfl, hown, HVD, hbr⟩ := hrel
  have hvd := HVD.out
  clear HVD
  obtain ⟨w1, hww⟩ : ∃ W, W = wr := ⟨_, rfl⟩
  subst hww
  have hB1 := hB0.call hbr rfl
  replace hT0 := blkb hT0 hbr
  replace hT1 := blkb hT1 hbr
  replace H := H.below hbr
  replace HP := HP.below hbr
  replace hst := hst.below hbr
  clear hB0
  have qhT0_0 : w1.cell? ⟨w.heap.size, 0, none⟩ = some (.int .i64 c) := cell_at hT0 rfl
  have qhT0_1 : w1.cell? ⟨w.heap.size, 1, none⟩ = some (.int .i64 r) := cell_at hT0 rfl
  have qhT0_2 : w1.cell? ⟨w.heap.size, 2, none⟩ = some (.slice A n cap) := cell_at hT0 rfl
  have qhT1_0 : w1.cell? ⟨w.heap.size + 1, 0, none⟩ = some (.int .i64 un) := cell_at hT1 rfl
  have qhT1_1 : w1.cell? ⟨w.heap.size + 1, 1, none⟩ = some (.int .i64 len) := cell_at hT1 rfl
  have qhT1_2 : w1.cell? ⟨w.heap.size + 1, 2, none⟩ = some (.int .i64 most) := cell_at hT1 rfl
  have qhT1_3 : w1.cell? ⟨w.heap.size + 1, 3, none⟩ = some (.slice P np capp) := cell_at hT1 rfl
  have hwk : IntKind.i64.wrap ((k : Int) + 1) = ((k + 1 : Nat) : Int) := by rw [wrapI (by omega)]; simp
  by_cases hlt : k < np
  rotate_left
  ·
    obtain rfl : np = k := by omega
    obtain ⟨A', cap', rfl, HF⟩ : ∃ A' cap', u5 = .slice A' np cap' ∧ Hid (RdDB w1 w.heap.size A' np (ps.map (dlp c l un len most))) := by
     have e := HPL.out
     subst e
     obtain ⟨A', cap', h1, h2⟩ := hvd.rdB hown
     exact ⟨A', cap', h1, Lib.hid (h2.lowerB HSW.out)⟩
    go_wp2
    go_ret
    exact ⟨A', cap', rfl, HF.out, hB1⟩
  have hkm2 : (k : Int) < (np : Int) := by omega
  have hk02 : (0 : Int) ≤ (k : Int) := by omega
  have hkc : (k : Int) ≤ (capp : Int) := by omega
  obtain ⟨pb, poff, p, rfl, hpx, hpb, hp0, hp1, hp2⟩ := HP.at hlt
  have hpc := HCE.out p (List.mem_of_getElem? hpx)
  obtain ⟨p0, p1, ph⟩ := p
  dsimp only at hpc hp0 hp1 hp2
  obtain ⟨a, rfl⟩ : ∃ a : Nat, p0 = a := ⟨p0.toNat, by omega⟩
  obtain ⟨b, rfl⟩ : ∃ b : Nat, p1 = b := ⟨p1.toNat, by omega⟩
  have han : a < n := by omega
  have hbn : b < n := by omega
  have HPX := Lib.hid hpx
  clear hpx hpc
  obtain ⟨A5, cap5, rfl, hrd5⟩ := Sl.of_own hown
  have z0 : w.heap.size < w1.heap.size := (Array.getElem?_eq_some_iff.1 hT0).1
  have z1 : w.heap.size + 1 < w1.heap.size := (Array.getElem?_eq_some_iff.1 hT1).1
  go_wp2_with fail
  obtain ⟨w2, hwn⟩ : ∃ V, V = w1.alloc (Obj.cells #[.int .i64 a, .int .i64 b, .bool ph] 148) := ⟨_, rfl⟩
  have hbn0 : Below w1.heap.size w1 w2 := by rw [hwn]; exact (Below.refl _ _).alloc (Nat.le_refl _) _
  obtain ⟨bkp, hbkp⟩ : ∃ b, b = w1.heap.size := ⟨_, rfl⟩
  have kp : w2.heap[bkp]? = some (.cells #[.int .i64 a, .int .i64 b, .bool ph] 148 (0, 0)) := by rw [hwn]; exact heap_new hbkp
  rw [← hbkp, ← hwn]
  clear hwn hbkp hp0 hp1 hp2 z0 z1
  clear qhT0_0 qhT0_1 qhT0_2 qhT1_0 qhT1_1 qhT1_2 qhT1_3
  have hS := hbn0
  have hB2 := hB1.call hS rfl
  replace hT0 := blkb hT0 hS
  replace hT1 := blkb hT1 hS
  replace H := H.below hS
  replace HP := HP.below hS
  replace hst := hst.below hS
  replace hbr := hbr.call hS rfl
  replace hown := hown.below hS
  replace hvd := hvd.below hS
  replace hrd5 := hrd5.below hS
  clear hS hB1
  have qhT0_0 : w2.cell? ⟨w.heap.size, 0, none⟩ = some (.int .i64 c) := cell_at hT0 rfl
  have qhT0_1 : w2.cell? ⟨w.heap.size, 1, none⟩ = some (.int .i64 r) := cell_at hT0 rfl
  have qhT0_2 : w2.cell? ⟨w.heap.size, 2, none⟩ = some (.slice A n cap) := cell_at hT0 rfl
  have qhT1_0 : w2.cell? ⟨w.heap.size + 1, 0, none⟩ = some (.int .i64 un) := cell_at hT1 rfl
  have qhT1_1 : w2.cell? ⟨w.heap.size + 1, 1, none⟩ = some (.int .i64 len) := cell_at hT1 rfl
  have qhT1_2 : w2.cell? ⟨w.heap.size + 1, 2, none⟩ = some (.int .i64 most) := cell_at hT1 rfl
  have qhT1_3 : w2.cell? ⟨w.heap.size + 1, 3, none⟩ = some (.slice (some ⟨pb, poff, none⟩) np capp) := cell_at hT1 rfl
  clear hbn0
  have qkp_0 : w2.cell? ⟨bkp, 0, none⟩ = some (.int .i64 a) := cell_at kp rfl
  have qkp_1 : w2.cell? ⟨bkp, 1, none⟩ = some (.int .i64 b) := cell_at kp rfl
  have qkp_2 : w2.cell? ⟨bkp, 2, none⟩ = some (.bool ph) := cell_at kp rfl
  go_wp2_with fail
  refine (c146 (some ⟨pb, poff, none⟩) k capp (ps.take k) ⟨bkp, 0, none⟩ (fun o => eqP o ⟨a, b, ph⟩) _ (by omega) (RdP.take HP (by omega)) (fun W x _ hW => c147 x ⟨a, b, ph⟩ bkp W (blkb kp hW))).mono ?_
  rintro e w3 ⟨ri, rfl, hri, hb⟩
  clear qhT0_0 qhT0_1 qhT0_2 qhT1_0 qhT1_1 qhT1_2 qhT1_3 qkp_0 qkp_1 qkp_2
  have hS := hb
  have hB3 := hB2.call hS rfl
  replace hT0 := blkb hT0 hS
  replace hT1 := blkb hT1 hS
  replace H := H.below hS
  replace HP := HP.below hS
  replace hst := hst.below hS
  replace hbr := hbr.call hS rfl
  replace hown := hown.below hS
  replace hvd := hvd.below hS
  replace hrd5 := hrd5.below hS
  replace kp := blkb kp hS
  clear hS hB2
  have qhT0_0 : w3.cell? ⟨w.heap.size, 0, none⟩ = some (.int .i64 c) := cell_at hT0 rfl
  have qhT0_1 : w3.cell? ⟨w.heap.size, 1, none⟩ = some (.int .i64 r) := cell_at hT0 rfl
  have qhT0_2 : w3.cell? ⟨w.heap.size, 2, none⟩ = some (.slice A n cap) := cell_at hT0 rfl
  have qhT1_0 : w3.cell? ⟨w.heap.size + 1, 0, none⟩ = some (.int .i64 un) := cell_at hT1 rfl
  have qhT1_1 : w3.cell? ⟨w.heap.size + 1, 1, none⟩ = some (.int .i64 len) := cell_at hT1 rfl
  have qhT1_2 : w3.cell? ⟨w.heap.size + 1, 2, none⟩ = some (.int .i64 most) := cell_at hT1 rfl
  have qhT1_3 : w3.cell? ⟨w.heap.size + 1, 3, none⟩ = some (.slice (some ⟨pb, poff, none⟩) np capp) := cell_at hT1 rfl
  have qkp_0 : w3.cell? ⟨bkp, 0, none⟩ = some (.int .i64 a) := cell_at kp rfl
  have qkp_1 : w3.cell? ⟨bkp, 1, none⟩ = some (.int .i64 b) := cell_at kp rfl
  have qkp_2 : w3.cell? ⟨bkp, 2, none⟩ = some (.bool ph) := cell_at kp rfl
  clear hb
  rcases hri with rfl | ⟨j, xj, rfl, hjk, hxj, hf⟩
  ·
    have hszq : w0.heap.size ≤ w3.heap.size := hbr.size
    go_wp2_with fail
    go_wp2_with fail
    refine (c99 c r A n cap l un len most (some ⟨pb, poff, none⟩) np capp a b ph _ g hc hr hu han hbn H hst).mono ?_
    rintro e w4 ⟨vd, rfl, hownd, hb⟩
    clear qhT0_0 qhT0_1 qhT0_2 qhT1_0 qhT1_1 qhT1_2 qhT1_3 qkp_0 qkp_1 qkp_2
    have hS := hb
    have hB4 := hB3.call hS rfl
    replace hT0 := blkb hT0 hS
    replace hT1 := blkb hT1 hS
    replace H := H.below hS
    replace HP := HP.below hS
    replace hst := hst.below hS
    replace hbr := hbr.call hS rfl
    replace hown := hown.below hS
    replace hvd := hvd.below hS
    replace hrd5 := hrd5.below hS
    replace kp := blkb kp hS
    clear hS hB3
    have qhT0_0 : w4.cell? ⟨w.heap.size, 0, none⟩ = some (.int .i64 c) := cell_at hT0 rfl
    have qhT0_1 : w4.cell? ⟨w.heap.size, 1, none⟩ = some (.int .i64 r) := cell_at hT0 rfl
    have qhT0_2 : w4.cell? ⟨w.heap.size, 2, none⟩ = some (.slice A n cap) := cell_at hT0 rfl
    have qhT1_0 : w4.cell? ⟨w.heap.size + 1, 0, none⟩ = some (.int .i64 un) := cell_at hT1 rfl
    have qhT1_1 : w4.cell? ⟨w.heap.size + 1, 1, none⟩ = some (.int .i64 len) := cell_at hT1 rfl
    have qhT1_2 : w4.cell? ⟨w.heap.size + 1, 2, none⟩ = some (.int .i64 most) := cell_at hT1 rfl
    have qhT1_3 : w4.cell? ⟨w.heap.size + 1, 3, none⟩ = some (.slice (some ⟨pb, poff, none⟩) np capp) := cell_at hT1 rfl
    have qkp_0 : w4.cell? ⟨bkp, 0, none⟩ = some (.int .i64 a) := cell_at kp rfl
    have qkp_1 : w4.cell? ⟨bkp, 1, none⟩ = some (.int .i64 b) := cell_at kp rfl
    have qkp_2 : w4.cell? ⟨bkp, 2, none⟩ = some (.bool ph) := cell_at kp rfl
    clear hb
    obtain ⟨gd, cd, rfl, hrowd⟩ := RowI.of_own hn0 hownd
    clear hownd
    have hrow : RowI w4 w0.heap.size gd cd n (dlp c l un len most ⟨a, b, ph⟩) := hrowd.lower hszq
    have hszn : w0.heap.size ≤ w4.heap.size := hbr.size
    have HBN : Hid (Below w0.heap.size w0 w4) := Lib.hid hbr
    have HVD := Lib.hid hvd
    have HROW := Lib.hid hrow
    have hown' : w4.ownsRow w0.heap.size 22 1 (.slice A5 k cap5) k vs := hown
    have HOWN := Lib.hid hown'
    clear hrow hvd
    go_wp2_with (at_builtin; refine wpList_append_own _ rfl _ _ 31 rfl w0.heap.size 22 i0 (.slice none 0 0) 1 24 Tryz.underlying31 hi hz0 hz1 hz2 rfl (by decide) _ _ _ rfl (hown'.alloc _) ⟨w4.heap.size, 0, none⟩ 1 1 [.slice (some ⟨gd, 0, none⟩) n cd] rfl rfl ?c1 ?c2 ?c3 ?c4 ?c5 ?_)
    case c1 => exact news_one _ _ rfl
    case c2 => intro x hx; simp at hx; subst hx; rfl
    case c3 => unfold maxLen; omega
    case c4 => omega
    case c5 => simp; omega
    intro x' wz hown3 hg3 _
    have hal : Below w4.heap.size w4 (w4.alloc (Obj.cells #[.slice (some ⟨gd, 0, none⟩) n cd] 22)) := (Below.refl _ _).alloc (Nat.le_refl _) _
    have HB3 : Hid (Below w0.heap.size w0 wz) := Lib.hid ((HBN.out.alloc hszn _).grown hg3 (by simp; omega) (fun g hg => (hown'.lt g hg).1))
    have HVD3 : Hid (VD wz w0.heap.size n (dlp c l un len most) ps (vs ++ [.slice (some ⟨gd, 0, none⟩) n cd]) (k + 1)) := Lib.hid ((HVD.out.below hal).push (hown'.alloc _) hg3 HPX.out (HROW.out.below hal))
    have HO : Hid (OwnD wz w0.heap.size x' (k + 1) (vs ++ [.slice (some ⟨gd, 0, none⟩) n cd])) := Lib.hid hown3
    clear hown3 hg3 hal hown' hown hszn hbr
    go_wp2
    go_roundw
    case rel => exact ⟨k + 1, vs ++ [.slice (some ⟨gd, 0, none⟩) n cd], by omega, by go_num, HO.out, HVD3, HB3.out⟩
    case measure => simp [intOf]; omega
  ·
    have hjps : ps[j]? = some xj := by rw [List.getElem?_take, if_pos hjk] at hxj; exact hxj
    have hxe := eqP_eq hf
    obtain ⟨gd, cd, hvj, hrowd⟩ := hvd.2 j xj hjk hjps
    subst hxe
    obtain ⟨gx, ox, hA5, hgx, hcx⟩ := RdS.at hrd5 hjk
    subst hA5
    have hcj := hcx 0 (by omega)
    rw [Nat.mul_one, Nat.add_zero, hvj] at hcj
    have hjd : decide ((0 : Int) ≤ (j : Int)) = true := by simp
    have hj0 : (0 : Int) ≤ (j : Int) := by omega
    have hjk2 : (j : Int) < (k : Int) := by omega
    have hszq : True := trivial
    clear hcx hxj hf hvj hjps
    have hrow : RowI w3 w0.heap.size gd cd n (dlp c l un len most ⟨a, b, ph⟩) := hrowd
    have hszn : w0.heap.size ≤ w3.heap.size := hbr.size
    have HBN : Hid (Below w0.heap.size w0 w3) := Lib.hid hbr
    have HVD := Lib.hid hvd
    have HROW := Lib.hid hrow
    have hown' : w3.ownsRow w0.heap.size 22 1 (.slice (some ⟨gx, ox, none⟩) k cap5) k vs := hown
    have HOWN := Lib.hid hown'
    clear hrow hvd
    go_wp2_with (at_builtin; refine wpList_append_own _ rfl _ _ 31 rfl w0.heap.size 22 i0 (.slice none 0 0) 1 24 Tryz.underlying31 hi hz0 hz1 hz2 rfl (by decide) _ _ _ rfl (hown'.alloc _) ⟨w3.heap.size, 0, none⟩ 1 1 [.slice (some ⟨gd, 0, none⟩) n cd] rfl rfl ?c1 ?c2 ?c3 ?c4 ?c5 ?_)
    case c1 => exact news_one _ _ rfl
    case c2 => intro x hx; simp at hx; subst hx; rfl
    case c3 => unfold maxLen; omega
    case c4 => omega
    case c5 => simp; omega
    intro x' wz hown3 hg3 _
    have hal : Below w3.heap.size w3 (w3.alloc (Obj.cells #[.slice (some ⟨gd, 0, none⟩) n cd] 22)) := (Below.refl _ _).alloc (Nat.le_refl _) _
    have HB3 : Hid (Below w0.heap.size w0 wz) := Lib.hid ((HBN.out.alloc hszn _).grown hg3 (by simp; omega) (fun g hg => (hown'.lt g hg).1))
    have HVD3 : Hid (VD wz w0.heap.size n (dlp c l un len most) ps (vs ++ [.slice (some ⟨gd, 0, none⟩) n cd]) (k + 1)) := Lib.hid ((HVD.out.below hal).push (hown'.alloc _) hg3 HPX.out (HROW.out.below hal))
    have HO : Hid (OwnD wz w0.heap.size x' (k + 1) (vs ++ [.slice (some ⟨gd, 0, none⟩) n cd])) := Lib.hid hown3
    clear hown3 hg3 hal hown' hown hszn hbr
    go_wp2
    go_roundw
    case rel => exact ⟨k + 1, vs ++ [.slice (some ⟨gd, 0, none⟩) n cd], by omega, by go_num, HO.out, HVD3, HB3.out⟩
    case measure => simp [intOf]; omega
end Go.Proofs.YtdimmlljjmmdbaaGreatDoor
/- Plain laws of chapter 07: traces and images on their way. -/
namespace Im
def trk (len : Nat) (ds ms : List Int) (j : Nat) : List Int := ((List.zip ds ms).take j).foldl (fun tr x => addAt tr x.1 x.2) (List.replicate len 0)
theorem trk_zero (len : Nat) (ds ms : List Int) : trk len ds ms 0 = List.replicate len 0 := rfl
theorem trk_full {len : Nat} {ds ms : List Int} {j : Nat} (h1 : ds.length = j) (h2 : ms.length = j) : trk len ds ms j = trace len ds ms := by
 unfold trk trace
 rw [List.take_of_length_le (by simp; omega)]
theorem trk_succ {len : Nat} {ds ms : List Int} {j : Nat} (h1 : j < ds.length) (h2 : j < ms.length) : trk len ds ms (j + 1) = addAt (trk len ds ms j) (at0 ds j) (at0 ms j) := by
 unfold trk
 have h3 : j < (List.zip ds ms).length := by simp; omega
 rw [List.take_succ_eq_append_getElem h3, List.foldl_append]
 simp [at0, List.getD_eq_getElem?_getD, h1, h2]
theorem trk_len (len : Nat) (ds ms : List Int) (j : Nat) : (trk len ds ms j).length = len := by unfold trk; rw [trace_fold_len]; simp
theorem addAt_le {tr : List Int} {d m B C : Int} (hm : -B ≤ m ∧ m ≤ B) (h : ∀ i, -C ≤ at0 tr i ∧ at0 tr i ≤ C) (hB : 0 ≤ B) : ∀ i, -(C + B) ≤ at0 (addAt tr d m) i ∧ at0 (addAt tr d m) i ≤ C + B := by
 intro i
 unfold addAt
 split
 ·by_cases hd : d.toNat < tr.length
  ·rw [at0_setk hd]
   split
   ·have := h d.toNat; omega
   ·have := h i; omega
  ·rw [List.set_eq_of_length_le (by omega)]
   have := h i; omega
 ·have := h i; omega
theorem trk_le {len : Nat} {ds ms : List Int} {B : Int} (hB : 0 ≤ B) (hm : ∀ k, k < ms.length → -B ≤ at0 ms k ∧ at0 ms k ≤ B) (hl : ds.length = ms.length) : ∀ (j : Nat), j ≤ ds.length → ∀ i, -((j : Int) * B) ≤ at0 (trk len ds ms j) i ∧ at0 (trk len ds ms j) i ≤ (j : Int) * B := by
 intro j
 induction j with
 | zero => intro _ i; rw [trk_zero, zeros_at]; simp
 | succ j ih =>
  intro hj i
  rw [trk_succ (by omega) (by omega)]
  have h1 := addAt_le (d := at0 ds j) (hm j (by omega)) (ih (by omega)) hB i
  have e : ((j + 1 : Nat) : Int) * B = (j : Int) * B + B := by rw [Int.natCast_add, Int.add_mul]; simp
  rw [e]; exact h1
/-- a list, the first k places filled -/
def upto (T : List (List Int)) (k : Nat) : List (List Int) := (List.range T.length).map fun j => if j < k then T.getD j [] else []
theorem upto_len (T : List (List Int)) (k : Nat) : (upto T k).length = T.length := by simp [upto]
theorem upto_zero (T : List (List Int)) : upto T 0 = List.replicate T.length [] := by
 apply List.ext_getElem (by simp [upto])
 intro i h1 h2
 simp [upto]
theorem upto_full (T : List (List Int)) : upto T T.length = T := by
 apply List.ext_getElem (by simp [upto])
 intro i h1 h2
 simp [upto, h2, List.getD_eq_getElem?_getD]
theorem upto_set {T : List (List Int)} {k : Nat} {x : List Int} (hx : T[k]? = some x) : (upto T k).set k x = upto T (k + 1) := by
 apply List.ext_getElem (by simp [upto])
 intro i h1 h2
 have hi : i < T.length := by simpa [upto] using h2
 by_cases h3 : k = i
 ·subst h3
  simp [upto, List.getD_eq_getElem?_getD, hx]
 ·rw [List.getElem_set_ne h3]
  simp only [upto, List.getElem_map, List.getElem_range]
  by_cases h4 : i < k
  ·rw [if_pos h4, if_pos (by omega)]
  ·rw [if_neg h4, if_neg (by omega)]
theorem upto_nil {T : List (List Int)} {k : Nat} (hx : T[k]? = some []) : upto T (k + 1) = upto T k := by
 apply List.ext_getElem (by simp [upto])
 intro i h1 h2
 simp only [upto, List.getElem_map, List.getElem_range]
 by_cases h3 : i = k
 ·subst h3
  rw [if_pos (by omega), if_neg (by omega)]
  simp [List.getD_eq_getElem?_getD, hx]
 ·by_cases h4 : i < k
  ·rw [if_pos h4, if_pos (by omega)]
  ·rw [if_neg h4, if_neg (by omega)]
/-- a list on its way to another one -/
def mix (a b : List Int) (j : Nat) : List Int := (List.range a.length).map fun i => if i < j then at0 b i else at0 a i
theorem mix_len (a b : List Int) (j : Nat) : (mix a b j).length = a.length := by simp [mix]
theorem mix_get {a b : List Int} {j i : Nat} (h : i < a.length) : at0 (mix a b j) i = if i < j then at0 b i else at0 a i := at0_map_range _ _ _ h
theorem mix_zero (a b : List Int) : mix a b 0 = a := ext_at (mix_len _ _ _) fun i hi => by
 rw [mix_len] at hi
 rw [mix_get hi, if_neg (Nat.not_lt_zero i)]
theorem mix_full {a b : List Int} (h : b.length = a.length) : mix a b a.length = b := ext_at (by rw [mix_len, h]) fun i hi => by
 rw [mix_len] at hi
 rw [mix_get hi, if_pos hi]
theorem mix_keep {a b : List Int} {j : Nat} (h : at0 b j = at0 a j) : mix a b (j + 1) = mix a b j := ext_at (by simp [mix_len]) fun i hi => by
 rw [mix_len] at hi
 rw [mix_get hi, mix_get hi]
 by_cases e : i = j
 ·subst e
  rw [if_pos (by omega), if_neg (by omega), h]
 ·by_cases h4 : i < j
  ·rw [if_pos h4, if_pos (by omega)]
  ·rw [if_neg h4, if_neg (by omega)]
theorem mix_set {a b : List Int} {j : Nat} (hj : j < a.length) : (mix a b j).set j (at0 b j) = mix a b (j + 1) := ext_at (by simp [mix_len]) fun i hi => by
 have hi : i < a.length := by simpa [mix_len] using hi
 rw [at0_setk (by rw [mix_len]; exact hj), mix_get hi, mix_get hi]
 by_cases e : i = j
 ·subst e
  rw [if_pos rfl, if_pos (by omega)]
 ·rw [if_neg e]
  by_cases h4 : i < j
  ·rw [if_pos h4, if_pos (by omega)]
  ·rw [if_neg h4, if_neg (by omega)]
theorem dly_lt {c : Nat} {l ns : List Int} {len most : Int} {hole : Bool} {i : Nat} (h : 0 ≤ dly c l ns len most hole i) : dly c l ns len most hole i < len := by
 unfold dly at h ⊢
 split
 ·rename_i hh; rw [if_pos hh] at h; omega
 ·rename_i hh
  simp only [Bool.or_eq_true, decide_eq_true_eq, not_or] at hh
  omega
theorem dly_hole (c : Nat) (l ns : List Int) (len most : Int) (i : Nat) : dly c l ns len most true i = -1 := by simp [dly]
end Im
namespace Go.Proofs.YtdimmlljjmmdbaaGreatDoor
open Go.RowKit
set_option maxHeartbeats 4000000
set_option maxRecDepth 20000
/-- a slice of the call's own, or none -/
def RwM (w : World) (B : Nat) (v : Value) (x : List Int) : Prop := (v = .slice none 0 0 ∧ x = []) ∨ ∃ g cp, v = .slice (some ⟨g, 0, none⟩) x.length cp ∧ RowI w B g cp x.length x
theorem RwM.below {w w' : World} {B : Nat} {v : Value} {x : List Int} (h : RwM w B v x) (hb : Below w.heap.size w w') : RwM w' B v x := by
 rcases h with h | ⟨g, cp, h1, h2⟩
 ·exact .inl h
 ·exact .inr ⟨g, cp, h1, h2.below hb⟩
/-- a block of slices of the call's own -/
def OutM (w : World) (B go : Nat) (rows : List (List Int)) : Prop := ∃ cs : Array Value, w.heap[go]? = some (.cells cs 22 (0, 0)) ∧ cs.size = rows.length ∧ ∀ (j : Nat) (x : List Int), rows[j]? = some x → ∃ v, cs[j]? = some v ∧ RwM w B v x
theorem OutM.below {w w' : World} {B go : Nat} {rows : List (List Int)} (h : OutM w B go rows) (hb : Below w.heap.size w w') : OutM w' B go rows := by
 obtain ⟨cs, h1, h2, h3⟩ := h
 exact ⟨cs, blkb h1 hb, h2, fun j x hx => by obtain ⟨v, hv, hr⟩ := h3 j x hx; exact ⟨v, hv, hr.below hb⟩⟩
/-- one row made: its block new, the cell stored, then stores in new memory alone -/
theorem OutM.fill {wM wr : World} {B go k : Nat} {rows : List (List Int)} {o : Obj} {v : Value} {x : List Int} (h : OutM wM B go rows) (hk : k < rows.length) (hb : Below wM.heap.size ((wM.setCell ⟨go, k, none⟩ v).alloc o) wr) (hrow : RwM wr B v x) : OutM wr B go (rows.set k x) := by
 obtain ⟨cs, h1, h2, h3⟩ := h
 have hgo : go < wM.heap.size := (Array.getElem?_eq_some_iff.1 h1).1
 have hs : (wM.setCell ⟨go, k, none⟩ v).heap.size = wM.heap.size := by simp
 have hA : Below wM.heap.size (wM.setCell ⟨go, k, none⟩ v) ((wM.setCell ⟨go, k, none⟩ v).alloc o) := (Below.refl _ _).alloc (by rw [hs]; exact Nat.le_refl _) _
 have e2 : (wM.setCell ⟨go, k, none⟩ v).heap[go]? = some (.cells (cs.setIfInBounds k v) 22 (0, 0)) := set_blk (i := k) h1 v
 have e3 : wr.heap[go]? = some (.cells (cs.setIfInBounds k v) 22 (0, 0)) := ((hb.block go hgo).trans (hA.block go hgo)).trans e2
 refine ⟨cs.setIfInBounds k v, e3, by simp [h2], fun j y hy => ?_⟩
 by_cases hjk : k = j
 ·subst hjk
  have : x = y := by rw [List.getElem?_set] at hy; simpa [hk] using hy
  subst this
  exact ⟨v, by rw [Array.getElem?_setIfInBounds]; simp [h2, hk], hrow⟩
 ·have hy' : rows[j]? = some y := by rw [List.getElem?_set, if_neg hjk] at hy; exact hy
  obtain ⟨u, hu, hr⟩ := h3 j y hy'
  refine ⟨u, by rw [Array.getElem?_setIfInBounds, if_neg hjk]; exact hu, ?_⟩
  rcases hr with hr | ⟨g, cp, hr1, cs2, hr2, hr3⟩
  ·exact .inl hr
  ·have hg : g < wM.heap.size := (Array.getElem?_eq_some_iff.1 hr2).1
   have hne : g ≠ go := fun e => by rw [e, h1] at hr2; simp at hr2
   have f1 : (wM.setCell ⟨go, k, none⟩ v).heap[g]? = some (.cells cs2 3 (0, 0)) := (set_far (p := ⟨go, k, none⟩) v hne).trans hr2
   exact .inr ⟨g, cp, hr1, cs2, ((hb.block g hg).trans (hA.block g hg)).trans f1, hr3⟩
theorem OutM.lower {w : World} {B B' go : Nat} {rows : List (List Int)} (h : OutM w B go rows) (hb : B' ≤ B) : OutM w B' go rows := by
 obtain ⟨cs, h1, h2, h3⟩ := h
 refine ⟨cs, h1, h2, fun j x hx => ?_⟩
 obtain ⟨v, hv, hr⟩ := h3 j x hx
 refine ⟨v, hv, ?_⟩
 rcases hr with hr | ⟨g, cp, e, hr⟩
 ·exact .inl hr
 ·exact .inr ⟨g, cp, e, hr.lower hb⟩
theorem OutM.cell {w : World} {B go k : Nat} {rows : List (List Int)} (h : OutM w B go rows) (hk : k < rows.length) : ∃ v, w.cell? ⟨go, k, none⟩ = some v ∧ w.frozen? ⟨go, k, none⟩ = false := by
 obtain ⟨cs, h1, h2, h3⟩ := h
 obtain ⟨v, hv, _⟩ := h3 k rows[k] (List.getElem?_eq_getElem hk)
 exact ⟨v, cell_at h1 hv, free_at h1⟩
theorem OutM.lt {w : World} {B go : Nat} {rows : List (List Int)} (h : OutM w B go rows) : go < w.heap.size := by
 obtain ⟨cs, h1, _⟩ := h
 exact (Array.getElem?_eq_some_iff.1 h1).1
theorem OutM.rd {w : World} {B go n : Nat} {rows : List (List Int)} (h : OutM w B go rows) (hn : rows.length = n) : RdD w (some ⟨go, 0, none⟩) n rows := by
 obtain ⟨cs, h1, h2, h3⟩ := h
 refine ⟨cs.toList, RdS.of_block (cs := cs.toList) (by simpa using h1) (by simp [h2, hn]), hn, fun k x hx => ?_⟩
 obtain ⟨v, hv, hr⟩ := h3 k x hx
 rw [Array.getElem?_toList]
 rcases hr with ⟨rfl, rfl⟩ | ⟨g, cp, rfl, hr⟩
 ·exact ⟨none, 0, hv, ⟨rfl, fun h => absurd h (Nat.lt_irrefl _)⟩⟩
 ·exact ⟨some ⟨g, 0, none⟩, cp, hv, hr.rd⟩
theorem OutM.start {w : World} {go B np : Nat} {f : Nat → Value} {T : List (List Int)} (h : w.heap[go]? = some (.cells (fillA (.slice none 0 0) f np 0) 22 (0, 0))) (hT : T.length = np) : OutM w B go (Im.upto T 0) := by
 refine ⟨_, h, by rw [fillA_size, Im.upto_len, hT], fun j x hx => ?_⟩
 have hj : j < np := by
  by_cases h : j < np
  ·exact h
  ·rw [List.getElem?_eq_none (by rw [Im.upto_len]; omega)] at hx; cases hx
 refine ⟨.slice none 0 0, by rw [fillA_get _ _ _ _ _ hj, if_neg (Nat.not_lt_zero j)], .inl ⟨rfl, ?_⟩⟩
 rw [Im.upto_zero, List.getElem?_replicate] at hx
 split at hx
 ·exact (Option.some.inj hx).symm
 ·cases hx
/-- the trace of a pair, and all traces, of a model -/
noncomputable def trc (c : Nat) (l : List Int) (un : Int) (ln : Nat) (most : Int) (ms : List Int) (p : Pr) : List Int := if p.h = true then [] else Im.trace ln (dlp c l un ln most p) ms
noncomputable def trcs (c : Nat) (l : List Int) (un : Int) (ln : Nat) (most : Int) (ms : List Int) (ps : List Pr) : List (List Int) := ps.map (trc c l un ln most ms)
theorem dlp_len (c : Nat) (l : List Int) (un len most : Int) (p : Pr) : (dlp c l un len most p).length = l.length := by unfold dlp dlL; exact Im.delays_len _ _ _ _ _ _
theorem dlp_lt {c : Nat} {l : List Int} {un len most : Int} {p : Pr} {j : Nat} (hj : j < l.length) (h : 0 ≤ Im.at0 (dlp c l un len most p) j) : Im.at0 (dlp c l un len most p) j < len := by
 unfold dlp dlL at h ⊢
 rw [Im.delays_at hj] at h ⊢
 exact Im.dly_lt h
theorem c91 (c r : Nat) (A : Option Addr) (n cap : Nat) (l : List Int) (un : Int) (ln : Nat) (most : Int) (P : Option Addr) (np capp : Nat) (ps : List Pr) (M : Option Addr) (capm : Nat) (ms : List Int) (w : World) (g : Im.Gr c r l) (hc : c ≤ 16) (hr : r ≤ 16) (hu : 1 ≤ un ∧ un ≤ 1000) (hln : 1 ≤ ln ∧ ln ≤ 256) (hnp : np ≤ 16) (hcp : np ≤ capp) (hcells : ∀ p, p ∈ ps → (0 ≤ p.s ∧ p.s < (n : Int)) ∧ (0 ≤ p.r ∧ p.r < (n : Int))) (hms : ∀ k, k < n → -1000 ≤ Im.at0 ms k ∧ Im.at0 ms k ≤ 1000) (H : RdI w A n l) (HP : RdP w P np ps) (HM : RdI w M n ms) (hst : Steps w) :
  Calls Tryz.prog 91 #[.agg #[.int .i64 c, .int .i64 r, .slice A n cap], .agg #[.int .i64 un, .int .i64 (ln : Nat), .int .i64 most, .slice P np capp], .slice M n capm] w fun en w' => ∃ go, en = .returned (.slice (some ⟨go, 0, none⟩) np np) ∧ w.heap.size ≤ go ∧ OutM w' w.heap.size go (trcs c l un ln most ms ps) ∧ Below w.heap.size w w' := by
 have HPL := Lib.hid HP.len
 have HLN := Lib.hid H.len
 have HML := Lib.hid HM.len
 have hn0 : 0 < n := by
  have h1 := g.c1; have h2 := g.r1; have h3 := g.len
  have : 1 * 1 ≤ c * r := Nat.mul_le_mul h1 h2
  rw [← HLN.out]; omega
 have hn256 : n ≤ 256 := by
  have h3 := g.len
  have : c * r ≤ 16 * 16 := Nat.mul_le_mul hc hr
  rw [← HLN.out]; omega
 obtain ⟨i0, hi, hz0, hz1, hz2⟩ := info_parts info3
 obtain ⟨i1, hi1, hy0, hy1, hy2⟩ := info_parts infoSl
 have hmk1 := fun W => run_make_fill (P := Tryz.prog) 22 3 i0 (.int .i64 0) (fun _ => .int .i64 0) Tryz.underlying22 hi hz0 hz1 rfl ln (by omega) (by rw [hz2]; omega) W
 have hmk2 := fun W => run_make_fill (P := Tryz.prog) 31 22 i1 (.slice none 0 0) (fun _ => .slice none 0 0) Tryz.underlying31 hi1 hy0 hy1 rfl np (by omega) (by rw [hy2]; omega) W
 have HMK1 := Lib.hid hmk1
 clear hi hz0 hz1 hz2 hi1 hy0 hy1 hy2 hmk1
 have HMS := Lib.hid hms
 clear hms
 obtain ⟨TL, hTL⟩ : ∃ T, T = trcs c l un ln most ms ps := ⟨_, rfl⟩
 rw [← hTL]
 have HTL := Lib.hid hTL
 have HTN : Hid (TL.length = np) := Lib.hid (by rw [hTL]; simp [trcs, HPL.out])
 clear hTL
 obtain ⟨w0, hW⟩ : ∃ W, W = (w.alloc (Obj.cells #[.int .i64 c, .int .i64 r, .slice A n cap] 35)).alloc (Obj.cells #[.int .i64 un, .int .i64 (ln : Nat), .int .i64 most, .slice P np capp] 39) := ⟨_, rfl⟩
 have hT0 : w0.heap[w.heap.size]? = some (.cells #[.int .i64 c, .int .i64 r, .slice A n cap] 35 (0, 0)) := by rw [hW]; exact heap_old (by simp <;> omega) (heap_new (by simp))
 have hT1 : w0.heap[w.heap.size + 1]? = some (.cells #[.int .i64 un, .int .i64 (ln : Nat), .int .i64 most, .slice P np capp] 39 (0, 0)) := by rw [hW]; exact heap_new (by simp)
 have hB0 : Below w.heap.size w w0 := by rw [hW]; exact (((Below.refl _ _).alloc (by first | omega | (simp <;> omega)) _).alloc (by first | omega | (simp <;> omega)) _)
 replace H := H.below hB0
 replace HP := HP.below hB0
 replace HM := HM.below hB0
 replace hst := hst.below hB0
 go_enter Tryz.func91, Tryz.ntmps91
 have HS0 : w0.heap.size = w.heap.size + 1 + 1 := by rw [hW]; simp
 go_wp2_with fail
 rw [← hW]
 clear hW
 have qhT0_0 : w0.cell? ⟨w.heap.size, 0, none⟩ = some (.int .i64 c) := cell_at hT0 rfl
 have qhT0_1 : w0.cell? ⟨w.heap.size, 1, none⟩ = some (.int .i64 r) := cell_at hT0 rfl
 have qhT0_2 : w0.cell? ⟨w.heap.size, 2, none⟩ = some (.slice A n cap) := cell_at hT0 rfl
 have qhT1_0 : w0.cell? ⟨w.heap.size + 1, 0, none⟩ = some (.int .i64 un) := cell_at hT1 rfl
 have qhT1_1 : w0.cell? ⟨w.heap.size + 1, 1, none⟩ = some (.int .i64 (ln : Nat)) := cell_at hT1 rfl
 have qhT1_2 : w0.cell? ⟨w.heap.size + 1, 2, none⟩ = some (.int .i64 most) := cell_at hT1 rfl
 have qhT1_3 : w0.cell? ⟨w.heap.size + 1, 3, none⟩ = some (.slice P np capp) := cell_at hT1 rfl
 have z0 : w.heap.size < w0.heap.size := (Array.getElem?_eq_some_iff.1 hT0).1
 have z1 : w.heap.size + 1 < w0.heap.size := (Array.getElem?_eq_some_iff.1 hT1).1
 go_wp2_with fail
 obtain ⟨w1, hwn⟩ : ∃ V, V = w0.alloc (.cells (fillA (.slice none 0 0) (fun _ => .slice none 0 0) np 0) 22) := ⟨_, rfl⟩
 have hbn0 : Below w0.heap.size w0 w1 := by rw [hwn]; exact (Below.refl _ _).alloc (Nat.le_refl _) _
 obtain ⟨go, hgo'⟩ : ∃ b, b = w.heap.size + 1 + 1 := ⟨_, rfl⟩
 have hgo : go = w0.heap.size := by omega
 have ko : w1.heap[go]? = some (.cells (fillA (.slice none 0 0) (fun _ => .slice none 0 0) np 0) 22 (0, 0)) := by rw [hwn]; exact heap_new hgo
 have HGO : Hid (w0.heap.size ≤ go) := Lib.hid (by omega)
 have hom : OutM w1 w0.heap.size go (Im.upto TL 0) := OutM.start ko HTN.out
 rw [← hgo', ← hwn]
 clear hwn hgo hgo' HS0 hmk2 ko z0 z1
 have KH := Lib.hid H
 have KHP := Lib.hid HP
 have KHM := Lib.hid HM
 have Khst := Lib.hid hst
 have KhT0 := Lib.hid hT0
 have KhT1 := Lib.hid hT1
 have KB := Lib.hid hB0
 clear qhT0_0 qhT0_1 qhT0_2 qhT1_0 qhT1_1 qhT1_2 qhT1_3
 have hS := hbn0
 have hB1 := hB0.call hS rfl
 replace hT0 := blkb hT0 hS
 replace hT1 := blkb hT1 hS
 replace H := H.below hS
 replace HP := HP.below hS
 replace HM := HM.below hS
 replace hst := hst.below hS
 clear hS hB0
 have qhT0_0 : w1.cell? ⟨w.heap.size, 0, none⟩ = some (.int .i64 c) := cell_at hT0 rfl
 have qhT0_1 : w1.cell? ⟨w.heap.size, 1, none⟩ = some (.int .i64 r) := cell_at hT0 rfl
 have qhT0_2 : w1.cell? ⟨w.heap.size, 2, none⟩ = some (.slice A n cap) := cell_at hT0 rfl
 have qhT1_0 : w1.cell? ⟨w.heap.size + 1, 0, none⟩ = some (.int .i64 un) := cell_at hT1 rfl
 have qhT1_1 : w1.cell? ⟨w.heap.size + 1, 1, none⟩ = some (.int .i64 (ln : Nat)) := cell_at hT1 rfl
 have qhT1_2 : w1.cell? ⟨w.heap.size + 1, 2, none⟩ = some (.int .i64 most) := cell_at hT1 rfl
 have qhT1_3 : w1.cell? ⟨w.heap.size + 1, 3, none⟩ = some (.slice P np capp) := cell_at hT1 rfl
 have hbb := hbn0
 clear hbn0
 go_wp2_with fail
 have HOMLT := hom.lt
 refine (c108 c r A n cap l un ln most P np capp ps _ g hc hr hu hnp hcp hcells H HP hst).mono ?_
 rintro e w2 ⟨AL, capL, rfl, hall, hb⟩
 have HSZX := hb.size
 clear qhT0_0 qhT0_1 qhT0_2 qhT1_0 qhT1_1 qhT1_2 qhT1_3
 have hS := hb
 have hB2 := hB1.call hS rfl
 replace hT0 := blkb hT0 hS
 replace hT1 := blkb hT1 hS
 replace H := H.below hS
 replace HP := HP.below hS
 replace HM := HM.below hS
 replace hst := hst.below hS
 replace hom := hom.below hS
 replace hbb := hbb.call hS rfl
 clear hS hB1
 have qhT0_0 : w2.cell? ⟨w.heap.size, 0, none⟩ = some (.int .i64 c) := cell_at hT0 rfl
 have qhT0_1 : w2.cell? ⟨w.heap.size, 1, none⟩ = some (.int .i64 r) := cell_at hT0 rfl
 have qhT0_2 : w2.cell? ⟨w.heap.size, 2, none⟩ = some (.slice A n cap) := cell_at hT0 rfl
 have qhT1_0 : w2.cell? ⟨w.heap.size + 1, 0, none⟩ = some (.int .i64 un) := cell_at hT1 rfl
 have qhT1_1 : w2.cell? ⟨w.heap.size + 1, 1, none⟩ = some (.int .i64 (ln : Nat)) := cell_at hT1 rfl
 have qhT1_2 : w2.cell? ⟨w.heap.size + 1, 2, none⟩ = some (.int .i64 most) := cell_at hT1 rfl
 have qhT1_3 : w2.cell? ⟨w.heap.size + 1, 3, none⟩ = some (.slice P np capp) := cell_at hT1 rfl
 clear hb
 clear qhT0_0 qhT0_1 qhT0_2 qhT1_0 qhT1_1 qhT1_2 qhT1_3
 have HALL := Lib.hid hall
 have HSZ : Hid (go + 1 ≤ w1.heap.size ∧ w1.heap.size ≤ w2.heap.size) := Lib.hid ⟨HOMLT, HSZX⟩
 have HB1 : Hid (Below w0.heap.size w0 w2) := Lib.hid hbb
 have hom0 := Lib.hid hom
 have hgb0 : Hid (w2.grownBy w2 (some go)) := Lib.hid (grownBy_of_below (Below.refl _ _) _)
 clear hom hbb hall H HP HM hst hT0 hT1 hcells
 go_wp2_with fail
 go_loopw [20] (fun i wr => ∃ k : Nat, k ≤ np ∧ i = .int .i64 k ∧ Hid (OutM wr w0.heap.size go (Im.upto TL k)) ∧ Hid (w2.grownBy wr (some go))) (fun i _ => np - (intOf i).toNat)
 case atStart => exact ⟨0, Nat.zero_le _, rfl, hom0, hgb0⟩
 case round =>
  clear hom0 hgb0
  obtain ⟨k, hk, rfl, HOM, HGB⟩ := hrel
  obtain ⟨w3, hww⟩ : ∃ W, W = wr := ⟨_, rfl⟩
  subst hww
  have hbr : Below w0.heap.size w0 w3 := HB1.out.trans (gb_below HGB.out HB1.out.size HGO.out)
  have hB3 := KB.out.call hbr rfl
  have H := KH.out.below hbr
  have HP := KHP.out.below hbr
  have HM := KHM.out.below hbr
  have hst := Khst.out.below hbr
  have hT0 := blkb KhT0.out hbr
  have hT1 := blkb KhT1.out hbr
  have qhT0_0 : w3.cell? ⟨w.heap.size, 0, none⟩ = some (.int .i64 c) := cell_at hT0 rfl
  have qhT0_1 : w3.cell? ⟨w.heap.size, 1, none⟩ = some (.int .i64 r) := cell_at hT0 rfl
  have qhT0_2 : w3.cell? ⟨w.heap.size, 2, none⟩ = some (.slice A n cap) := cell_at hT0 rfl
  have qhT1_0 : w3.cell? ⟨w.heap.size + 1, 0, none⟩ = some (.int .i64 un) := cell_at hT1 rfl
  have qhT1_1 : w3.cell? ⟨w.heap.size + 1, 1, none⟩ = some (.int .i64 (ln : Nat)) := cell_at hT1 rfl
  have qhT1_2 : w3.cell? ⟨w.heap.size + 1, 2, none⟩ = some (.int .i64 most) := cell_at hT1 rfl
  have qhT1_3 : w3.cell? ⟨w.heap.size + 1, 3, none⟩ = some (.slice P np capp) := cell_at hT1 rfl
  have hall := HALL.out.keep HGB.out.size (fun b hb hl => HGB.out.block b hl (fun e => by have := HSZ.out; have e2 : b = go := Option.some.inj e; omega))
  have hwk : IntKind.i64.wrap ((k : Int) + 1) = ((k + 1 : Nat) : Int) := by rw [wrapI (by omega)]; simp
  by_cases hlt : k < np
  rotate_left
  ·obtain rfl : np = k := by omega
   have HF : Hid (OutM w3 w.heap.size go TL) := Lib.hid (by
    have h := HOM.out
    rw [← HTN.out, Im.upto_full] at h
    exact h.lower KB.out.size)
   have HGW : Hid (w.heap.size ≤ go) := Lib.hid (Nat.le_trans KB.out.size HGO.out)
   go_wp2
   go_ret
   exact ⟨go, rfl, HGW.out, HF.out, hB3⟩
  have hkm2 : (k : Int) < (np : Int) := by omega
  have hk02 : (0 : Int) ≤ (k : Int) := by omega
  obtain ⟨pb, poff, p, rfl, hpx, hpb, hp0, hp1, hp2⟩ := HP.at hlt
  obtain ⟨ab, aoff, x, gx, xc, rfl, hx, ⟨hab, habB⟩, ⟨hgx, hgxB⟩, hac, hrx⟩ := hall.at hlt
  have hxd : x = dlp c l un ln most p := by
   rw [List.getElem?_map, hpx] at hx
   simpa using hx.symm
  have hxl : x.length = n := by rw [hxd, dlp_len, HLN.out]
  have HXD := Lib.hid hxd
  have HXL := Lib.hid hxl
  have HPX := Lib.hid hpx
  have HTK : Hid (TL[k]? = some (trc c l un ln most ms p)) := Lib.hid (by rw [HTL.out]; unfold trcs; rw [List.getElem?_map, hpx]; rfl)
  rw [hxl] at hac hrx
  clear hx hxd hxl hpx hp0 hp1 hall
  obtain ⟨p0, p1, ph⟩ := p
  dsimp only at hp2
  have hgol := HOM.out.lt
  cases ph
  rotate_left
  ·have HOM2 : Hid (OutM w3 w0.heap.size go (Im.upto TL (k + 1))) := by
    rw [Im.upto_nil (by rw [HTK.out]; rfl)]; exact HOM
   go_wp2
   go_roundw
   case rel => exact ⟨k + 1, by omega, rfl, HOM2, HGB⟩
   case measure => simp [intOf]; omega
  obtain ⟨vo, hvo, hfo⟩ := HOM.out.cell (k := k) (by rw [Im.upto_len, HTN.out]; exact hlt)
  have hmk1 := HMK1.out
  have z1 : w.heap.size + 1 < w3.heap.size := (Array.getElem?_eq_some_iff.1 hT1).1
  go_wp2_with fail
  obtain ⟨oI, hoI⟩ : ∃ o, o = Obj.cells (fillA (.int .i64 0) (fun _ => .int .i64 0) ln 0) 3 := ⟨_, rfl⟩
  obtain ⟨wI, hwI⟩ : ∃ V, V = (w3.setCell ⟨go, k, none⟩ (.slice (some ⟨w3.heap.size, 0, none⟩) ln ln)).alloc oI := ⟨_, rfl⟩
  have hsI : (w3.setCell ⟨go, k, none⟩ (.slice (some ⟨w3.heap.size, 0, none⟩) ln ln)).heap.size = w3.heap.size := by simp
  obtain ⟨gt, hgt⟩ : ∃ b, b = w3.heap.size := ⟨_, rfl⟩
  have hAI : Below w3.heap.size (w3.setCell ⟨go, k, none⟩ (.slice (some ⟨w3.heap.size, 0, none⟩) ln ln)) ((w3.setCell ⟨go, k, none⟩ (.slice (some ⟨w3.heap.size, 0, none⟩) ln ln)).alloc oI) := (Below.refl _ _).alloc (by rw [hsI]; exact Nat.le_refl _) _
  have HGBI : Hid (w2.grownBy wI (some go)) := Lib.hid (by rw [hwI]; exact gb_call (gb_set HGB.out) (hAI.mono HGB.out.size))
  have hrowI : RowI wI w3.heap.size gt ln ln (Im.trk ln (dlp c l un ln most ⟨p0, p1, false⟩) ms 0) := by
   have h2 : wI.heap[gt]? = some (.cells (fillA (.int .i64 0) (fun _ => .int .i64 0) ln 0) 3 (0, 0)) := by rw [hwI, hoI]; exact heap_new (by rw [hsI]; exact hgt)
   refine ⟨_, h2, fillA_size _ _ _ _, Nat.le_refl _, by omega, by rw [Im.trk_len], ?_, by omega⟩
   rw [Im.trk_zero, List.take_of_length_le (by simp [fillA])]
   apply List.ext_getElem? 
   intro i
   simp [fillA, encI, List.getElem?_replicate, List.getElem?_range]
   by_cases h : i < ln <;> simp [h]
  have hcgo : wI.cell? ⟨go, k, none⟩ = some (.slice (some ⟨gt, 0, none⟩) ln ln) := by
   obtain ⟨cs, h1, h2, _⟩ := HOM.out
   have h3 := set_blk (i := k) h1 (.slice (some ⟨gt, 0, none⟩) ln ln)
   rw [hwI, ← hgt]
   rw [← hgt] at hAI
   refine cell_at (heap_old (Array.getElem?_eq_some_iff.1 h3).1 h3) ?_
   rw [Array.getElem?_setIfInBounds]
   have : k < cs.size := by rw [h2, Im.upto_len, HTN.out]; exact hlt
   simp [this]
  have hgxo : gx ≠ go := by have h1 := HSZ.out; omega
  have HG2 : Hid (w3.grownBy wI (some go)) := Lib.hid (by rw [hwI]; exact gb_call (gb_set (grownBy_of_below (Below.refl _ _) _)) hAI)
  have HWI := Lib.hid hwI
  rw [← hoI, ← hwI, ← hgt]
  have HGT : Hid (gt = w3.heap.size) := Lib.hid hgt
  obtain ⟨D, hD⟩ : ∃ D, D = dlp c l un ln most ⟨p0, p1, false⟩ := ⟨_, rfl⟩
  rw [← hD] at hrowI HXD
  obtain rfl : x = D := HXD.out
  have HD := Lib.hid hD
  have HDL : Hid (∀ j, j < n → 0 ≤ Im.at0 x j → Im.at0 x j < (ln : Int)) := Lib.hid (fun j hj h => by rw [hD] at h ⊢; exact dlp_lt (by rw [HLN.out]; exact hj) h)
  have hrow0 := Lib.hid hrowI
  have HRX := Lib.hid hrx
  have HCG := Lib.hid hcgo
  have HGOL := Lib.hid hgol
  have HGX := Lib.hid (show gx < w3.heap.size from hgx)
  clear hmk1 z1 hAI hsI hwI hgt hoI hrowI hcgo hvo hfo hrx hac hab habB hgx hgxB hp2 hgol hpb hD HXD
  go_loopw [39] (fun i wr => ∃ j : Nat, j ≤ n ∧ i = .int .i64 j ∧ Hid (RowI wr w3.heap.size gt ln ln (Im.trk ln x ms j)) ∧ Below w3.heap.size wI wr) (fun i _ => n - (intOf i).toNat)
  case atStart => exact ⟨0, Nat.zero_le _, rfl, hrow0, Below.refl _ _⟩
  case round =>
   clear hrow0
   obtain ⟨j, hj, rfl, HRW, hbq⟩ := hrel
   have HG5 : Hid (w2.grownBy wr (some go)) := Lib.hid (gb_call HGBI.out (hbq.mono HGB.out.size))
   have HBQ := Lib.hid hbq
   have HG6 : Hid (w3.grownBy wr (some go)) := Lib.hid (gb_call HG2.out hbq)
   clear hbr H HP HM hst hT0 hT1
   clear qhT0_0 qhT0_1 qhT0_2 qhT1_0 qhT1_1 qhT1_2 qhT1_3
   obtain ⟨w4, hww⟩ : ∃ W, W = wr := ⟨_, rfl⟩
   subst hww
   have hbr : Below w0.heap.size w0 w4 := HB1.out.trans (gb_below HG5.out HB1.out.size HGO.out)
   have hB4 := KB.out.call hbr rfl
   have H := KH.out.below hbr
   have HP := KHP.out.below hbr
   have HM := KHM.out.below hbr
   have hst := Khst.out.below hbr
   have hT0 := blkb KhT0.out hbr
   have hT1 := blkb KhT1.out hbr
   clear hbq
   have hwj : IntKind.i64.wrap ((j : Int) + 1) = ((j + 1 : Nat) : Int) := by rw [wrapI (by omega)]; simp
   by_cases hlt2 : j < n
   rotate_left
   ·obtain rfl : n = j := by omega
    have HOM3 : Hid (OutM w4 w0.heap.size go (Im.upto TL (k + 1))) := Lib.hid (by
     have e1 : Im.trk ln x ms n = Im.trace ln x ms := Im.trk_full HXL.out HML.out
     have h0 := HRW.out
     rw [e1] at h0
     have h := HOM.out.fill (wr := w4) (o := oI) (v := .slice (some ⟨w3.heap.size, 0, none⟩) ln ln) (x := Im.trace ln x ms) (by rw [Im.upto_len, HTN.out]; exact hlt) (by rw [← HWI.out]; exact HBQ.out) (.inr ⟨w3.heap.size, ln, by rw [Im.trace_len], by
      rw [Im.trace_len, ← HGT.out]; exact h0.lower (Nat.le_trans HB1.out.size HGB.out.size)⟩)
     rw [Im.upto_set (by rw [HTK.out, HD.out]; rfl)] at h
     exact h)
    go_wp2
    go_roundw
    case rel => exact ⟨k + 1, by omega, rfl, HOM3, HG5⟩
    case measure => simp [intOf]; omega
   have hjn2 : (j : Int) < (n : Int) := by omega
   have hj02 : (0 : Int) ≤ (j : Int) := by omega
   have hdc : w4.cell? ⟨gx, j, none⟩ = some (.int .i64 (Im.at0 x j)) := by
    have h := (HRX.out.gb HG6.out hgxo).get hlt2
    rwa [Nat.zero_add] at h
   have hgx5 : gx < w4.heap.size := Nat.lt_of_lt_of_le HGX.out HG6.out.size
   have HDJ := Lib.hid (HDL.out j hlt2)
   have HTS : Hid (Im.trk ln x ms (j + 1) = Im.addAt (Im.trk ln x ms j) (Im.at0 x j) (Im.at0 ms j)) := Lib.hid (Im.trk_succ (by rw [HXL.out]; exact hlt2) (by rw [HML.out]; exact hlt2))
   generalize hdj : Im.at0 x j = dj at hdc HDJ HTS
   clear hdj
   by_cases hd0 : 0 ≤ dj
   rotate_left
   ·have hdd : decide ((0 : Int) ≤ dj) = false := by simpa using hd0
    have HRW2 : Hid (RowI w4 w3.heap.size gt ln ln (Im.trk ln x ms (j + 1))) := Lib.hid (by
     rw [HTS.out]
     unfold Im.addAt
     rw [if_neg hd0]
     exact HRW.out)
    clear hd0
    go_wp2
    go_roundw
    case rel => exact ⟨j + 1, by omega, rfl, HRW2, HBQ.out⟩
    case measure => simp [intOf]; omega
   have hdl := HDJ.out hd0
   obtain ⟨q, rfl⟩ : ∃ q : Nat, dj = q := ⟨dj.toNat, by omega⟩
   have hq : q < ln := by omega
   have hdd : decide ((0 : Int) ≤ (q : Int)) = true := by simp
   have hql : (q : Int) < (ln : Int) := by omega
   obtain ⟨mb, moff, mx, rfl, hmx, hmb, hmc⟩ := HM.at hlt2
   have hmx2 : Im.at0 ms j = mx := by simp [Im.at0, List.getD_eq_getElem?_getD, hmx]
   have hmr := HMS.out j hlt2
   rw [hmx2] at hmr HTS
   have htl := Im.trk_le (len := ln) (ds := x) (ms := ms) (B := 1000) (by omega) (fun k hk => HMS.out k (by rw [← HML.out]; exact hk)) (by rw [HXL.out, HML.out]) j (by rw [HXL.out]; exact hj) q
   have hrc := (HRW.out.cell hq).1
   have hrf := (HRW.out.cell hq).2.1
   have hgtl := (HRW.out.cell hq).2.2
   generalize hyv : Im.at0 (Im.trk ln x ms j) q = yv at hrc htl
   have HYV := Lib.hid hyv
   have hwy : IntKind.i64.wrap (yv + mx) = yv + mx := wrapI (by omega)
   have hcg5 : w4.cell? ⟨go, k, none⟩ = some (.slice (some ⟨gt, 0, none⟩) ln ln) := (HBQ.out.cell (p := ⟨go, k, none⟩) HGOL.out).trans HCG.out
   have hgo5 : go < w4.heap.size := Nat.lt_of_lt_of_le HGOL.out HG6.out.size
   have HMR := Lib.hid hmr
   clear hmr htl hmx hmx2 hyv hd0 hdl
   have hbq := HBQ.out
   go_wp2
   refine wp_region_splitG 13 (by kernel_rfl) (by kernel_rfl) ?_
   simp only [List.take_succ_cons, List.take_zero, List.drop_succ_cons, List.drop_zero]
   repeat (go_big_quiet_step ((first | fail)))
   refine wpQuiet_nil (gw_out ?_)
   intro wq hbw
   have hrow2 := HRW.out.below hbw
   have hbq2 := hbq.trans (hbw.mono HG6.out.size)
   have qc := (hrow2.cell hq).1
   have qf := (hrow2.cell hq).2.1
   rw [HYV.out] at qc
   have HRW2 : Hid (RowI (wq.setCell ⟨gt, q, none⟩ (.int .i64 (yv + mx))) w3.heap.size gt ln ln (Im.trk ln x ms (j + 1))) := Lib.hid (by
    rw [HTS.out]
    unfold Im.addAt
    rw [if_pos (Int.natCast_nonneg q), Int.toNat_natCast, HYV.out]
    exact hrow2.set q (yv + mx))
   have HBQ2 : Hid (Below w3.heap.size wI (wq.setCell ⟨gt, q, none⟩ (.int .i64 (yv + mx)))) := Lib.hid (hbq2.setCell (p := ⟨gt, q, none⟩) (by show _ ≤ gt; rw [HGT.out]; exact Nat.le_refl _) _)
   clear hrow2 hbq2 hbq hrc hrf hdc hcg5 hmc
   go_wp2
   go_roundw
   case rel => exact ⟨j + 1, by omega, rfl, HRW2, HBQ2.out⟩
   case measure => simp [intOf]; omega
end Go.Proofs.YtdimmlljjmmdbaaGreatDoor
namespace Go.Proofs.YtdimmlljjmmdbaaGreatDoor
open Go.RowKit
set_option maxHeartbeats 4000000
set_option maxRecDepth 20000
theorem dlp_hole {c : Nat} {l : List Int} {un len most : Int} {p : Pr} (h : p.h = true) {j : Nat} (hj : j < l.length) : Im.at0 (dlp c l un len most p) j = -1 := by
 unfold dlp dlL
 rw [h, Im.delays_at hj]
 exact Im.dly_hole _ _ _ _ _ _
theorem c104 (c r : Nat) (A : Option Addr) (n cap : Nat) (l : List Int) (un : Int) (ln : Nat) (most : Int) (P : Option Addr) (np capp : Nat) (ps : List Pr) (D : Option Addr) (capd : Nat) (d : List (List Int)) (w : World) (g : Im.Gr c r l) (hc : c ≤ 16) (hr : r ≤ 16) (hu : 1 ≤ un ∧ un ≤ 1000) (hln : 1 ≤ ln ∧ ln ≤ 256) (hnp : np ≤ 16) (hcp : np ≤ capp) (hcells : ∀ p, p ∈ ps → (0 ≤ p.s ∧ p.s < (n : Int)) ∧ (0 ≤ p.r ∧ p.r < (n : Int))) (hshp : Mo.Shp (ln : Int) ps d) (hdv : ∀ x, x ∈ d → ∀ y, y ∈ x → -1048576 ≤ y ∧ y ≤ 1048576) (H : RdI w A n l) (HP : RdP w P np ps) (HD : RdD w D np d) (hst : Steps w) :
  Calls Tryz.prog 104 #[.agg #[.int .i64 c, .int .i64 r, .slice A n cap], .agg #[.int .i64 un, .int .i64 (ln : Nat), .int .i64 most, .slice P np capp], .slice D np capd] w fun en w' => ∃ v, en = .returned v ∧ w'.ownsRow w.heap.size 3 1 v n (encI (Im.image n (ps.map (dlp c l un ln most)) d)) ∧ Below w.heap.size w w' := by
 have HPL := Lib.hid HP.len
 have HLN := Lib.hid H.len
 have HDN := Lib.hid HD.len
 have hn0 : 0 < n := by
  have h1 := g.c1; have h2 := g.r1; have h3 := g.len
  have : 1 * 1 ≤ c * r := Nat.mul_le_mul h1 h2
  rw [← HLN.out]; omega
 have hn256 : n ≤ 256 := by
  have h3 := g.len
  have : c * r ≤ 16 * 16 := Nat.mul_le_mul hc hr
  rw [← HLN.out]; omega
 obtain ⟨i0, hi, hz0, hz1, hz2⟩ := info_parts info3
 have hmk2 := fun W => run_make_fill (P := Tryz.prog) 22 3 i0 (.int .i64 0) (fun _ => .int .i64 0) Tryz.underlying22 hi hz0 hz1 rfl n (by omega) (by rw [hz2]; omega) W
 clear hi hz0 hz1 hz2
 have HSH := Lib.hid hshp
 have HDV := Lib.hid hdv
 clear hshp hdv
 obtain ⟨DS, hDS⟩ : ∃ T, T = ps.map (dlp c l un ln most) := ⟨_, rfl⟩
 have hDN : ∀ ds, ds ∈ DS → ds.length = n := by
  intro ds hds
  rw [hDS] at hds
  obtain ⟨p, _, rfl⟩ := List.mem_map.1 hds
  rw [dlp_len, HLN.out]
 have hDL : DS.length = np := by rw [hDS]; simp [HPL.out]
 have HFIN : Hid (Im.imgN n DS d np = Im.image n (ps.map (dlp c l un ln most)) d) := Lib.hid (by
  rw [← hDS, ← hDL]
  exact Im.imgN_full (by rw [hDL, HDN.out]))
 rw [← HFIN.out]
 have HDS := Lib.hid hDS
 have HIL := Lib.hid (fun i => Im.imgN_len (data := d) hDN i)
 have HSU : Hid (∀ i, i < np → ∀ k, k < n → Im.at0 (Im.imgN n DS d (i + 1)) k = Im.at0 (Im.imgN n DS d i) k + Im.pick (d.getD i []) (Im.at0 (DS.getD i []) k)) := Lib.hid (fun i hi k hk => by
  rw [Im.imgN_succ (by rw [hDL]; exact hi) (by rw [HDN.out]; exact hi)]
  refine Im.imgFold_at ?_ (by rw [Im.imgN_len hDN]; exact hk)
  rw [Im.imgN_len hDN, List.getD_eq_getElem?_getD, List.getElem?_eq_getElem (by rw [hDL]; exact hi)]
  exact hDN _ (List.getElem_mem _))
 have HBD := Lib.hid (Im.imgN_le (n := n) (dss := DS) (data := d) (B := 1048576) (by omega) hDN HDV.out (by rw [hDL, HDN.out]))
 have HDL2 := Lib.hid hDL
 clear hDS hDN hDL
 obtain ⟨w0, hW⟩ : ∃ W, W = (w.alloc (Obj.cells #[.int .i64 c, .int .i64 r, .slice A n cap] 35)).alloc (Obj.cells #[.int .i64 un, .int .i64 (ln : Nat), .int .i64 most, .slice P np capp] 39) := ⟨_, rfl⟩
 have hT0 : w0.heap[w.heap.size]? = some (.cells #[.int .i64 c, .int .i64 r, .slice A n cap] 35 (0, 0)) := by rw [hW]; exact heap_old (by simp <;> omega) (heap_new (by simp))
 have hT1 : w0.heap[w.heap.size + 1]? = some (.cells #[.int .i64 un, .int .i64 (ln : Nat), .int .i64 most, .slice P np capp] 39 (0, 0)) := by rw [hW]; exact heap_new (by simp)
 have hB0 : Below w.heap.size w w0 := by rw [hW]; exact (((Below.refl _ _).alloc (by first | omega | (simp <;> omega)) _).alloc (by first | omega | (simp <;> omega)) _)
 replace H := H.below hB0
 replace HP := HP.below hB0
 replace HD := HD.below hB0
 replace hst := hst.below hB0
 go_enter Tryz.func104, Tryz.ntmps104
 have HS0 : w0.heap.size = w.heap.size + 1 + 1 := by rw [hW]; simp
 go_wp2_with fail
 rw [← hW]
 clear hW
 have qhT0_0 : w0.cell? ⟨w.heap.size, 0, none⟩ = some (.int .i64 c) := cell_at hT0 rfl
 have qhT0_1 : w0.cell? ⟨w.heap.size, 1, none⟩ = some (.int .i64 r) := cell_at hT0 rfl
 have qhT0_2 : w0.cell? ⟨w.heap.size, 2, none⟩ = some (.slice A n cap) := cell_at hT0 rfl
 have qhT1_0 : w0.cell? ⟨w.heap.size + 1, 0, none⟩ = some (.int .i64 un) := cell_at hT1 rfl
 have qhT1_1 : w0.cell? ⟨w.heap.size + 1, 1, none⟩ = some (.int .i64 (ln : Nat)) := cell_at hT1 rfl
 have qhT1_2 : w0.cell? ⟨w.heap.size + 1, 2, none⟩ = some (.int .i64 most) := cell_at hT1 rfl
 have qhT1_3 : w0.cell? ⟨w.heap.size + 1, 3, none⟩ = some (.slice P np capp) := cell_at hT1 rfl
 go_wp2_with fail
 obtain ⟨w1, hwn⟩ : ∃ V, V = w0.alloc (.cells (fillA (.int .i64 0) (fun _ => .int .i64 0) n 0) 3) := ⟨_, rfl⟩
 have hbn0 : Below w0.heap.size w0 w1 := by rw [hwn]; exact (Below.refl _ _).alloc (Nat.le_refl _) _
 obtain ⟨go, hgo'⟩ : ∃ b, b = w.heap.size + 1 + 1 := ⟨_, rfl⟩
 have hgo : go = w0.heap.size := by omega
 have ko : w1.heap[go]? = some (.cells (fillA (.int .i64 0) (fun _ => .int .i64 0) n 0) 3 (0, 0)) := by rw [hwn]; exact heap_new hgo
 have HGO : Hid (w0.heap.size ≤ go) := Lib.hid (by omega)
 have hom : RowI w1 w0.heap.size go n n (Im.imgN n DS d 0) := by
  refine ⟨_, ko, fillA_size _ _ _ _, Nat.le_refl _, by omega, by rw [Im.imgN_zero]; simp, ?_, by omega⟩
  rw [Im.imgN_zero, List.take_of_length_le (by simp [fillA])]
  apply List.ext_getElem?
  intro i
  simp [fillA, encI, List.getElem?_replicate]
  by_cases h : i < n <;> simp [h]
 rw [← hgo', ← hwn]
 clear hwn hgo hgo' HS0 hmk2 ko
 have KH := Lib.hid H
 have KHP := Lib.hid HP
 have KHD := Lib.hid HD
 have Khst := Lib.hid hst
 have KhT0 := Lib.hid hT0
 have KhT1 := Lib.hid hT1
 have KB := Lib.hid hB0
 clear qhT0_0 qhT0_1 qhT0_2 qhT1_0 qhT1_1 qhT1_2 qhT1_3
 have hS := hbn0
 have hB1 := hB0.call hS rfl
 replace hT0 := blkb hT0 hS
 replace hT1 := blkb hT1 hS
 replace H := H.below hS
 replace HP := HP.below hS
 replace HD := HD.below hS
 replace hst := hst.below hS
 clear hS hB0
 have qhT0_0 : w1.cell? ⟨w.heap.size, 0, none⟩ = some (.int .i64 c) := cell_at hT0 rfl
 have qhT0_1 : w1.cell? ⟨w.heap.size, 1, none⟩ = some (.int .i64 r) := cell_at hT0 rfl
 have qhT0_2 : w1.cell? ⟨w.heap.size, 2, none⟩ = some (.slice A n cap) := cell_at hT0 rfl
 have qhT1_0 : w1.cell? ⟨w.heap.size + 1, 0, none⟩ = some (.int .i64 un) := cell_at hT1 rfl
 have qhT1_1 : w1.cell? ⟨w.heap.size + 1, 1, none⟩ = some (.int .i64 (ln : Nat)) := cell_at hT1 rfl
 have qhT1_2 : w1.cell? ⟨w.heap.size + 1, 2, none⟩ = some (.int .i64 most) := cell_at hT1 rfl
 have qhT1_3 : w1.cell? ⟨w.heap.size + 1, 3, none⟩ = some (.slice P np capp) := cell_at hT1 rfl
 have hbb := hbn0
 clear hbn0
 have HOMLT : go + 1 ≤ w1.heap.size := by obtain ⟨cs, h1, _⟩ := hom; exact (Array.getElem?_eq_some_iff.1 h1).1
 go_wp2_with fail
 refine (c108 c r A n cap l un ln most P np capp ps _ g hc hr hu hnp hcp hcells H HP hst).mono ?_
 rintro e w2 ⟨AL, capL, rfl, hall, hb⟩
 have HSZX := hb.size
 clear qhT0_0 qhT0_1 qhT0_2 qhT1_0 qhT1_1 qhT1_2 qhT1_3
 have hS := hb
 have hB2 := hB1.call hS rfl
 replace hT0 := blkb hT0 hS
 replace hT1 := blkb hT1 hS
 replace H := H.below hS
 replace HP := HP.below hS
 replace HD := HD.below hS
 replace hst := hst.below hS
 replace hom := hom.below hS
 replace hbb := hbb.call hS rfl
 clear hS hB1
 have qhT0_0 : w2.cell? ⟨w.heap.size, 0, none⟩ = some (.int .i64 c) := cell_at hT0 rfl
 have qhT0_1 : w2.cell? ⟨w.heap.size, 1, none⟩ = some (.int .i64 r) := cell_at hT0 rfl
 have qhT0_2 : w2.cell? ⟨w.heap.size, 2, none⟩ = some (.slice A n cap) := cell_at hT0 rfl
 have qhT1_0 : w2.cell? ⟨w.heap.size + 1, 0, none⟩ = some (.int .i64 un) := cell_at hT1 rfl
 have qhT1_1 : w2.cell? ⟨w.heap.size + 1, 1, none⟩ = some (.int .i64 (ln : Nat)) := cell_at hT1 rfl
 have qhT1_2 : w2.cell? ⟨w.heap.size + 1, 2, none⟩ = some (.int .i64 most) := cell_at hT1 rfl
 have qhT1_3 : w2.cell? ⟨w.heap.size + 1, 3, none⟩ = some (.slice P np capp) := cell_at hT1 rfl
 clear hb
 clear qhT0_0 qhT0_1 qhT0_2 qhT1_0 qhT1_1 qhT1_2 qhT1_3
 have HALL := Lib.hid hall
 have HSZ : Hid (go + 1 ≤ w1.heap.size ∧ w1.heap.size ≤ w2.heap.size) := Lib.hid ⟨HOMLT, HSZX⟩
 have HB1 : Hid (Below w0.heap.size w0 w2) := Lib.hid hbb
 have hom0 := Lib.hid hom
 have hgb0 : Hid (w2.grownBy w2 (some go)) := Lib.hid (grownBy_of_below (Below.refl _ _) _)
 clear hom hbb hall H HP HD hst hT0 hT1 hcells HOMLT HSZX
 go_wp2_with fail
 go_loopw [20] (fun i wr => ∃ k : Nat, k ≤ np ∧ i = .int .i64 k ∧ Hid (RowI wr w0.heap.size go n n (Im.imgN n DS d k)) ∧ Hid (w2.grownBy wr (some go))) (fun i _ => np - (intOf i).toNat)
 case atStart => exact ⟨0, Nat.zero_le _, rfl, hom0, hgb0⟩
 case round =>
  clear hom0 hgb0
  obtain ⟨k, hk, rfl, HOM, HGB⟩ := hrel
  obtain ⟨w3, hww⟩ : ∃ W, W = wr := ⟨_, rfl⟩
  subst hww
  have hbr : Below w0.heap.size w0 w3 := HB1.out.trans (gb_below HGB.out HB1.out.size HGO.out)
  have hB3 := KB.out.call hbr rfl
  have H := KH.out.below hbr
  have HP := KHP.out.below hbr
  have HD := KHD.out.below hbr
  have hst := Khst.out.below hbr
  have hT0 := blkb KhT0.out hbr
  have hT1 := blkb KhT1.out hbr
  have qhT0_0 : w3.cell? ⟨w.heap.size, 0, none⟩ = some (.int .i64 c) := cell_at hT0 rfl
  have qhT0_1 : w3.cell? ⟨w.heap.size, 1, none⟩ = some (.int .i64 r) := cell_at hT0 rfl
  have qhT0_2 : w3.cell? ⟨w.heap.size, 2, none⟩ = some (.slice A n cap) := cell_at hT0 rfl
  have qhT1_0 : w3.cell? ⟨w.heap.size + 1, 0, none⟩ = some (.int .i64 un) := cell_at hT1 rfl
  have qhT1_1 : w3.cell? ⟨w.heap.size + 1, 1, none⟩ = some (.int .i64 (ln : Nat)) := cell_at hT1 rfl
  have qhT1_2 : w3.cell? ⟨w.heap.size + 1, 2, none⟩ = some (.int .i64 most) := cell_at hT1 rfl
  have qhT1_3 : w3.cell? ⟨w.heap.size + 1, 3, none⟩ = some (.slice P np capp) := cell_at hT1 rfl
  have hall := HALL.out.keep HGB.out.size (fun b hb hl => HGB.out.block b hl (fun e => by have := HSZ.out; have e2 : b = go := Option.some.inj e; omega))
  have hwk : IntKind.i64.wrap ((k : Int) + 1) = ((k + 1 : Nat) : Int) := by rw [wrapI (by omega)]; simp
  by_cases hlt : k < np
  rotate_left
  ·obtain rfl : np = k := by omega
   have HF := Lib.hid ((HOM.out.lower (show w.heap.size ≤ w0.heap.size from KB.out.size)).own)
   go_wp2
   go_ret
   exact ⟨_, rfl, HF.out, hB3⟩
  have hkm2 : (k : Int) < (np : Int) := by omega
  have hk02 : (0 : Int) ≤ (k : Int) := by omega
  obtain ⟨ab, aoff, x, gx, xc, rfl, hx, ⟨hab, habB⟩, ⟨hgx, hgxB⟩, hac, hrx⟩ := hall.at hlt
  obtain ⟨p, hpx⟩ : ∃ p, ps[k]? = some p := ⟨_, List.getElem?_eq_getElem (by rw [HPL.out]; exact hlt)⟩
  have hxd : x = dlp c l un ln most p := by
   rw [List.getElem?_map, hpx] at hx
   simpa using hx.symm
  have hxl : x.length = n := by rw [hxd, dlp_len, HLN.out]
  have HXG : Hid (DS.getD k [] = x) := Lib.hid (by rw [HDS.out, List.getD_eq_getElem?_getD, hx]; rfl)
  have HXD := Lib.hid hxd
  have HXL := Lib.hid hxl
  have HPX := Lib.hid hpx
  rw [hxl] at hac hrx
  have hgxo : gx ≠ go := by have h1 := HSZ.out; omega
  have HRX := Lib.hid hrx
  have HGX := Lib.hid (show gx < w3.heap.size from hgx)
  obtain ⟨db, doff, y, ya, yc, rfl, hy, hdb, hdc, hry⟩ := HD.at hlt
  have HYG : Hid (d.getD k [] = y) := Lib.hid (by rw [List.getD_eq_getElem?_getD, hy]; rfl)
  have HYX := Lib.hid hy
  have HSHK := Lib.hid (HSH.out k p y hpx hy)
  have HYV := Lib.hid (HDV.out y (List.mem_of_getElem? hy))
  have hrow0 : Hid (RowI w3 w0.heap.size go n n (Im.mix (Im.imgN n DS d k) (Im.imgN n DS d (k + 1)) 0)) := by rw [Im.mix_zero]; exact HOM
  have HSUK := Lib.hid (HSU.out k hlt)
  rw [HXG.out, HYG.out] at HSUK
  have HBK := Lib.hid (HBD.out k (by rw [HDL2.out]; omega))
  clear hrx hab habB hgx hgxB hx hxd hxl hpx hall hy hdb hdc hry
  go_wp2_with fail
  go_loopw [27] (fun i wr => ∃ j : Nat, j ≤ n ∧ i = .int .i64 j ∧ Hid (RowI wr w0.heap.size go n n (Im.mix (Im.imgN n DS d k) (Im.imgN n DS d (k + 1)) j)) ∧ Hid (w2.grownBy wr (some go)) ∧ Hid (w3.grownBy wr (some go))) (fun i _ => n - (intOf i).toNat)
  case atStart => exact ⟨0, Nat.zero_le _, rfl, hrow0, HGB, Lib.hid (grownBy_of_below (Below.refl _ _) _)⟩
  case round =>
   clear hrow0
   obtain ⟨j, hj, rfl, HRW, HG5, HG6⟩ := hrel
   clear hbr H HP HD hst hT0 hT1
   clear qhT0_0 qhT0_1 qhT0_2 qhT1_0 qhT1_1 qhT1_2 qhT1_3
   obtain ⟨w4, hww⟩ : ∃ W, W = wr := ⟨_, rfl⟩
   subst hww
   have hbr : Below w0.heap.size w0 w4 := HB1.out.trans (gb_below HG5.out HB1.out.size HGO.out)
   have hB4 := KB.out.call hbr rfl
   have H := KH.out.below hbr
   have HP := KHP.out.below hbr
   have HD := KHD.out.below hbr
   have hst := Khst.out.below hbr
   have hT0 := blkb KhT0.out hbr
   have hT1 := blkb KhT1.out hbr
   have hwj : IntKind.i64.wrap ((j : Int) + 1) = ((j + 1 : Nat) : Int) := by rw [wrapI (by omega)]; simp
   by_cases hlt2 : j < n
   rotate_left
   ·obtain rfl : n = j := by omega
    have HOM3 : Hid (RowI w4 w0.heap.size go n n (Im.imgN n DS d (k + 1))) := Lib.hid (by
     have h := HRW.out
     have e : Im.mix (Im.imgN n DS d k) (Im.imgN n DS d (k + 1)) n = Im.imgN n DS d (k + 1) := by
      have h1 := Im.mix_full (a := Im.imgN n DS d k) (b := Im.imgN n DS d (k + 1)) (by rw [HIL.out, HIL.out])
      rwa [HIL.out] at h1
     rw [e] at h
     exact h)
    go_wp2
    go_roundw
    case rel => exact ⟨k + 1, by omega, rfl, HOM3, HG5⟩
    case measure => simp [intOf]; omega
   have hjn2 : (j : Int) < (n : Int) := by omega
   have hj02 : (0 : Int) ≤ (j : Int) := by omega
   have hdc : w4.cell? ⟨gx, j, none⟩ = some (.int .i64 (Im.at0 x j)) := by
    have h := (HRX.out.gb HG6.out hgxo).get hlt2
    rwa [Nat.zero_add] at h
   have hgx5 : gx < w4.heap.size := Nat.lt_of_lt_of_le HGX.out HG6.out.size
   have HDJ : Hid (0 ≤ Im.at0 x j → Im.at0 x j < (ln : Int)) := Lib.hid (fun h => by rw [HXD.out] at h ⊢; exact dlp_lt (by rw [HLN.out]; exact hlt2) h)
   have HHJ : Hid (p.h = true → Im.at0 x j = -1) := Lib.hid (fun h => by rw [HXD.out]; exact dlp_hole h (by rw [HLN.out]; exact hlt2))
   have HSJ := Lib.hid (HSUK.out j hlt2)
   have hbj := HBK.out j hlt2
   have HMG : Hid (Im.at0 (Im.mix (Im.imgN n DS d k) (Im.imgN n DS d (k + 1)) j) j = Im.at0 (Im.imgN n DS d k) j) := Lib.hid (by rw [Im.mix_get (by rw [HIL.out]; exact hlt2), if_neg (Nat.lt_irrefl j)])
   generalize hdj : Im.at0 x j = dj at hdc HDJ HSJ HHJ
   clear hdj
   by_cases hd0 : 0 ≤ dj
   rotate_left
   ·have hdd : decide ((0 : Int) ≤ dj) = false := by simpa using hd0
    have HRW2 : Hid (RowI w4 w0.heap.size go n n (Im.mix (Im.imgN n DS d k) (Im.imgN n DS d (k + 1)) (j + 1))) := Lib.hid (by
     rw [Im.mix_keep (by rw [HSJ.out]; unfold Im.pick; rw [if_neg hd0]; omega)]
     exact HRW.out)
    clear hd0
    go_wp2
    go_roundw
    case rel => exact ⟨j + 1, by omega, rfl, HRW2, HG5, HG6⟩
    case measure => simp [intOf]; omega
   have hdl := HDJ.out hd0
   obtain ⟨q, rfl⟩ : ∃ q : Nat, dj = q := ⟨dj.toNat, by omega⟩
   have hq : q < ln := by omega
   have hyl : y.length = ln := by
    have h := HSHK.out
    unfold Mo.okT at h
    cases hph : p.h
    ·rw [hph] at h; simp at h; omega
    ·have := HHJ.out hph; omega
   have hdd : decide ((0 : Int) ≤ (q : Int)) = true := by simp
   have hql : (q : Int) < (ln : Int) := by omega
   have hq02 : (0 : Int) ≤ (q : Int) := by omega
   obtain ⟨db', doff', y', ya, yc, he, hy', hdb, hyc, hry⟩ := HD.at hlt
   cases he
   obtain rfl : y = y' := by rw [HYX.out] at hy'; exact Option.some.inj hy'
   rw [hyl] at hyc hry
   obtain ⟨mb, moff, mx, rfl, hmx, hmb, hmc⟩ := hry.at hq
   have hmx2 : Im.at0 y q = mx := by simp [Im.at0, List.getD_eq_getElem?_getD, hmx]
   have hmr := HYV.out mx (List.mem_of_getElem? hmx)
   have hpk : Im.pick y (q : Int) = mx := by unfold Im.pick; rw [if_pos (Int.natCast_nonneg q), Int.toNat_natCast, hmx2]
   rw [hpk] at HSJ
   have hrc := (HRW.out.cell hlt2).1
   have hrf := (HRW.out.cell hlt2).2.1
   have hgtl := (HRW.out.cell hlt2).2.2
   rw [HMG.out] at hrc
   generalize hyv : Im.at0 (Im.imgN n DS d k) j = yv at hrc hbj HSJ
   have HYW := Lib.hid hyv
   have hk16 : (k : Int) * 1048576 ≤ 16 * 1048576 := Int.mul_le_mul_of_nonneg_right (by omega) (by omega)
   have hwy : IntKind.i64.wrap (yv + mx) = yv + mx := wrapI (by omega)
   clear hmr hmx hmx2 hyv hd0 hdl hbj hpk hk16 hy'
   go_wp2
   refine wp_region_splitG 13 (by kernel_rfl) (by kernel_rfl) ?_
   simp only [List.take_succ_cons, List.take_zero, List.drop_succ_cons, List.drop_zero]
   repeat (go_big_quiet_step ((first | fail)))
   refine wpQuiet_nil (gw_out ?_)
   intro wq hbw
   have hrow2 := HRW.out.below hbw
   have qc := (hrow2.cell hlt2).1
   have qf := (hrow2.cell hlt2).2.1
   rw [HMG.out, HYW.out] at qc
   have HRW2 : Hid (RowI (wq.setCell ⟨go, j, none⟩ (.int .i64 (yv + mx))) w0.heap.size go n n (Im.mix (Im.imgN n DS d k) (Im.imgN n DS d (k + 1)) (j + 1))) := Lib.hid (by
    have h := hrow2.set j (yv + mx)
    have e := Im.mix_set (a := Im.imgN n DS d k) (b := Im.imgN n DS d (k + 1)) (j := j) (by rw [HIL.out]; exact hlt2)
    rw [HSJ.out] at e
    rw [e] at h
    exact h)
   have HG7 : Hid (w2.grownBy (wq.setCell ⟨go, j, none⟩ (.int .i64 (yv + mx))) (some go)) := Lib.hid (gb_set (gb_call HG5.out (hbw.mono HG5.out.size)))
   have HG8 : Hid (w3.grownBy (wq.setCell ⟨go, j, none⟩ (.int .i64 (yv + mx))) (some go)) := Lib.hid (gb_set (gb_call HG6.out (hbw.mono HG6.out.size)))
   clear hrow2 hrc hrf hdc hmc hyc hry
   go_wp2
   go_roundw
   case rel => exact ⟨j + 1, by omega, rfl, HRW2, HG7, HG8⟩
   case measure => simp [intOf]; omega
end Go.Proofs.YtdimmlljjmmdbaaGreatDoor
namespace Go.Proofs.YtdimmlljjmmdbaaGreatDoor
open Go.RowKit
set_option maxHeartbeats 4000000
set_option maxRecDepth 20000
namespace Mo
/-- what is wrong with a model, and with traces -/
def mdl (c r : Int) (l : List Int) (un len most : Int) (ps : List Pr) (ms : List Int) : Int := first [surv c r l un len most ps, first [when ((ms.length : Int) != (l.length : Int)) 2, allw ms (-1000) 1000]]
noncomputable def dta (c r : Int) (l : List Int) (un len most : Int) (ps : List Pr) (d : List (List Int)) : Int := first [surv c r l un len most ps, dat len ps d]
theorem mdl_zero {c r : Int} {l : List Int} {un len most : Int} {ps : List Pr} {ms : List Int} (h : mdl c r l un len most ps ms = 0) : surv c r l un len most ps = 0 ∧ ms.length = l.length ∧ ∀ k, k < ms.length → -1000 ≤ Im.at0 ms k ∧ Im.at0 ms k ≤ 1000 := by
 have h1 := first_zero h
 have h2 := first_zero (h1 (first [when ((ms.length : Int) != (l.length : Int)) 2, allw ms (-1000) 1000]) (by simp))
 have h3 := (when_zero (by decide)).1 (h2 (when ((ms.length : Int) != (l.length : Int)) 2) (by simp))
 have h4 := allw_ok.1 (h2 (allw ms (-1000) 1000) (by simp))
 refine ⟨h1 _ List.mem_cons_self, ?_, fun k hk => ?_⟩
 ·have : (ms.length : Int) = (l.length : Int) := by simpa using h3
  omega
 ·have := h4 (Im.at0 ms k) (by simp [Im.at0, List.getD_eq_getElem?_getD, hk])
  omega
theorem dta_zero {c r : Int} {l : List Int} {un len most : Int} {ps : List Pr} {d : List (List Int)} (h : dta c r l un len most ps d = 0) : surv c r l un len most ps = 0 ∧ d.length = ps.length ∧ Shp len ps d ∧ ∀ x, x ∈ d → ∀ y, y ∈ x → -1048576 ≤ y ∧ y ≤ 1048576 := by
 have h1 := first_zero h
 exact ⟨h1 _ List.mem_cons_self, dat_zero (h1 (dat len ps d) (by simp))⟩
end Mo
theorem c19_ok (c r : Nat) (A : Option Addr) (n cap : Nat) (l : List Int) (un : Int) (ln : Nat) (most : Int) (P : Option Addr) (np capp : Nat) (ps : List Pr) (M : Option Addr) (capm : Nat) (ms : List Int) (w : World) (g : Im.Gr c r l) (hc : c ≤ 16) (hr : r ≤ 16) (hcp : np ≤ capp) (H : RdI w A n l) (HP : RdP w P np ps) (HM : RdI w M n ms) (hst : Steps w) (hE : Mo.mdl c r l un ln most ps ms = 0) :
  Calls Tryz.prog 19 #[.agg #[.int .i64 c, .int .i64 r, .slice A n cap], .agg #[.int .i64 un, .int .i64 (ln : Nat), .int .i64 most, .slice P np capp], .slice M n capm] w fun en w' => ∃ go, en = .returned (.tuple #[.slice (some ⟨go, 0, none⟩) np np, .int .i64 0]) ∧ w.heap.size ≤ go ∧ OutM w' w.heap.size go (trcs c l un ln most ms ps) ∧ Below w.heap.size w w' := by
 obtain ⟨hS, hml, hmb⟩ := Mo.mdl_zero hE
 obtain ⟨_, hu, hln1, _, hnp, hcl⟩ := surv_ok hS
 have hl : n ≤ 1000000 := by have h1 := H.len; have := g.len; have : c * r ≤ 16 * 16 := Nat.mul_le_mul hc hr; omega
 have hpl := HP.len
 have hp : np ≤ 1000000 := by omega
 have hm := hl
 have HLN := Lib.hid H.len
 have HCL : Hid (∀ p, p ∈ ps → (0 ≤ p.s ∧ p.s < (n : Int)) ∧ (0 ≤ p.r ∧ p.r < (n : Int))) := Lib.hid (fun p hp => by have := hcl p hp; rw [H.len] at this; exact this)
 have HMB : Hid (∀ k, k < n → -1000 ≤ Im.at0 ms k ∧ Im.at0 ms k ≤ 1000) := Lib.hid (fun k hk => hmb k (by rw [HM.len]; exact hk))
 have hn16 : np ≤ 16 := by omega
 have hl256 : 1 ≤ ln ∧ ln ≤ 256 := by omega
 have HE : Hid (Mo.first [Mo.surv c r l un ln most ps, Mo.first [Mo.when false 2, Mo.allw ms (-1000) 1000]] = 0) := Lib.hid (by have h := hE; unfold Mo.mdl at h; rw [H.len, HM.len] at h; simpa using h)
 clear hE hS hml hmb hcl hpl hnp
 obtain ⟨w0, hW⟩ : ∃ W, W = (w.alloc (Obj.cells #[.int .i64 c, .int .i64 r, .slice A n cap] 35)).alloc (Obj.cells #[.int .i64 un, .int .i64 (ln : Nat), .int .i64 most, .slice P np capp] 39) := ⟨_, rfl⟩
 have hT0 : w0.heap[w.heap.size]? = some (.cells #[.int .i64 c, .int .i64 r, .slice A n cap] 35 (0, 0)) := by rw [hW]; exact heap_old (by simp <;> omega) (heap_new (by simp))
 have hT1 : w0.heap[w.heap.size + 1]? = some (.cells #[.int .i64 un, .int .i64 (ln : Nat), .int .i64 most, .slice P np capp] 39 (0, 0)) := by rw [hW]; exact heap_new (by simp)
 have hB0 : Below w.heap.size w w0 := by rw [hW]; exact (((Below.refl _ _).alloc (by first | omega | (simp <;> omega)) _).alloc (by first | omega | (simp <;> omega)) _)
 replace H := H.below hB0
 replace HP := HP.below hB0
 replace HM := HM.below hB0
 replace hst := hst.below hB0
 go_enter Tryz.func19, Tryz.ntmps19
 go_wp2_with fail
 rw [← hW]
 clear hW
 have qhT0_0 : w0.cell? ⟨w.heap.size, 0, none⟩ = some (.int .i64 c) := cell_at hT0 rfl
 have qhT0_1 : w0.cell? ⟨w.heap.size, 1, none⟩ = some (.int .i64 r) := cell_at hT0 rfl
 have qhT0_2 : w0.cell? ⟨w.heap.size, 2, none⟩ = some (.slice A n cap) := cell_at hT0 rfl
 have qhT1_0 : w0.cell? ⟨w.heap.size + 1, 0, none⟩ = some (.int .i64 un) := cell_at hT1 rfl
 have qhT1_1 : w0.cell? ⟨w.heap.size + 1, 1, none⟩ = some (.int .i64 (ln : Nat)) := cell_at hT1 rfl
 have qhT1_2 : w0.cell? ⟨w.heap.size + 1, 2, none⟩ = some (.int .i64 most) := cell_at hT1 rfl
 have qhT1_3 : w0.cell? ⟨w.heap.size + 1, 3, none⟩ = some (.slice P np capp) := cell_at hT1 rfl
 refine wp_region_plan [(0, true), (1, true), (3, true), (4, true), (2, false), (5, false), (6, false), (7, false), (8, true)] w0.heap.size (by kernel_rfl) (by kernel_rfl) (Nat.le_refl _) (fun _ _ d _ _ h => by cases d <;> exact h) ?_
 have hC : Below w0.heap.size w0 w0 := Below.refl _ _
 have zhT0 : w.heap.size < w0.heap.size := (Array.getElem?_eq_some_iff.1 hT0).1
 have zhT1 : w.heap.size + 1 < w0.heap.size := (Array.getElem?_eq_some_iff.1 hT1).1
 repeat (first | (refine wpPlanA_skip _ rfl (by rfl) ?_; simp only [Act.put, List.setIfInBounds_toArray, List.set_cons_zero, List.set_cons_succ]) | (refine wpPlanA_soft _ ?_ rfl (by rfl) ?_ ?_; rotate_left; (intro wq hq hcq; go_simp; first | exact rfl | exact ⟨rfl, rfl⟩); simp only [Act.put, List.setIfInBounds_toArray, List.set_cons_zero, List.set_cons_succ]))
 refine wpPlanA_hard _ rfl (by rfl) (fun w1 hS K hK => ?_)
 have hB1 := hB0.call hS rfl
 replace hC := hC.call hS rfl
 replace hT0 := blkb hT0 hS
 replace hT1 := blkb hT1 hS
 replace H := H.below hS
 replace HP := HP.below hS
 replace HM := HM.below hS
 replace hst := hst.below hS
 clear hS hB0
 go_simp
 refine (c25 c r A n cap l un ln most P np capp ps _ hl hp H HP).mono ?_
 rintro e w2 ⟨rfl, hb⟩
 have hB2 := hB1.call hb rfl
 replace hC := hC.call hb rfl
 replace hT0 := blkb hT0 hb
 replace hT1 := blkb hT1 hb
 replace H := H.below hb
 replace HP := HP.below hb
 replace HM := HM.below hb
 replace hst := hst.below hb
 clear hb hB1
 refine hK _ _ hC ?_
 clear hK K
 try simp only [Act.put, List.setIfInBounds_toArray, List.set_cons_zero, List.set_cons_succ]
 refine wpPlanA_hard _ rfl (by rfl) (fun w3 hS K hK => ?_)
 have hB3 := hB2.call hS rfl
 replace hC := hC.call hS rfl
 replace hT0 := blkb hT0 hS
 replace hT1 := blkb hT1 hS
 replace H := H.below hS
 replace HP := HP.below hS
 replace HM := HM.below hS
 replace hst := hst.below hS
 clear hS hB2
 go_simp
 refine (c90 c r A n cap M n capm ms _ hm HM).mono ?_
 rintro e w4 ⟨rfl, hb⟩
 have hB4 := hB3.call hb rfl
 replace hC := hC.call hb rfl
 replace hT0 := blkb hT0 hb
 replace hT1 := blkb hT1 hb
 replace H := H.below hb
 replace HP := HP.below hb
 replace HM := HM.below hb
 replace hst := hst.below hb
 clear hb hB3
 refine hK _ _ hC ?_
 clear hK K
 try simp only [Act.put, List.setIfInBounds_toArray, List.set_cons_zero, List.set_cons_succ]
 refine wpPlanA_hard _ rfl (by rfl) (fun w5 hS K hK => ?_)
 have hB5 := hB4.call hS rfl
 replace hC := hC.call hS rfl
 replace hT0 := blkb hT0 hS
 replace hT1 := blkb hT1 hS
 replace H := H.below hS
 replace HP := HP.below hS
 replace HM := HM.below hS
 replace hst := hst.below hS
 clear hS hB4
 go_simp
 have hb : Below w5.heap.size w5 (w5.alloc (Obj.cells #[.int .i64 (Mo.surv c r l un ln most ps), .int .i64 (Mo.first [Mo.when false 2, Mo.allw ms (-1000) 1000])] 32)) := (Below.refl _ _).alloc (Nat.le_refl _) _
 have k1 : (w5.alloc (Obj.cells #[.int .i64 (Mo.surv c r l un ln most ps), .int .i64 (Mo.first [Mo.when false 2, Mo.allw ms (-1000) 1000])] 32)).heap[w5.heap.size]? = some (Obj.cells #[.int .i64 (Mo.surv c r l un ln most ps), .int .i64 (Mo.first [Mo.when false 2, Mo.allw ms (-1000) 1000])] 32) := heap_new rfl
 refine hK _ _ (hC.alloc hC.size _) ?_
 clear hK K
 replace hC := hC.call hb rfl
 have hB6 := hB5.call hb rfl
 replace hT0 := blkb hT0 hb
 replace hT1 := blkb hT1 hb
 replace H := H.below hb
 replace HP := HP.below hb
 replace HM := HM.below hb
 replace hst := hst.below hb
 clear hb hB5
 generalize hWn : w5.alloc (Obj.cells #[.int .i64 (Mo.surv c r l un ln most ps), .int .i64 (Mo.first [Mo.when false 2, Mo.allw ms (-1000) 1000])] 32) = w6 at k1 hC hB6 hT0 hT1 H HP HM hst ⊢
 clear hWn
 generalize hWn : w5.heap.size = bk1 at k1 ⊢
 clear hWn
 try simp only [Act.put, List.setIfInBounds_toArray, List.set_cons_zero, List.set_cons_succ]
 refine wpPlanA_hard _ rfl (by rfl) (fun w7 hS K hK => ?_)
 have hB7 := hB6.call hS rfl
 replace hC := hC.call hS rfl
 replace hT0 := blkb hT0 hS
 replace hT1 := blkb hT1 hS
 replace H := H.below hS
 replace HP := HP.below hS
 replace HM := HM.below hS
 replace hst := hst.below hS
 replace k1 := blkb k1 hS
 clear hS hB6
 go_simp
 refine (c89 _ 2 2 [Mo.surv c r l un ln most ps, Mo.first [Mo.when false 2, Mo.allw ms (-1000) 1000]] _ rfl (by omega) (RdS.of_block (cs := encI [Mo.surv c r l un ln most ps, Mo.first [Mo.when false 2, Mo.allw ms (-1000) 1000]]) k1 rfl)).mono ?_
 rintro e w' ⟨rfl, rfl⟩
 refine hK _ _ hC ?_
 clear hK K
 try simp only [Act.put, List.setIfInBounds_toArray, List.set_cons_zero, List.set_cons_succ]
 repeat (first | (refine wpPlanA_skip _ rfl (by rfl) ?_; simp only [Act.put, List.setIfInBounds_toArray, List.set_cons_zero, List.set_cons_succ]) | (refine wpPlanA_soft _ ?_ rfl (by rfl) ?_ ?_; rotate_left; (intro wq hq hcq; go_simp; first | exact rfl | exact ⟨rfl, rfl⟩); simp only [Act.put, List.setIfInBounds_toArray, List.set_cons_zero, List.set_cons_succ]))
 clear k1
 clear qhT0_0 qhT0_1 qhT0_2 qhT1_0 qhT1_1 qhT1_2 qhT1_3
 refine wpPlanA_nil (fun w8 hS => ?_)
 clear hC zhT0 zhT1
 have hB8 := hB7.call hS rfl
 replace hT0 := blkb hT0 hS
 replace hT1 := blkb hT1 hS
 replace H := H.below hS
 replace HP := HP.below hS
 replace HM := HM.below hS
 replace hst := hst.below hS
 clear hS hB7
 have qhT0_0 : w8.cell? ⟨w.heap.size, 0, none⟩ = some (.int .i64 c) := cell_at hT0 rfl
 have qhT0_1 : w8.cell? ⟨w.heap.size, 1, none⟩ = some (.int .i64 r) := cell_at hT0 rfl
 have qhT0_2 : w8.cell? ⟨w.heap.size, 2, none⟩ = some (.slice A n cap) := cell_at hT0 rfl
 have qhT1_0 : w8.cell? ⟨w.heap.size + 1, 0, none⟩ = some (.int .i64 un) := cell_at hT1 rfl
 have qhT1_1 : w8.cell? ⟨w.heap.size + 1, 1, none⟩ = some (.int .i64 (ln : Nat)) := cell_at hT1 rfl
 have qhT1_2 : w8.cell? ⟨w.heap.size + 1, 2, none⟩ = some (.int .i64 most) := cell_at hT1 rfl
 have qhT1_3 : w8.cell? ⟨w.heap.size + 1, 3, none⟩ = some (.slice P np capp) := cell_at hT1 rfl
 rw [HE.out]
 go_wp2_with fail
 go_wp2_with fail
 have hBq := hB8.size
 refine (c91 c r A n cap l un ln most P np capp ps M capm ms _ g hc hr hu hl256 hn16 hcp HCL.out HMB.out H HP HM hst).mono ?_
 rintro e w9 ⟨go, rfl, hgo, hro, hb⟩
 clear qhT0_0 qhT0_1 qhT0_2 qhT1_0 qhT1_1 qhT1_2 qhT1_3
 have hS := hb
 have hB9 := hB8.call hS rfl
 replace hT0 := blkb hT0 hS
 replace hT1 := blkb hT1 hS
 replace H := H.below hS
 replace HP := HP.below hS
 replace HM := HM.below hS
 replace hst := hst.below hS
 clear hS hB8
 have qhT0_0 : w9.cell? ⟨w.heap.size, 0, none⟩ = some (.int .i64 c) := cell_at hT0 rfl
 have qhT0_1 : w9.cell? ⟨w.heap.size, 1, none⟩ = some (.int .i64 r) := cell_at hT0 rfl
 have qhT0_2 : w9.cell? ⟨w.heap.size, 2, none⟩ = some (.slice A n cap) := cell_at hT0 rfl
 have qhT1_0 : w9.cell? ⟨w.heap.size + 1, 0, none⟩ = some (.int .i64 un) := cell_at hT1 rfl
 have qhT1_1 : w9.cell? ⟨w.heap.size + 1, 1, none⟩ = some (.int .i64 (ln : Nat)) := cell_at hT1 rfl
 have qhT1_2 : w9.cell? ⟨w.heap.size + 1, 2, none⟩ = some (.int .i64 most) := cell_at hT1 rfl
 have qhT1_3 : w9.cell? ⟨w.heap.size + 1, 3, none⟩ = some (.slice P np capp) := cell_at hT1 rfl
 clear hb
 have HRO := Lib.hid (hro.lower hBq)
 have HGO := Lib.hid (Nat.le_trans hBq hgo)
 clear hro
 go_wp2
 go_ret2
 exact ⟨go, rfl, HGO.out, HRO.out, hB9⟩
theorem c50_ok (c r : Nat) (A : Option Addr) (n cap : Nat) (l : List Int) (un : Int) (ln : Nat) (most : Int) (P : Option Addr) (np capp : Nat) (ps : List Pr) (D : Option Addr) (capd : Nat) (d : List (List Int)) (w : World) (g : Im.Gr c r l) (hc : c ≤ 16) (hr : r ≤ 16) (hcp : np ≤ capp) (H : RdI w A n l) (HP : RdP w P np ps) (HD : RdD w D np d) (hst : Steps w) (hE : Mo.dta c r l un ln most ps d = 0) :
  Calls Tryz.prog 50 #[.agg #[.int .i64 c, .int .i64 r, .slice A n cap], .agg #[.int .i64 un, .int .i64 (ln : Nat), .int .i64 most, .slice P np capp], .slice D np capd] w fun en w' => ∃ v, en = .returned (.tuple #[v, .int .i64 0]) ∧ w'.ownsRow w.heap.size 3 1 v n (encI (Im.image n (ps.map (dlp c l un ln most)) d)) ∧ Below w.heap.size w w' := by
 obtain ⟨hS, hml, hsh, hdv⟩ := Mo.dta_zero hE
 obtain ⟨_, hu, hln1, _, hnp, hcl⟩ := surv_ok hS
 have hl : n ≤ 1000000 := by have h1 := H.len; have := g.len; have : c * r ≤ 16 * 16 := Nat.mul_le_mul hc hr; omega
 have hpl := HP.len
 have hp : np ≤ 1000000 := by omega
 have HCL : Hid (∀ p, p ∈ ps → (0 ≤ p.s ∧ p.s < (n : Int)) ∧ (0 ≤ p.r ∧ p.r < (n : Int))) := Lib.hid (fun p hp => by have := hcl p hp; rw [H.len] at this; exact this)
 have hn16 : np ≤ 16 := by omega
 have hl256 : 1 ≤ ln ∧ ln ≤ 256 := by omega
 have hlens : ∀ x, x ∈ d → x.length ≤ 1000000 := fun x hx => by
  obtain ⟨j, hj, hxj⟩ := List.getElem_of_mem hx
  have hjp : j < ps.length := by omega
  have h := hsh j ps[j] x (List.getElem?_eq_getElem hjp) (by rw [← hxj]; exact List.getElem?_eq_getElem hj)
  unfold Mo.okT at h
  split at h <;> omega
 have HLE := Lib.hid hlens
 have HSH := Lib.hid hsh
 have HDV := Lib.hid hdv
 have HE : Hid (Mo.first [Mo.surv c r l un ln most ps, Mo.dat ln ps d] = 0) := Lib.hid hE
 clear hE hS hml hsh hdv hcl hpl hnp hlens
 obtain ⟨w0, hW⟩ : ∃ W, W = (w.alloc (Obj.cells #[.int .i64 c, .int .i64 r, .slice A n cap] 35)).alloc (Obj.cells #[.int .i64 un, .int .i64 (ln : Nat), .int .i64 most, .slice P np capp] 39) := ⟨_, rfl⟩
 have hT0 : w0.heap[w.heap.size]? = some (.cells #[.int .i64 c, .int .i64 r, .slice A n cap] 35 (0, 0)) := by rw [hW]; exact heap_old (by simp <;> omega) (heap_new (by simp))
 have hT1 : w0.heap[w.heap.size + 1]? = some (.cells #[.int .i64 un, .int .i64 (ln : Nat), .int .i64 most, .slice P np capp] 39 (0, 0)) := by rw [hW]; exact heap_new (by simp)
 have hB0 : Below w.heap.size w w0 := by rw [hW]; exact (((Below.refl _ _).alloc (by first | omega | (simp <;> omega)) _).alloc (by first | omega | (simp <;> omega)) _)
 replace H := H.below hB0
 replace HP := HP.below hB0
 replace HD := HD.below hB0
 replace hst := hst.below hB0
 go_enter Tryz.func50, Tryz.ntmps50
 go_wp2_with fail
 rw [← hW]
 clear hW
 have qhT0_0 : w0.cell? ⟨w.heap.size, 0, none⟩ = some (.int .i64 c) := cell_at hT0 rfl
 have qhT0_1 : w0.cell? ⟨w.heap.size, 1, none⟩ = some (.int .i64 r) := cell_at hT0 rfl
 have qhT0_2 : w0.cell? ⟨w.heap.size, 2, none⟩ = some (.slice A n cap) := cell_at hT0 rfl
 have qhT1_0 : w0.cell? ⟨w.heap.size + 1, 0, none⟩ = some (.int .i64 un) := cell_at hT1 rfl
 have qhT1_1 : w0.cell? ⟨w.heap.size + 1, 1, none⟩ = some (.int .i64 (ln : Nat)) := cell_at hT1 rfl
 have qhT1_2 : w0.cell? ⟨w.heap.size + 1, 2, none⟩ = some (.int .i64 most) := cell_at hT1 rfl
 have qhT1_3 : w0.cell? ⟨w.heap.size + 1, 3, none⟩ = some (.slice P np capp) := cell_at hT1 rfl
 go_wp2_with fail
 refine (c102 c r A n cap l un ln most P np capp ps D np capd d _ hl hp hp HLE.out HP HD H).mono ?_
 rintro e w1 ⟨rfl, hb⟩
 clear qhT0_0 qhT0_1 qhT0_2 qhT1_0 qhT1_1 qhT1_2 qhT1_3
 have hS := hb
 have hB1 := hB0.call hS rfl
 replace hT0 := blkb hT0 hS
 replace hT1 := blkb hT1 hS
 replace H := H.below hS
 replace HP := HP.below hS
 replace HD := HD.below hS
 replace hst := hst.below hS
 clear hS hB0
 have qhT0_0 : w1.cell? ⟨w.heap.size, 0, none⟩ = some (.int .i64 c) := cell_at hT0 rfl
 have qhT0_1 : w1.cell? ⟨w.heap.size, 1, none⟩ = some (.int .i64 r) := cell_at hT0 rfl
 have qhT0_2 : w1.cell? ⟨w.heap.size, 2, none⟩ = some (.slice A n cap) := cell_at hT0 rfl
 have qhT1_0 : w1.cell? ⟨w.heap.size + 1, 0, none⟩ = some (.int .i64 un) := cell_at hT1 rfl
 have qhT1_1 : w1.cell? ⟨w.heap.size + 1, 1, none⟩ = some (.int .i64 (ln : Nat)) := cell_at hT1 rfl
 have qhT1_2 : w1.cell? ⟨w.heap.size + 1, 2, none⟩ = some (.int .i64 most) := cell_at hT1 rfl
 have qhT1_3 : w1.cell? ⟨w.heap.size + 1, 3, none⟩ = some (.slice P np capp) := cell_at hT1 rfl
 clear hb
 rw [HE.out]
 go_wp2_with fail
 go_wp2_with fail
 have hBq := hB1.size
 refine (c104 c r A n cap l un ln most P np capp ps D capd d _ g hc hr hu hl256 hn16 hcp HCL.out HSH.out HDV.out H HP HD hst).mono ?_
 rintro e w2 ⟨vo, rfl, hro, hb⟩
 clear qhT0_0 qhT0_1 qhT0_2 qhT1_0 qhT1_1 qhT1_2 qhT1_3
 have hS := hb
 have hB2 := hB1.call hS rfl
 replace hT0 := blkb hT0 hS
 replace hT1 := blkb hT1 hS
 replace H := H.below hS
 replace HP := HP.below hS
 replace HD := HD.below hS
 replace hst := hst.below hS
 clear hS hB1
 have qhT0_0 : w2.cell? ⟨w.heap.size, 0, none⟩ = some (.int .i64 c) := cell_at hT0 rfl
 have qhT0_1 : w2.cell? ⟨w.heap.size, 1, none⟩ = some (.int .i64 r) := cell_at hT0 rfl
 have qhT0_2 : w2.cell? ⟨w.heap.size, 2, none⟩ = some (.slice A n cap) := cell_at hT0 rfl
 have qhT1_0 : w2.cell? ⟨w.heap.size + 1, 0, none⟩ = some (.int .i64 un) := cell_at hT1 rfl
 have qhT1_1 : w2.cell? ⟨w.heap.size + 1, 1, none⟩ = some (.int .i64 (ln : Nat)) := cell_at hT1 rfl
 have qhT1_2 : w2.cell? ⟨w.heap.size + 1, 2, none⟩ = some (.int .i64 most) := cell_at hT1 rfl
 have qhT1_3 : w2.cell? ⟨w.heap.size + 1, 3, none⟩ = some (.slice P np capp) := cell_at hT1 rfl
 clear hb
 have HRO := Lib.hid (own_lower hro hBq)
 clear hro
 go_wp2
 go_ret2
 exact ⟨vo, rfl, HRO.out, hB2⟩
end Go.Proofs.YtdimmlljjmmdbaaGreatDoor
namespace Go.Proofs.YtdimmlljjmmdbaaGreatDoor
open Go.RowKit
set_option maxHeartbeats 4000000
set_option maxRecDepth 20000
namespace Mo
end Mo
def ShP (Q : Prop) (e : Ending) : Prop := ∃ b : Bool, e = .returned (.bool b) ∧ (b = true → Q)
theorem c16 (c r : Int) (A : Option Addr) (n cap : Nat) (w : World) :
  Calls Tryz.prog 16 #[.agg #[.int .i64 c, .int .i64 r, .slice A n cap]] w fun en w' => ShP (n ≤ 30) en ∧ Below w.heap.size w w' := by
 have hB : Below w.heap.size w (w.alloc (Obj.cells #[.int .i64 c, .int .i64 r, .slice A n cap] 24)) := (Below.refl _ _).alloc (Nat.le_refl _) _
 go_enter Tryz.func16, Tryz.ntmps16
 go_wp2
 all_goals go_ret
 all_goals exact ⟨⟨_, rfl, by simp <;> omega⟩, hB⟩
end Go.Proofs.YtdimmlljjmmdbaaGreatDoor
/- A struct stored whole into a block of its own, and loaded whole out of it, whatever its number of cells. -/
namespace Go
open Go.RowKit
theorem setCells_grown (b : Nat) : ∀ (vs : List Value) (o : Nat) (w : World), w.grownBy (w.setCells b o vs) (some b) ∧ (w.setCells b o vs).heap.size = w.heap.size ∧
  ∀ c t f, w.heap[b]? = some (.cells c t f) → ∃ c' : Array Value, (w.setCells b o vs).heap[b]? = some (.cells c' t f) ∧ c'.size = c.size
 | [], o, w => ⟨World.grownBy.refl w _, rfl, fun c t f h => ⟨c, h, rfl⟩⟩
 | v :: r, o, w => by
  obtain ⟨h1, h2, h3⟩ := setCells_grown b r (o + 1) (w.setCell ⟨b, o, none⟩ v)
  have hsz : (w.setCell ⟨b, o, none⟩ v).heap.size = w.heap.size := by simp [World.setCell]
  have hg : w.grownBy (w.setCell ⟨b, o, none⟩ v) (some b) := ⟨rfl, rfl, rfl, by rw [hsz]; exact Nat.le_refl _, fun k _ hk => Below.heap_setCell w ⟨b, o, none⟩ v k (fun e => hk (by rw [e]))⟩
  refine ⟨⟨h1.os.trans hg.os, h1.tape.trans hg.tape, h1.output.trans hg.output, Nat.le_trans hg.size h1.size, fun k hk hne => (h1.block k (by rw [hsz]; exact hk) hne).trans (hg.block k hk hne)⟩, h2.trans hsz, fun c t f hc => ?_⟩
  have : (w.setCell ⟨b, o, none⟩ v).heap[b]? = some (.cells (c.setIfInBounds o v) t f) := by
   simp [World.setCell, Array.getElem?_modify, hc]
  obtain ⟨c', hc', hs'⟩ := h3 _ _ _ this
  exact ⟨c', hc', by rw [hs']; simp⟩
theorem setCells_blk {w : World} {g : Nat} {cs : Array Value} {old : Array Value} {t : TypeId} (hh : w.heap[g]? = some (.cells old t (0, 0))) (hsz : old.size = cs.size) :
  (w.setCells g 0 cs.toList).heap[g]? = some (.cells cs t (0, 0)) := by
 obtain ⟨c', hc', hs'⟩ := (setCells_grown g cs.toList 0 w).2.2 _ _ _ hh
 rw [hc']
 have ht : w.there g 0 cs.toList.length := fun j hj => by
  have hj' : j < old.size := by rw [hsz]; simpa using hj
  constructor
  ·simp [World.cell?, hh, hj']
  ·simp [World.frozen?, hh]
 have hr := World.rangeAt_setCells_same w g 0 cs.toList ht
 have : c' = cs := by
  apply Array.ext_getElem?
  intro j
  rcases Nat.lt_or_ge j cs.size with hj | hj
  ·have := hr j cs[j] (by simp [hj])
   rw [Nat.zero_add] at this
   simp only [World.cell?, hc'] at this
   simpa [hj] using this
  ·rw [Array.getElem?_eq_none hj, Array.getElem?_eq_none (by rw [hs', hsz]; exact hj)]
 rw [this]
section
variable {P : Program}
theorem wp_store_blk {op : Oper} {a : Act} {w : World} {K : Act → World → Prop} {Q : Exit → Act → World → Prop} (ty : TypeId) (x y : Operand) (ho : op.op = .store ty x y)
  (g : Nat) (cs : Array Value) (hx : a.eval x = .pointer (some ⟨g, 0, none⟩)) (hy : a.eval y = .agg cs) {old : Array Value} {t : TypeId} (hh : w.heap[g]? = some (.cells old t (0, 0)))
  (hsz : old.size = cs.size) (hi : (P.info? ty).map (·.size) = some cs.size) (h1 : cs.all (·.oneCell') = true)
  (h : ∀ w', w'.heap[g]? = some (.cells cs t (0, 0)) → w.grownBy w' (some g) → w'.heap.size = w.heap.size → K (a.put op.dst undef) w') : op.wp P a w K Q :=
 wp_store_mid ty x y ho g 0 cs hx hy (fun j hj => by
  have hj' : j < old.size := by rw [hsz]; exact hj
  constructor
  ·simp [World.cell?, hh, hj']
  ·simp [World.frozen?, hh]) hi h1 (h _ (setCells_blk hh hsz) (setCells_grown g _ 0 w).1 (setCells_grown g _ 0 w).2.1)
theorem wpList_store_blk {ops : Array Oper} {rest : List Oper} {op : Oper} {a : Act} {w : World} {Q : Exit → Act → World → Prop} (hgd : op.guard = none) (ty : TypeId) (x y : Operand) (ho : op.op = .store ty x y)
  (g : Nat) (cs : Array Value) (hx : a.eval x = .pointer (some ⟨g, 0, none⟩)) (hy : a.eval y = .agg cs) {old : Array Value} {t : TypeId} (hh : w.heap[g]? = some (.cells old t (0, 0)))
  (hsz : old.size = cs.size) (hi : (P.info? ty).map (·.size) = some cs.size) (h1 : cs.all (·.oneCell') = true)
  (h : ∀ w', w'.heap[g]? = some (.cells cs t (0, 0)) → w.grownBy w' (some g) → w'.heap.size = w.heap.size → wpList P ops Q rest (a.put op.dst undef) w') : wpList P ops Q (op :: rest) a w :=
 wpList_plain hgd fun _ hK => wp_store_blk ty x y ho g cs hx hy hh hsz hi h1 fun w' h2 h3 h4 => hK _ _ (h w' h2 h3 h4)
theorem rangeAt_blk {w : World} {g : Nat} {cs : Array Value} {t : TypeId} {f : Nat × Nat} (hh : w.heap[g]? = some (.cells cs t f)) : w.rangeAt g 0 cs.toList := fun j v hv => by
 simp only [World.cell?, hh, Nat.zero_add]
 simpa using hv
/-- a struct result in a cell of a block -/
theorem run_loadVar_blk {w : World} {g : Nat} {cs : Array Value} {t : TypeId} {f : Nat × Nat} (hh : w.heap[g]? = some (.cells cs t f)) (ty : TypeId) (d : TypeDesc) (hu : P.underlying ty = some d) (hd : d.isRow = true) (hi : (P.info? ty).map (·.size) = some cs.size) :
  (loadVar ty ⟨g, 0, none⟩).run P w = .ok (.agg cs) w := by
 have := run_loadVar_mid (P := P) w g 0 ty cs.toList d (rangeAt_blk hh) hu hd (by simpa using hi)
 simpa using this
theorem results_blk {fn : Func} {a : Tmp} {T : TypeId} (h : fn.results = #[.cell a T]) {tmps : Array Value} {w : World} {g : Nat} {cs : Array Value} {t : TypeId} {f : Nat × Nat} (ha : tmps.getD a undef = .pointer (some ⟨g, 0, none⟩)) (hh : w.heap[g]? = some (.cells cs t f))
  (d : TypeDesc) (hu : P.underlying T = some d) (hd : d.isRow = true) (hi : (P.info? T).map (·.size) = some cs.size) : (results fn tmps).run P w = .ok (.agg cs) w := by
 have hl := run_loadVar_blk (P := P) hh T d hu hd hi
 have ha' : tmps[a]?.getD undef = .pointer (some ⟨g, 0, none⟩) := by simpa using ha
 simp [results, h, ha', asAddr, hl]
theorem results_blk_tmp {fn : Func} {a u : Tmp} {T : TypeId} (h : fn.results = #[.cell a T, .tmp u]) {tmps : Array Value} {w : World} {g : Nat} {cs : Array Value} {t : TypeId} {f : Nat × Nat} (ha : tmps.getD a undef = .pointer (some ⟨g, 0, none⟩)) (hh : w.heap[g]? = some (.cells cs t f))
  (d : TypeDesc) (hu : P.underlying T = some d) (hd : d.isRow = true) (hi : (P.info? T).map (·.size) = some cs.size) : (results fn tmps).run P w = .ok (.tuple #[.agg cs, tmps.getD u undef]) w := by
 have hl := run_loadVar_blk (P := P) hh T d hu hd hi
 have ha' : tmps[a]?.getD undef = .pointer (some ⟨g, 0, none⟩) := by simpa using ha
 simp [results, h, ha', asAddr, hl]
end
end Go
namespace Go.Proofs.YtdimmlljjmmdbaaGreatDoor
open Go.RowKit
set_option maxHeartbeats 4000000
set_option maxRecDepth 20000
theorem own_setfar {w : World} {B : Nat} {e : TypeId} {size : Nat} {v u : Value} {n : Nat} {l : List Value} {p : Addr} (h : w.ownsRow B e size v n l) (hp : p.block < B) : (w.setCell p u).ownsRow B e size v n l := by
 obtain ⟨h1, h2 | ⟨g, cap, cs, rfl, h3, h4, h5⟩⟩ := h
 ·exact ⟨h1, .inl h2⟩
 ·exact ⟨h1, .inr ⟨g, cap, cs, rfl, h3, (set_far (p := p) u (by omega)).trans h4, h5⟩⟩
end Go.Proofs.YtdimmlljjmmdbaaGreatDoor
/- Plain laws of chapter 07: inner products, step by step, and their bounds. -/
namespace Im
def innK (a b : List Int) : Nat → Int
 | 0 => 0
 | k + 1 => innK a b k + at0 a k * at0 b k
theorem innK_cons (x y : Int) (a b : List Int) : ∀ k, innK (x :: a) (y :: b) (k + 1) = x * y + innK a b k
 | 0 => by simp [innK, at0]
 | k + 1 => by
  have ih := innK_cons x y a b k
  show innK (x :: a) (y :: b) (k + 1) + at0 (x :: a) (k + 1) * at0 (y :: b) (k + 1) = x * y + (innK a b k + at0 a k * at0 b k)
  rw [ih]
  have e1 : at0 (x :: a) (k + 1) = at0 a k := rfl
  have e2 : at0 (y :: b) (k + 1) = at0 b k := rfl
  rw [e1, e2, Int.add_assoc]
theorem innK_full : ∀ {a b : List Int} {n : Nat}, a.length = n → b.length = n → innK a b n = inner a b
 | [], [], _, h, _ => by subst h; rfl
 | x :: a, y :: b, 0, h, _ => by simp at h
 | x :: a, y :: b, n + 1, h, h' => by
  rw [innK_cons, innK_full (by simpa using h) (by simpa using h')]; rfl
 | [], _ :: _, _, h, h' => by subst h; simp at h'
 | _ :: _, [], _, h, h' => by subst h'; simp at h
theorem mul_le {C x y : Int} (hC : 0 ≤ C) (hx : -C ≤ x ∧ x ≤ C) (hy : -C ≤ y ∧ y ≤ C) : -(C * C) ≤ x * y ∧ x * y ≤ C * C := by
 have h1 : 0 ≤ (C - x) * (C + y) := Int.mul_nonneg (by omega) (by omega)
 have h2 : 0 ≤ (C + x) * (C - y) := Int.mul_nonneg (by omega) (by omega)
 have h3 : 0 ≤ (C - x) * (C - y) := Int.mul_nonneg (by omega) (by omega)
 have h4 : 0 ≤ (C + x) * (C + y) := Int.mul_nonneg (by omega) (by omega)
 simp only [Int.add_mul, Int.sub_mul, Int.mul_add, Int.mul_sub] at h1 h2 h3 h4
 have e1 : C * y = y * C := Int.mul_comm _ _
 have e2 : x * C = C * x := Int.mul_comm _ _
 rw [e1, e2] at *
 omega
theorem innK_le {a b : List Int} {C : Int} (hC : 0 ≤ C) (ha : ∀ i, -C ≤ at0 a i ∧ at0 a i ≤ C) (hb : ∀ i, -C ≤ at0 b i ∧ at0 b i ≤ C) : ∀ k : Nat, -((k : Int) * (C * C)) ≤ innK a b k ∧ innK a b k ≤ (k : Int) * (C * C)
 | 0 => by simp [innK]
 | k + 1 => by
  have ih := innK_le hC ha hb k
  have h := mul_le hC (ha k) (hb k)
  have e : ((k + 1 : Nat) : Int) * (C * C) = (k : Int) * (C * C) + C * C := by rw [Int.natCast_add, Int.add_mul]; simp
  rw [e]
  show -((k : Int) * (C * C) + C * C) ≤ innK a b k + at0 a k * at0 b k ∧ innK a b k + at0 a k * at0 b k ≤ (k : Int) * (C * C) + C * C
  omega
theorem at0_le {l : List Int} {C : Int} (hC : 0 ≤ C) (h : ∀ x, x ∈ l → -C ≤ x ∧ x ≤ C) (i : Nat) : -C ≤ at0 l i ∧ at0 l i ≤ C := by
 unfold at0
 rw [List.getD_eq_getElem?_getD]
 cases hh : l[i]? with
 | none => simp; omega
 | some v => simpa using h v (List.mem_of_getElem? hh)
end Im
