/- A part of the proofs about traces, tides and horizons: contracts of functions and plain laws (K11, K12, K13, K14, K15, K16, K17, K18, K19). -/
import Derived.Lib.OthersKept
import Derived.Test.YtfmgibhffgkieaaDoorZ03b
set_option linter.all false
namespace Go.Proofs.YtfmgibhffgkieaaDoor
open Go.RowKit
set_option maxHeartbeats 8000000
set_option maxRecDepth 100000
theorem c61 (nm : ByteArray) (e : Int) (A : Option Addr) (n cap : Nat) (l : List Td) (a z : Td) (w : World) (hn : n ≤ 1000000) (H : RdT w A n l) (ha : l[0]? = some a) (hz : l[n - 1]? = some z) :
  Calls Tryd.prog 61 #[.agg #[.string nm, .int .i64 e, .slice A n cap]] w fun en w' => en = .returned (.tuple #[.int .i64 a.t, .int .i64 z.t]) ∧ Below w.heap.size w w' := by
 have hn1 : 1 ≤ n := by have := (List.getElem?_eq_some_iff.1 ha).1; have := H.len; omega
 obtain ⟨g, off, rfl, hg, p0, _⟩ := H.at ha
 obtain ⟨g2, off2, he, _, p1, _⟩ := H.at hz
 cases he
 have hw1 : IntKind.i64.wrap ((n : Int) - 1) = ((n - 1 : Nat) : Int) := by rw [wrapI (by omega)]; omega
 obtain ⟨m, hm⟩ : ∃ m, m = n - 1 := ⟨_, rfl⟩
 rw [← hm] at hw1 p1
 have hmn : (m : Int) < (n : Int) := by omega
 have hni : (0 : Int) < (n : Int) := by omega
 have hni2 : 0 < n := by omega
 obtain ⟨av, hat⟩ : ∃ t, t = a.t := ⟨_, rfl⟩
 obtain ⟨zt, hzt⟩ : ∃ t, t = z.t := ⟨_, rfl⟩
 rw [← hat] at p0 ⊢
 rw [← hzt] at p1 ⊢
 simp only [Nat.zero_mul, Nat.add_zero] at p0
 have HP0 := Lib.hid p0
 have HP1 := Lib.hid p1
 have HG := Lib.hid hg
 clear ha hz hn1 hm hat hzt hn H p0 p1 hg
 obtain ⟨w0, hW⟩ : ∃ W, W = w.alloc (Obj.cells #[.string nm, .int .i64 e, .slice (some ⟨g, off, none⟩) n cap] 40) := ⟨_, rfl⟩
 have hT0 : w0.heap[w.heap.size]? = some (.cells #[.string nm, .int .i64 e, .slice (some ⟨g, off, none⟩) n cap] 40 (0, 0)) := by rw [hW]; exact heap_new (by simp)
 have hB0 : Below w.heap.size w w0 := by rw [hW]; exact ((Below.refl _ _).alloc (by first | omega | (simp <;> omega)) _)
 go_enter Tryd.func61, Tryd.ntmps61
 go_wp2_with fail
 rw [← hW]
 clear hW
 have qhT0_0 : w0.cell? ⟨w.heap.size, 0, none⟩ = some (.string nm) := cell_at hT0 rfl
 have qhT0_1 : w0.cell? ⟨w.heap.size, 1, none⟩ = some (.int .i64 e) := cell_at hT0 rfl
 have qhT0_2 : w0.cell? ⟨w.heap.size, 2, none⟩ = some (.slice (some ⟨g, off, none⟩) n cap) := cell_at hT0 rfl
 have p0 := (hB0.cell (p := ⟨g, off, none⟩) HG.out).trans HP0.out
 have p1 := (hB0.cell (p := ⟨g, off + m * 2, none⟩) HG.out).trans HP1.out
 have hg := cell_lt p0
 refine wp_region_plan [(0, true), (1, true), (2, true), (3, true), (4, true), (5, true), (6, true), (7, true), (8, true), (9, true), (10, true), (11, true), (12, true), (13, true), (14, true), (15, true)] w0.heap.size (by kernel_rfl) (by kernel_rfl) (Nat.le_refl _) (fun _ _ d _ _ h => by cases d <;> exact h) ?_
 have hC : Below w0.heap.size w0 w0 := Below.refl _ _
 have zhT0 : w.heap.size < w0.heap.size := (Array.getElem?_eq_some_iff.1 hT0).1
 repeat (first | (refine wpPlanA_skip _ rfl (by rfl) ?_; simp only [Act.put, List.setIfInBounds_toArray, List.set_cons_zero, List.set_cons_succ]) | (refine wpPlanA_soft _ ?_ rfl (by rfl) ?_ ?_; rotate_left; (intro wq hq hcq; go_simp; first | exact rfl | exact ⟨rfl, rfl⟩); simp only [Act.put, List.setIfInBounds_toArray, List.set_cons_zero, List.set_cons_succ]))
 clear p0 p1 hw1 hmn hni hni2 hg
 clear qhT0_0 qhT0_1 qhT0_2
 refine wpPlanA_nil (fun w1 hS => ?_)
 clear hC zhT0
 have hB1 := hB0.call hS rfl
 replace hT0 := blkb hT0 hS
 clear hS hB0
 have qhT0_0 : w1.cell? ⟨w.heap.size, 0, none⟩ = some (.string nm) := cell_at hT0 rfl
 have qhT0_1 : w1.cell? ⟨w.heap.size, 1, none⟩ = some (.int .i64 e) := cell_at hT0 rfl
 have qhT0_2 : w1.cell? ⟨w.heap.size, 2, none⟩ = some (.slice (some ⟨g, off, none⟩) n cap) := cell_at hT0 rfl
 go_wp2
 go_ret2
 exact ⟨rfl, hB1⟩
theorem c74 (p t q : Int) (pb : Nat) (w : World) (h : w.cell? ⟨pb, 0, none⟩ = some (.int .i64 q)) :
  Calls Tryd.prog 74 #[.agg #[.int .i64 p, .int .i64 t], .pointer (some ⟨pb, 0, none⟩)] w fun en w' => en = .returned (.bool (decide (q ≤ p))) ∧ Below w.heap.size w w' := by
 have hl := cell_lt h
 go_enter Tryd.func74, Tryd.ntmps74
 go_wp2
 go_ret
 exact ⟨rfl, bl2 _ _⟩
theorem c73 (A : Option Addr) (n cap : Nat) (l : List Td) (q : Int) (pb i : Nat) (b : Td) (w : World) (hn : n ≤ 1000000) (H : RdT w A n l) (h : w.cell? ⟨pb, 0, none⟩ = some (.int .i64 q)) (hi : l[i]? = some b) (hb : q ≤ b.t) (hlt : ∀ j x, j < i → l[j]? = some x → x.t < q) :
  Calls Tryd.prog 73 #[.slice A n cap, .func (.func 74) #[] #[.pointer (some ⟨pb, 0, none⟩)]] w fun en w' => en = .returned (.int .i64 i) ∧ Below w.heap.size w w' := by
 have hil : i < n := by have := (List.getElem?_eq_some_iff.1 hi).1; have := H.len; omega
 have HLN := Lib.hid H.len
 have HLT := Lib.hid hlt
 have HI := Lib.hid hi
 have HB := Lib.hid hb
 have hpl := cell_lt h
 have HH := Lib.hid h
 have HP := Lib.hid hpl
 clear hlt hi hb h hpl
 go_enter Tryd.func73, Tryd.ntmps73
 go_wp2
 go_loopw [8] (fun iv wr => ∃ k : Nat, k ≤ i ∧ iv = .int .i64 k ∧ Below w.heap.size w wr) (fun iv _ => i - (intOf iv).toNat)
 case atStart => exact ⟨0, Nat.zero_le _, rfl, Below.refl _ _⟩
 case round =>
  obtain ⟨k, hk, rfl, hbr⟩ := hrel
  have hkn : (k : Int) < (n : Int) := by omega
  obtain ⟨x, hx⟩ : ∃ x, l[k]? = some x := ⟨l[k]'(by rw [HLN.out]; omega), List.getElem?_eq_getElem _⟩
  obtain ⟨g, off, rfl, hg, p0, p1⟩ := (H.below hbr).at hx
  have h74 := fun W (hW : Below wr.heap.size wr W) => c74 x.t x.h q pb W ((hW.cell (p := ⟨pb, 0, none⟩) (Nat.lt_of_lt_of_le HP.out hbr.size)).trans ((hbr.cell (p := ⟨pb, 0, none⟩) HP.out).trans HH.out))
  have HX : Hid (k < i → x.t < q) := Lib.hid (fun h => HLT.out k x h hx)
  have HE : Hid (k = i → q ≤ x.t) := Lib.hid (fun h => by subst h; rw [HI.out] at hx; cases hx; exact HB.out)
  obtain ⟨xt, hxt⟩ : ∃ t, t = x.t := ⟨_, rfl⟩
  obtain ⟨xh, hxh⟩ : ∃ t, t = x.h := ⟨_, rfl⟩
  rw [← hxt] at HX HE p0
  rw [← hxh] at p1
  rw [← hxt, ← hxh] at h74
  have H74 := Lib.hid h74
  have HBR := Lib.hid hbr
  clear h74 hx hxt hxh hbr
  have hwk : IntKind.i64.wrap ((k : Int) + 1) = ((k + 1 : Nat) : Int) := by rw [wrapI (by omega)]; simp
  go_wp2_with fail
  refine (H74.out _ (Below.refl _ _)).mono ?_
  rintro e w2 ⟨rfl, hb2⟩
  have HB2 := Lib.hid (HBR.out.call hb2 rfl)
  clear hb2 p0 p1
  by_cases hki : k = i
  ·have hd : decide (q ≤ xt) = true := by simpa using HE.out hki
   subst hki
   go_wp2
   go_ret
   exact ⟨rfl, HB2.out⟩
  ·have hlt2 : k < i := by omega
   have hd : decide (q ≤ xt) = false := by have := HX.out hlt2; simp; omega
   clear hki
   go_wp2
   go_roundw
   case rel => exact ⟨k + 1, by omega, by go_num, HB2.out⟩
   case measure => simp [intOf]; omega
end Go.Proofs.YtfmgibhffgkieaaDoor
namespace Go.Proofs.YtfmgibhffgkieaaDoor
open Go.RowKit
set_option maxHeartbeats 8000000
set_option maxRecDepth 100000
/-- the time of a horizon at a place between or on picks, twice -/
theorem eq60 (a b c d : Int) (w : World) : (Op.equalIn 10000 60 (.agg #[.int .i64 a, .int .i64 b]) (.agg #[.int .i64 c, .int .i64 d])).run Tryd.prog w = .ok (decide (a = c) && decide (b = d)) w := by
 have u3 := Tryd.underlying3
 have a3 := Tryd.isAgg3
 have z3 := Tryd.sizeOf3
 rw [show (10000 : Nat) = 9999 + 1 from rfl, run_equalIn_struct w 9999 60 _ _ (by unfold Program.fieldsOf; rw [Tryd.underlying60]) (by kernel_rfl)]
 unfold Program.fieldsOf
 rw [Tryd.underlying60]
 simp only [Op.eqFields]
 go_simp
 by_cases h1 : a = c <;> by_cases h2 : b = d <;> simp [h1, h2]
theorem op60 (a b c d : Int) (w : World) : (binOp .eql 60 (.agg #[.int .i64 a, .int .i64 b]) (.agg #[.int .i64 c, .int .i64 d])).run Tryd.prog w = .ok (.bool (decide (a = c) && decide (b = d))) w := by
 simp only [binOp]
 simp [Op.equal, Op.maxDepth, eq60]
theorem rat_finA {w w1 : World} {b : Nat} {p q : Value} {t : TypeId} (h4 : w1.heap[b]? = some (.cells #[p, q] t (0, 0))) {B : Nat} (hB : B ≤ b) (hb : Below B w w1) (o : Obj) (c d : Value) (hs : B ≤ w1.heap.size) :
  (((w1.setCell ⟨b, 0, none⟩ c).setCell ⟨b, 1, none⟩ d).alloc o).heap[b]? = some (.cells #[c, d] t (0, 0)) ∧ Below B w (((w1.setCell ⟨b, 0, none⟩ c).setCell ⟨b, 1, none⟩ d).alloc o) := by
 obtain ⟨h1, h2⟩ := rat_fin h4 hB hb c d
 exact ⟨heap_old (Array.getElem?_eq_some_iff.1 h1).1 h1, h2.alloc (by simp; exact hs) _⟩
theorem c62_on (nm : ByteArray) (e : Int) (A : Option Addr) (n cap : Nat) (l : List Td) (q : Int) (i : Nat) (b : Td) (w : World) (hn : n ≤ 1000000) (H : RdT w A n l) (hi : l[i]? = some b) (hlt : ∀ j x, j < i → l[j]? = some x → x.t < q) (hb : b.t = q) :
  Calls Tryd.prog 62 #[.agg #[.string nm, .int .i64 e, .slice A n cap], .int .i64 q] w fun en w' => en = .returned (.agg #[.int .i64 b.h, .int .i64 1]) ∧ Below w.heap.size w w' := by
 have hil : i < n := by have := (List.getElem?_eq_some_iff.1 hi).1; have := H.len; omega
 obtain ⟨bt, hbt⟩ : ∃ t, t = b.t := ⟨_, rfl⟩
 obtain ⟨bh, hbh⟩ : ∃ t, t = b.h := ⟨_, rfl⟩
 rw [← hbt] at hb
 have HC : Hid (∀ W, RdT W A n l → ∃ g off, A = some ⟨g, off, none⟩ ∧ g < W.heap.size ∧ W.cell? ⟨g, off + i * 2, none⟩ = some (.int .i64 bt) ∧ W.cell? ⟨g, off + i * 2 + 1, none⟩ = some (.int .i64 bh)) := Lib.hid (fun W h => by rw [hbt, hbh]; exact h.at hi)
 have H73 : Hid (∀ W pb, RdT W A n l → W.cell? ⟨pb, 0, none⟩ = some (.int .i64 q) → Calls Tryd.prog 73 #[.slice A n cap, .func (.func 74) #[] #[.pointer (some ⟨pb, 0, none⟩)]] W fun en w' => en = .returned (.int .i64 i) ∧ Below W.heap.size W w') := Lib.hid (fun W pb h hq => c73 A n cap l q pb i b W hn h hq hi (by omega) hlt)
 have hni : (i : Int) < (n : Int) := by omega
 rw [← hbh]
 subst hb
 clear hbt hbh hi hlt hn
 obtain ⟨w0, hW⟩ : ∃ W, W = ((w.alloc (Obj.cells #[.string nm, .int .i64 e, .slice A n cap] 40)).alloc (Obj.cells #[.int .i64 bt] 3)).alloc (Obj.cells #[.int .i64 0, .int .i64 0] 68) := ⟨_, rfl⟩
 have hT0 : w0.heap[w.heap.size]? = some (.cells #[.string nm, .int .i64 e, .slice A n cap] 40 (0, 0)) := by rw [hW]; exact heap_old (by simp <;> omega) (heap_old (by simp <;> omega) (heap_new (by simp)))
 have hT1 : w0.heap[w.heap.size + 1]? = some (.cells #[.int .i64 bt] 3 (0, 0)) := by rw [hW]; exact heap_old (by simp <;> omega) (heap_new (by simp))
 have hT2 : w0.heap[w.heap.size + 1 + 1]? = some (.cells #[.int .i64 0, .int .i64 0] 68 (0, 0)) := by rw [hW]; exact heap_new (by simp)
 have hB0 : Below w.heap.size w w0 := by rw [hW]; exact ((((Below.refl _ _).alloc (by first | omega | (simp <;> omega)) _).alloc (by first | omega | (simp <;> omega)) _).alloc (by first | omega | (simp <;> omega)) _)
 replace H := H.below hB0
 go_enter Tryd.func62, Tryd.ntmps62
 go_wp2_with fail
 rw [← hW]
 clear hW
 have qhT0_0 : w0.cell? ⟨w.heap.size, 0, none⟩ = some (.string nm) := cell_at hT0 rfl
 have qhT0_1 : w0.cell? ⟨w.heap.size, 1, none⟩ = some (.int .i64 e) := cell_at hT0 rfl
 have qhT0_2 : w0.cell? ⟨w.heap.size, 2, none⟩ = some (.slice A n cap) := cell_at hT0 rfl
 have qhT1_0 : w0.cell? ⟨w.heap.size + 1, 0, none⟩ = some (.int .i64 bt) := cell_at hT1 rfl
 have qhT2_0 : w0.cell? ⟨w.heap.size + 1 + 1, 0, none⟩ = some (.int .i64 0) := cell_at hT2 rfl
 have qhT2_1 : w0.cell? ⟨w.heap.size + 1 + 1, 1, none⟩ = some (.int .i64 0) := cell_at hT2 rfl
 have hpq : w0.cell? ⟨w.heap.size + 1, 0, none⟩ = some (.int .i64 bt) := cell_at hT1 rfl
 go_wp2_with fail
 refine (H73.out _ _ H hpq).mono ?_
 rintro e w1 ⟨rfl, hb⟩
 clear qhT0_0 qhT0_1 qhT0_2 qhT1_0 qhT2_0 qhT2_1
 have hS := hb
 have hB1 := hB0.call hS rfl
 replace hT0 := blkb hT0 hS
 replace hT1 := blkb hT1 hS
 replace hT2 := blkb hT2 hS
 replace H := H.below hS
 clear hS hB0
 have qhT0_0 : w1.cell? ⟨w.heap.size, 0, none⟩ = some (.string nm) := cell_at hT0 rfl
 have qhT0_1 : w1.cell? ⟨w.heap.size, 1, none⟩ = some (.int .i64 e) := cell_at hT0 rfl
 have qhT0_2 : w1.cell? ⟨w.heap.size, 2, none⟩ = some (.slice A n cap) := cell_at hT0 rfl
 have qhT1_0 : w1.cell? ⟨w.heap.size + 1, 0, none⟩ = some (.int .i64 bt) := cell_at hT1 rfl
 have qhT2_0 : w1.cell? ⟨w.heap.size + 1 + 1, 0, none⟩ = some (.int .i64 0) := cell_at hT2 rfl
 have qhT2_1 : w1.cell? ⟨w.heap.size + 1 + 1, 1, none⟩ = some (.int .i64 0) := cell_at hT2 rfl
 clear hb
 obtain ⟨g, off, rfl, hg, p0, p1⟩ := HC.out _ H
 have O := op60
 have k4 : w1.cell? ⟨w.heap.size + 1 + 1, 0, none⟩ = some (.int .i64 0) := cell_at hT2 rfl
 have f40 : w1.frozen? ⟨w.heap.size + 1 + 1, 0, none⟩ = false := free_at hT2
 have f41 : w1.frozen? ⟨w.heap.size + 1 + 1, 1, none⟩ = false := free_at hT2
 have l4 := cell_lt k4
 have l3 := cell_lt qhT1_0
 have l2 := cell_lt qhT0_0
 have HF := Lib.hid (rat_finA hT2 (B := w.heap.size) (by omega) hB1 (Obj.cells #[.int .i64 bt, .int .i64 bh] 60) (.int .i64 bh) (.int .i64 1) hB1.size)
 clear hpq H
 go_wp2_with fail
 exact bodyPost_ret (results_blk rfl rfl HF.out.1 _ Tryd.underlying68 rfl (by kernel_rfl)) rfl ⟨rfl, HF.out.2⟩
theorem c62_mid (nm : ByteArray) (e : Int) (A : Option Addr) (n cap : Nat) (l : List Td) (q : Int) (i : Nat) (b : Td) (w : World) (hn : n ≤ 1000000) (H : RdT w A n l) (hi : l[i]? = some b) (hlt : ∀ j x, j < i → l[j]? = some x → x.t < q) (a : Td) (x y : Nat) (hi1 : 1 ≤ i) (ha : l[i - 1]? = some a) (hat : a.t = q - 1) (hb : b.t = q + 1) (hx : a.h = x) (hy : b.h = y) (hxy : x ≤ 100000 ∧ y ≤ 100000) (hq : 0 ≤ q ∧ q ≤ 1000) :
  Calls Tryd.prog 62 #[.agg #[.string nm, .int .i64 e, .slice A n cap], .int .i64 q] w fun en w' => en = .returned (.agg #[.int .i64 (Mo.lown (x + y : Nat) 2), .int .i64 (Mo.lowd (x + y : Nat) 2)]) ∧ Below w.heap.size w w' := by
 have hil : i < n := by have := (List.getElem?_eq_some_iff.1 hi).1; have := H.len; omega
 obtain ⟨bt, hbt⟩ : ∃ t, t = b.t := ⟨_, rfl⟩
 obtain ⟨bh, hbh⟩ : ∃ t, t = b.h := ⟨_, rfl⟩
 rw [← hbt] at hb
 have HC : Hid (∀ W, RdT W A n l → ∃ g off, A = some ⟨g, off, none⟩ ∧ g < W.heap.size ∧ W.cell? ⟨g, off + i * 2, none⟩ = some (.int .i64 bt) ∧ W.cell? ⟨g, off + i * 2 + 1, none⟩ = some (.int .i64 bh)) := Lib.hid (fun W h => by rw [hbt, hbh]; exact h.at hi)
 have H73 : Hid (∀ W pb, RdT W A n l → W.cell? ⟨pb, 0, none⟩ = some (.int .i64 q) → Calls Tryd.prog 73 #[.slice A n cap, .func (.func 74) #[] #[.pointer (some ⟨pb, 0, none⟩)]] W fun en w' => en = .returned (.int .i64 i) ∧ Below W.heap.size W w') := Lib.hid (fun W pb h hq => c73 A n cap l q pb i b W hn h hq hi (by omega) hlt)
 have hni : (i : Int) < (n : Int) := by omega
 have HA : Hid (∀ W, RdT W A n l → ∃ g off, A = some ⟨g, off, none⟩ ∧ g < W.heap.size ∧ W.cell? ⟨g, off + (i - 1) * 2, none⟩ = some (.int .i64 a.t) ∧ W.cell? ⟨g, off + (i - 1) * 2 + 1, none⟩ = some (.int .i64 x)) := Lib.hid (fun W h => by rw [← hx]; exact h.at ha)
 have hbx : bh = (y : Int) := by rw [hbh, hy]
 subst hbx
 obtain ⟨av, hav⟩ : ∃ t, t = a.t := ⟨_, rfl⟩
 rw [← hav] at HA hat
 have hne : decide (bt = q) = false := by simp; omega
 have e1 : IntKind.i64.wrap (bt - av) = 2 := by rw [wrapI (by omega)]; omega
 have e2 : IntKind.i64.wrap (q - av) = 1 := by rw [wrapI (by omega)]; omega
 have e3 : IntKind.i64.wrap ((x : Int) * 2) = (x : Int) * 2 := wrapI (by omega)
 have e4 : IntKind.i64.wrap ((y : Int) - (x : Int)) = (y : Int) - (x : Int) := wrapI (by omega)
 have e6 : IntKind.i64.wrap ((x : Int) * 2 + ((y : Int) - (x : Int))) = ((x + y : Nat) : Int) := by rw [wrapI (by omega)]; omega
 have hwi : IntKind.i64.wrap ((i : Int) - 1) = ((i - 1 : Nat) : Int) := by rw [wrapI (by omega)]; omega
 obtain ⟨i1, hi1e⟩ : ∃ j, j = i - 1 := ⟨_, rfl⟩
 rw [← hi1e] at hwi HA
 have hni1 : (i1 : Int) < (n : Int) := by omega
 have K75 : Hid (∀ W, Calls Tryd.prog 75 #[.int .i64 ((x + y : Nat) : Int), .int .i64 2] W fun en w' => en = .returned (.agg #[.int .i64 (Mo.lown (x + y : Nat) 2), .int .i64 (Mo.lowd (x + y : Nat) 2)]) ∧ Below W.heap.size W w') := Lib.hid (fun W => c75 (x + y) 2 W (by omega) (by decide))
 obtain ⟨N, hN⟩ : ∃ N, N = Mo.lown (x + y : Nat) 2 := ⟨_, rfl⟩
 obtain ⟨D, hD⟩ : ∃ N, N = Mo.lowd (x + y : Nat) 2 := ⟨_, rfl⟩
 obtain ⟨S, hS0⟩ : ∃ S : Int, S = ((x + y : Nat) : Int) := ⟨_, rfl⟩
 rw [← hN, ← hD]
 rw [← hN, ← hD, ← hS0] at K75
 rw [← hS0] at e6
 clear hbt hbh hi hlt hn hi1 ha hat hb hx hy hxy hq hav hi1e hN hD hS0 hil
 obtain ⟨w0, hW⟩ : ∃ W, W = ((w.alloc (Obj.cells #[.string nm, .int .i64 e, .slice A n cap] 40)).alloc (Obj.cells #[.int .i64 q] 3)).alloc (Obj.cells #[.int .i64 0, .int .i64 0] 68) := ⟨_, rfl⟩
 have hT0 : w0.heap[w.heap.size]? = some (.cells #[.string nm, .int .i64 e, .slice A n cap] 40 (0, 0)) := by rw [hW]; exact heap_old (by simp <;> omega) (heap_old (by simp <;> omega) (heap_new (by simp)))
 have hT1 : w0.heap[w.heap.size + 1]? = some (.cells #[.int .i64 q] 3 (0, 0)) := by rw [hW]; exact heap_old (by simp <;> omega) (heap_new (by simp))
 have hT2 : w0.heap[w.heap.size + 1 + 1]? = some (.cells #[.int .i64 0, .int .i64 0] 68 (0, 0)) := by rw [hW]; exact heap_new (by simp)
 have hB0 : Below w.heap.size w w0 := by rw [hW]; exact ((((Below.refl _ _).alloc (by first | omega | (simp <;> omega)) _).alloc (by first | omega | (simp <;> omega)) _).alloc (by first | omega | (simp <;> omega)) _)
 replace H := H.below hB0
 go_enter Tryd.func62, Tryd.ntmps62
 go_wp2_with fail
 rw [← hW]
 clear hW
 have qhT0_0 : w0.cell? ⟨w.heap.size, 0, none⟩ = some (.string nm) := cell_at hT0 rfl
 have qhT0_1 : w0.cell? ⟨w.heap.size, 1, none⟩ = some (.int .i64 e) := cell_at hT0 rfl
 have qhT0_2 : w0.cell? ⟨w.heap.size, 2, none⟩ = some (.slice A n cap) := cell_at hT0 rfl
 have qhT1_0 : w0.cell? ⟨w.heap.size + 1, 0, none⟩ = some (.int .i64 q) := cell_at hT1 rfl
 have qhT2_0 : w0.cell? ⟨w.heap.size + 1 + 1, 0, none⟩ = some (.int .i64 0) := cell_at hT2 rfl
 have qhT2_1 : w0.cell? ⟨w.heap.size + 1 + 1, 1, none⟩ = some (.int .i64 0) := cell_at hT2 rfl
 have hpq : w0.cell? ⟨w.heap.size + 1, 0, none⟩ = some (.int .i64 q) := cell_at hT1 rfl
 go_wp2_with fail
 refine (H73.out _ _ H hpq).mono ?_
 rintro e w1 ⟨rfl, hb⟩
 clear qhT0_0 qhT0_1 qhT0_2 qhT1_0 qhT2_0 qhT2_1
 have hS := hb
 have hB1 := hB0.call hS rfl
 replace hT0 := blkb hT0 hS
 replace hT1 := blkb hT1 hS
 replace hT2 := blkb hT2 hS
 replace H := H.below hS
 clear hS hB0
 have qhT0_0 : w1.cell? ⟨w.heap.size, 0, none⟩ = some (.string nm) := cell_at hT0 rfl
 have qhT0_1 : w1.cell? ⟨w.heap.size, 1, none⟩ = some (.int .i64 e) := cell_at hT0 rfl
 have qhT0_2 : w1.cell? ⟨w.heap.size, 2, none⟩ = some (.slice A n cap) := cell_at hT0 rfl
 have qhT1_0 : w1.cell? ⟨w.heap.size + 1, 0, none⟩ = some (.int .i64 q) := cell_at hT1 rfl
 have qhT2_0 : w1.cell? ⟨w.heap.size + 1 + 1, 0, none⟩ = some (.int .i64 0) := cell_at hT2 rfl
 have qhT2_1 : w1.cell? ⟨w.heap.size + 1 + 1, 1, none⟩ = some (.int .i64 0) := cell_at hT2 rfl
 clear hb
 obtain ⟨g, off, rfl, hg, p0, p1⟩ := HC.out _ H
 obtain ⟨g2, off2, he, _, p2, p3⟩ := HA.out _ H
 cases he
 have O := op60
 have l3 := cell_lt qhT1_0
 have l2 := cell_lt qhT0_0
 have hbb : Below w1.heap.size w1 ((w1.alloc (Obj.cells #[.int .i64 bt, .int .i64 y] 60)).alloc (Obj.cells #[.int .i64 av, .int .i64 x] 60)) := below2 _ _ _
 have HT2 := Lib.hid (blkb hT2 hbb)
 have HBB := Lib.hid (hB1.call hbb rfl)
 clear hpq H hbb hT2
 go_wp2_with fail
 refine (K75.out _).mono ?_
 rintro e w2 ⟨rfl, hb2⟩
 have hT2 := blkb HT2.out hb2
 have hB2 := HBB.out.call hb2 rfl
 have k4 : w2.cell? ⟨w.heap.size + 1 + 1, 0, none⟩ = some (.int .i64 0) := cell_at hT2 rfl
 have k41 : w2.cell? ⟨w.heap.size + 1 + 1, 1, none⟩ = some (.int .i64 0) := cell_at hT2 rfl
 have f40 : w2.frozen? ⟨w.heap.size + 1 + 1, 0, none⟩ = false := free_at hT2
 have f41 : w2.frozen? ⟨w.heap.size + 1 + 1, 1, none⟩ = false := free_at hT2
 have l4 := cell_lt k4
 have HF := Lib.hid (rat_fin hT2 (B := w.heap.size) (by omega) hB2 (.int .i64 N) (.int .i64 D))
 clear hb2 hT2 hB2 p0 p1 p2 p3
 go_wp2_with fail
 exact bodyPost_ret (results_blk rfl rfl HF.out.1 _ Tryd.underlying68 rfl (by kernel_rfl)) rfl ⟨rfl, HF.out.2⟩
end Go.Proofs.YtfmgibhffgkieaaDoor
namespace Go.Proofs.YtfmgibhffgkieaaDoor
open Go.RowKit
set_option maxHeartbeats 8000000
set_option maxRecDepth 100000
theorem c35 (nm : ByteArray) (e : Int) (A : Option Addr) (n cap : Nat) (q N D f c : Int) (w : World) (hN : -1000000 ≤ N ∧ N ≤ 1000000) (hD : 1 ≤ D ∧ D ≤ 1000000) (hf : f = N / D) (hc : c = -((-N) / D)) (hfb : -1000000 ≤ f ∧ f ≤ 1000000) (hcb : -1000000 ≤ c ∧ c ≤ 1000000) (he : 0 ≤ e ∧ e ≤ 1000) (h62 : ∀ W, Below w.heap.size w W → Calls Tryd.prog 62 #[.agg #[.string nm, .int .i64 e, .slice A n cap], .int .i64 q] W fun en w' => en = .returned (.agg #[.int .i64 N, .int .i64 D]) ∧ Below W.heap.size W w') :
  Calls Tryd.prog 35 #[.agg #[.string nm, .int .i64 e, .slice A n cap], .int .i64 q] w fun en w' => en = .returned (.agg #[.int .i64 (f - e), .int .i64 (c + e)]) ∧ Below w.heap.size w w' := by
 have e1 : IntKind.i64.wrap (f - e) = f - e := wrapI (by omega)
 have e2 : IntKind.i64.wrap (c + e) = c + e := wrapI (by omega)
 have K63 : Hid (∀ W, Calls Tryd.prog 63 #[.agg #[.int .i64 N, .int .i64 D]] W fun en w' => en = .returned (.int .i64 f) ∧ Below W.heap.size W w') := Lib.hid (fun W => by rw [hf]; exact c63 N D W hN hD)
 have K64 : Hid (∀ W, Calls Tryd.prog 64 #[.agg #[.int .i64 N, .int .i64 D]] W fun en w' => en = .returned (.int .i64 c) ∧ Below W.heap.size W w') := Lib.hid (fun W => by rw [hc]; exact c64 N D W hN hD)
 have H62 := Lib.hid h62
 clear hN hD hf hc hfb hcb he h62
 obtain ⟨w0, hW⟩ : ∃ W, W = (w.alloc (Obj.cells #[.string nm, .int .i64 e, .slice A n cap] 40)).alloc (Obj.cells #[.int .i64 0, .int .i64 0] 66) := ⟨_, rfl⟩
 have hT0 : w0.heap[w.heap.size]? = some (.cells #[.string nm, .int .i64 e, .slice A n cap] 40 (0, 0)) := by rw [hW]; exact heap_old (by simp <;> omega) (heap_new (by simp))
 have hT1 : w0.heap[w.heap.size + 1]? = some (.cells #[.int .i64 0, .int .i64 0] 66 (0, 0)) := by rw [hW]; exact heap_new (by simp)
 have hB0 : Below w.heap.size w w0 := by rw [hW]; exact (((Below.refl _ _).alloc (by first | omega | (simp <;> omega)) _).alloc (by first | omega | (simp <;> omega)) _)
 go_enter Tryd.func35, Tryd.ntmps35
 go_wp2_with fail
 rw [← hW]
 clear hW
 have qhT0_0 : w0.cell? ⟨w.heap.size, 0, none⟩ = some (.string nm) := cell_at hT0 rfl
 have qhT0_1 : w0.cell? ⟨w.heap.size, 1, none⟩ = some (.int .i64 e) := cell_at hT0 rfl
 have qhT0_2 : w0.cell? ⟨w.heap.size, 2, none⟩ = some (.slice A n cap) := cell_at hT0 rfl
 have qhT1_0 : w0.cell? ⟨w.heap.size + 1, 0, none⟩ = some (.int .i64 0) := cell_at hT1 rfl
 have qhT1_1 : w0.cell? ⟨w.heap.size + 1, 1, none⟩ = some (.int .i64 0) := cell_at hT1 rfl
 go_wp2_with fail
 refine (H62.out _ hB0).mono ?_
 rintro e w1 ⟨rfl, hb⟩
 clear qhT0_0 qhT0_1 qhT0_2 qhT1_0 qhT1_1
 have hS := hb
 have hB1 := hB0.call hS rfl
 replace hT0 := blkb hT0 hS
 replace hT1 := blkb hT1 hS
 clear hS hB0
 have qhT0_0 : w1.cell? ⟨w.heap.size, 0, none⟩ = some (.string nm) := cell_at hT0 rfl
 have qhT0_1 : w1.cell? ⟨w.heap.size, 1, none⟩ = some (.int .i64 e) := cell_at hT0 rfl
 have qhT0_2 : w1.cell? ⟨w.heap.size, 2, none⟩ = some (.slice A n cap) := cell_at hT0 rfl
 have qhT1_0 : w1.cell? ⟨w.heap.size + 1, 0, none⟩ = some (.int .i64 0) := cell_at hT1 rfl
 have qhT1_1 : w1.cell? ⟨w.heap.size + 1, 1, none⟩ = some (.int .i64 0) := cell_at hT1 rfl
 clear hb
 obtain ⟨w2, hw2⟩ : ∃ W, W = w1.alloc (Obj.cells #[.int .i64 N, .int .i64 D] 68) := ⟨_, rfl⟩
 have hT2 : w2.heap[w1.heap.size]? = some (.cells #[.int .i64 N, .int .i64 D] 68 (0, 0)) := by rw [hw2]; exact heap_new rfl
 have hb2 : Below w1.heap.size w1 w2 := by rw [hw2]; exact bl2 _ _
 go_wp2_with fail
 rw [← hw2]
 clear qhT0_0 qhT0_1 qhT0_2 qhT1_0 qhT1_1
 have hS := hb2
 have hB2 := hB1.call hS rfl
 replace hT0 := blkb hT0 hS
 replace hT1 := blkb hT1 hS
 clear hS hB1
 have qhT0_0 : w2.cell? ⟨w.heap.size, 0, none⟩ = some (.string nm) := cell_at hT0 rfl
 have qhT0_1 : w2.cell? ⟨w.heap.size, 1, none⟩ = some (.int .i64 e) := cell_at hT0 rfl
 have qhT0_2 : w2.cell? ⟨w.heap.size, 2, none⟩ = some (.slice A n cap) := cell_at hT0 rfl
 have qhT1_0 : w2.cell? ⟨w.heap.size + 1, 0, none⟩ = some (.int .i64 0) := cell_at hT1 rfl
 have qhT1_1 : w2.cell? ⟨w.heap.size + 1, 1, none⟩ = some (.int .i64 0) := cell_at hT1 rfl
 clear hw2 hb2
 obtain ⟨b5, hb5⟩ : ∃ b, b = w1.heap.size := ⟨_, rfl⟩
 rw [← hb5] at hT2 ⊢
 clear hb5
 have qhT2_0 : w2.cell? ⟨b5, 0, none⟩ = some (.int .i64 N) := cell_at hT2 rfl
 have qhT2_1 : w2.cell? ⟨b5, 1, none⟩ = some (.int .i64 D) := cell_at hT2 rfl
 refine wp_region_planL [(0, true), (2, true), (3, true), (5, true), (7, true), (8, true), (1, false), (4, true), (6, false), (9, true), (10, true)] w2.heap.size 11 (by kernel_rfl) (by kernel_rfl) (Nat.le_refl _) (fun _ _ d _ _ h => by cases d <;> exact h) ?_
 have hC : Below w2.heap.size w2 w2 := Below.refl _ _
 have z0 := cell_lt qhT0_0
 have z2 := cell_lt qhT2_0
 repeat (first | (refine wpPlanLA_skip _ rfl (by rfl) ?_; simp only [Act.put, List.setIfInBounds_toArray, List.set_cons_zero, List.set_cons_succ]) | (refine wpPlanLA_soft _ ?_ rfl (by rfl) ?_ ?_; rotate_left; (intro wq hq hcq; go_simp; first | exact rfl | exact ⟨rfl, rfl⟩); simp only [Act.put, List.setIfInBounds_toArray, List.set_cons_zero, List.set_cons_succ]))
 refine wpPlanLA_hard _ rfl (by rfl) (fun w3 hS K hK => ?_)
 go_simp
 refine (K63.out _).mono ?_
 rintro e9 w4 ⟨rfl, hb⟩
 replace hC := (hC.call hS rfl).call hb rfl
 refine hK _ _ hC ?_
 clear hK K hS hb
 try simp only [Act.put, List.setIfInBounds_toArray, List.set_cons_zero, List.set_cons_succ]
 repeat (first | (refine wpPlanLA_skip _ rfl (by rfl) ?_; simp only [Act.put, List.setIfInBounds_toArray, List.set_cons_zero, List.set_cons_succ]) | (refine wpPlanLA_soft _ ?_ rfl (by rfl) ?_ ?_; rotate_left; (intro wq hq hcq; go_simp; first | exact rfl | exact ⟨rfl, rfl⟩); simp only [Act.put, List.setIfInBounds_toArray, List.set_cons_zero, List.set_cons_succ]))
 refine wpPlanLA_hard _ rfl (by rfl) (fun w5 hS K hK => ?_)
 go_simp
 refine (K64.out _).mono ?_
 rintro e9 w6 ⟨rfl, hb⟩
 replace hC := (hC.call hS rfl).call hb rfl
 refine hK _ _ hC ?_
 clear hK K hS hb
 try simp only [Act.put, List.setIfInBounds_toArray, List.set_cons_zero, List.set_cons_succ]
 repeat (first | (refine wpPlanLA_skip _ rfl (by rfl) ?_; simp only [Act.put, List.setIfInBounds_toArray, List.set_cons_zero, List.set_cons_succ]) | (refine wpPlanLA_soft _ ?_ rfl (by rfl) ?_ ?_; rotate_left; (intro wq hq hcq; go_simp; first | exact rfl | exact ⟨rfl, rfl⟩); simp only [Act.put, List.setIfInBounds_toArray, List.set_cons_zero, List.set_cons_succ]))
 refine wpPlanLA_last _ rfl (by rfl) (fun w7 hS K hK => ?_)
 have hC7 := hC.call hS rfl
 have hT17 := blkb hT1 hC7
 have hB7 := hB2.call hC7 rfl
 have k4 : w7.cell? ⟨w.heap.size + 1, 0, none⟩ = some (.int .i64 0) := cell_at hT17 rfl
 have k41 : w7.cell? ⟨w.heap.size + 1, 1, none⟩ = some (.int .i64 0) := cell_at hT17 rfl
 have f40 : w7.frozen? ⟨w.heap.size + 1, 0, none⟩ = false := free_at hT17
 have f41 : w7.frozen? ⟨w.heap.size + 1, 1, none⟩ = false := free_at hT17
 have l4 := cell_lt k4
 have HF := Lib.hid (rat_fin hT17 (B := w.heap.size) (by omega) hB7 (.int .i64 (f - e)) (.int .i64 (c + e)))
 clear hC hS hC7 hT17 hB7
 go_simp
 refine hK _ _ (fun w8 hb8 => ?_)
 have HF8 := Lib.hid (⟨blkb HF.out.1 hb8, HF.out.2.call hb8 rfl⟩ : w8.heap[w.heap.size + 1]? = some (.cells #[.int .i64 (f - e), .int .i64 (c + e)] 66 (0, 0)) ∧ Below w.heap.size w w8)
 clear hb8 HF hK K
 go_wp2_with fail
 exact bodyPost_ret (results_blk rfl rfl HF8.out.1 _ Tryd.underlying66 rfl (by kernel_rfl)) rfl ⟨rfl, HF8.out.2⟩
end Go.Proofs.YtfmgibhffgkieaaDoor
namespace Go.Proofs.YtfmgibhffgkieaaDoor
open Go.RowKit
set_option maxHeartbeats 4000000
set_option maxRecDepth 20000
/-- a name of one letter -/
theorem c45 (s : ByteArray) (w : World) (h1 : s.size = 1) (hb : ∀ h : 0 < s.size, 97 ≤ (s[0]'h).toNat ∧ (s[0]'h).toNat ≤ 122) :
  Calls Tryd.prog 45 #[.string s] w fun en w' => en = .returned (.bool true) ∧ Below w.heap.size w w' := by
 have HB0 := Lib.hid hb
 have HS := Lib.hid h1
 have hE : s.toList.isEmpty = false := by
  rw [ByteArray.toList_eq]
  have hl : s.data.toList.length = 1 := by simpa using h1
  cases hh : s.data.toList with
  | nil => rw [hh] at hl; cases hl
  | cons _ _ => rfl
 have hE2 : (s.toList == []) = false := by
  cases hh : s.toList with
  | nil => rw [hh] at hE; cases hE
  | cons _ _ => rfl
 have hsz : (s.size : Int) ≤ 24 := by omega
 have hsz2 : s.size ≤ 24 := by omega
 clear h1 hb
 go_enter Tryd.func45, Tryd.ntmps45
 go_wp2
 go_loopg [] (s.size + 1) (fun g wr => ∃ pos : Nat, pos + g = s.size + 1 ∧ pos ≤ s.size ∧ wr.heap[w.heap.size]? = some (.stringIter s pos) ∧ Below w.heap.size w wr)
 case atStart => exact ⟨0, by omega, Nat.zero_le _, World.iter_heap w s 0, (Below.refl _ _).alloc (Nat.le_refl _) _⟩
 case round =>
  obtain ⟨pos, hpg, hps, hit, hB⟩ := hrel
  by_cases hp : pos < s.size
  ·obtain rfl : pos = 0 := by have := HS.out; omega
   have hc1 := HB0.out hp
   have hnx : ∀ ty, (Instr.next (.pointer (some ⟨w.heap.size, 0, none⟩)) true ty).run Tryd.prog wr = _ := fun ty => Lib.run_next_ascii_at wr w.heap.size s 0 ty hit hp (by omega)
   have hit2 := Lib.iterAt_heap wr w.heap.size s 0 (0 + 1) hit
   have hB2 := Lib.below_iterAt hB (k := w.heap.size) (Nat.le_refl _) s (0 + 1)
   obtain ⟨W1, hW1⟩ : ∃ W1, W1 = wr.iterAt w.heap.size s (0 + 1) := ⟨_, rfl⟩
   obtain ⟨c, hc⟩ : ∃ c : Nat, c = (s[0]'hp).toNat := ⟨_, rfl⟩
   rw [← hc] at hnx hc1
   rw [← hW1] at hnx hit2 hB2
   have f0 : (65 : Int) ≤ (c : Int) := by omega
   have f1 : ¬ ((c : Int) ≤ 90) := by omega
   have f2 : (97 : Int) ≤ (c : Int) := by omega
   have f3 : (c : Int) ≤ 122 := by omega
   have f4 : (48 : Int) ≤ (c : Int) := by omega
   have f5 : ¬ ((c : Int) ≤ 57) := by omega
   have f6 : ((c : Int) == 95) = false := by simp; omega
   have f7 : (c == 95) = false := by simp; omega
   clear hc1 hc hW1 hit hB
   go_wp2
   go_roundg (s.size + 1 - (0 + 1))
   case measure => omega
   case rel => exact ⟨0 + 1, by omega, by omega, hit2, hB2⟩
  ·have hnx : ∀ ty, (Instr.next (.pointer (some ⟨w.heap.size, 0, none⟩)) true ty).run Tryd.prog wr = _ := fun ty => Lib.run_next_end_at wr w.heap.size s pos ty hit hp
   clear hit
   go_wp2
   go_ret
   exact ⟨rfl, hB⟩
end Go.Proofs.YtfmgibhffgkieaaDoor
namespace Go.Proofs.YtfmgibhffgkieaaDoor
open Go.RowKit
set_option maxHeartbeats 8000000
set_option maxRecDepth 100000
/-- a horizon's picks, in order -/
def OkP (l : List Td) : Prop := (∀ x ∈ l, 0 ≤ x.t ∧ x.t ≤ 255 ∧ 0 ≤ x.h ∧ x.h ≤ 100000) ∧ ∀ (k : Nat) (x y : Td), l[k]? = some x → l[k + 1]? = some y → x.t < y.t
def Nm (s : ByteArray) : Prop := s.size = 1 ∧ ∀ h : 0 < s.size, 97 ≤ (s[0]'h).toNat ∧ (s[0]'h).toNat ≤ 122
theorem c65 (nm : ByteArray) (e : Int) (A : Option Addr) (n cap : Nat) (l : List Td) (w : World) (hnm : Nm nm) (he : 0 ≤ e ∧ e ≤ 1000) (hn1 : 1 ≤ n) (hn2 : n ≤ 256) (H : RdT w A n l) (hok : OkP l) :
  Calls Tryd.prog 65 #[.agg #[.string nm, .int .i64 e, .slice A n cap]] w fun en w' => en = .returned (.int .i64 0) ∧ Below w.heap.size w w' := by
 have K45 : Hid (∀ W, Calls Tryd.prog 45 #[.string nm] W fun en w' => en = .returned (.bool true) ∧ Below W.heap.size W w') := Lib.hid (fun W => c45 nm W hnm.1 hnm.2)
 have HOK := Lib.hid hok
 have HLN := Lib.hid H.len
 have HRE := Lib.hid (range_ok he)
 have hz : ((n : Int) == 0) = false := by simp; omega
 have hz2 : (n == 0) = false := by simp; omega
 have hg : decide ((256 : Int) < (n : Int)) = false := by simp; omega
 have hg2 : decide (256 < n) = false := by simp; omega
 clear hok hnm he
 obtain ⟨w0, hW⟩ : ∃ W, W = w.alloc (Obj.cells #[.string nm, .int .i64 e, .slice A n cap] 40) := ⟨_, rfl⟩
 have hT0 : w0.heap[w.heap.size]? = some (.cells #[.string nm, .int .i64 e, .slice A n cap] 40 (0, 0)) := by rw [hW]; exact heap_new (by simp)
 have hB0 : Below w.heap.size w w0 := by rw [hW]; exact ((Below.refl _ _).alloc (by first | omega | (simp <;> omega)) _)
 replace H := H.below hB0
 go_enter Tryd.func65, Tryd.ntmps65
 go_wp2_with fail
 rw [← hW]
 clear hW
 have qhT0_0 : w0.cell? ⟨w.heap.size, 0, none⟩ = some (.string nm) := cell_at hT0 rfl
 have qhT0_1 : w0.cell? ⟨w.heap.size, 1, none⟩ = some (.int .i64 e) := cell_at hT0 rfl
 have qhT0_2 : w0.cell? ⟨w.heap.size, 2, none⟩ = some (.slice A n cap) := cell_at hT0 rfl
 refine wp_region_plan [(0, true), (1, true), (5, true), (6, true), (8, true), (9, true), (10, true), (11, true), (13, true), (14, true), (15, true), (16, true), (2, false), (3, true), (4, false), (7, false), (12, false), (17, false), (18, false), (19, false), (20, true)] w0.heap.size (by kernel_rfl) (by kernel_rfl) (Nat.le_refl _) (fun _ _ d _ _ h => by cases d <;> exact h) ?_
 have hC : Below w0.heap.size w0 w0 := Below.refl _ _
 have zhT0 : w.heap.size < w0.heap.size := (Array.getElem?_eq_some_iff.1 hT0).1
 repeat (first | (refine wpPlanA_skip _ rfl (by rfl) ?_; simp only [Act.put, List.setIfInBounds_toArray, List.set_cons_zero, List.set_cons_succ]) | (refine wpPlanA_soft _ ?_ rfl (by rfl) ?_ ?_; rotate_left; (intro wq hq hcq; go_simp; first | exact rfl | exact ⟨rfl, rfl⟩); simp only [Act.put, List.setIfInBounds_toArray, List.set_cons_zero, List.set_cons_succ]))
 refine wpPlanA_hard _ rfl (by rfl) (fun w1 hS K hK => ?_)
 have hB1 := hB0.call hS rfl
 replace hC := hC.call hS rfl
 replace hT0 := blkb hT0 hS
 replace H := H.below hS
 clear hS hB0
 go_simp
 refine (K45.out _).mono ?_
 rintro e w2 ⟨rfl, hb⟩
 have hB2 := hB1.call hb rfl
 replace hC := hC.call hb rfl
 replace hT0 := blkb hT0 hb
 replace H := H.below hb
 clear hb hB1
 refine hK _ _ hC ?_
 clear hK K
 try simp only [Act.put, List.setIfInBounds_toArray, List.set_cons_zero, List.set_cons_succ]
 repeat (first | (refine wpPlanA_skip _ rfl (by rfl) ?_; simp only [Act.put, List.setIfInBounds_toArray, List.set_cons_zero, List.set_cons_succ]) | (refine wpPlanA_soft _ ?_ rfl (by rfl) ?_ ?_; rotate_left; (intro wq hq hcq; go_simp; first | exact rfl | exact ⟨rfl, rfl⟩); simp only [Act.put, List.setIfInBounds_toArray, List.set_cons_zero, List.set_cons_succ]))
 refine wpPlanA_hard _ rfl (by rfl) (fun w3 hS K hK => ?_)
 have hB3 := hB2.call hS rfl
 replace hC := hC.call hS rfl
 replace hT0 := blkb hT0 hS
 replace H := H.below hS
 clear hS hB2
 go_simp
 refine (c43 false 8 _).mono ?_
 rintro e w' ⟨rfl, rfl⟩
 refine hK _ _ hC ?_
 clear hK K
 try simp only [Act.put, List.setIfInBounds_toArray, List.set_cons_zero, List.set_cons_succ]
 repeat (first | (refine wpPlanA_skip _ rfl (by rfl) ?_; simp only [Act.put, List.setIfInBounds_toArray, List.set_cons_zero, List.set_cons_succ]) | (refine wpPlanA_soft _ ?_ rfl (by rfl) ?_ ?_; rotate_left; (intro wq hq hcq; go_simp; first | exact rfl | exact ⟨rfl, rfl⟩); simp only [Act.put, List.setIfInBounds_toArray, List.set_cons_zero, List.set_cons_succ]))
 refine wpPlanA_hard _ rfl (by rfl) (fun w4 hS K hK => ?_)
 have hB4 := hB3.call hS rfl
 replace hC := hC.call hS rfl
 replace hT0 := blkb hT0 hS
 replace H := H.below hS
 clear hS hB3
 go_simp
 refine (c42 e 0 1000 _).mono ?_
 rintro e w' ⟨rfl, rfl⟩
 refine hK _ _ hC ?_
 clear hK K
 try simp only [Act.put, List.setIfInBounds_toArray, List.set_cons_zero, List.set_cons_succ]
 rw [HRE.out]
 repeat (first | (refine wpPlanA_skip _ rfl (by rfl) ?_; simp only [Act.put, List.setIfInBounds_toArray, List.set_cons_zero, List.set_cons_succ]) | (refine wpPlanA_soft _ ?_ rfl (by rfl) ?_ ?_; rotate_left; (intro wq hq hcq; go_simp; first | exact rfl | exact ⟨rfl, rfl⟩); simp only [Act.put, List.setIfInBounds_toArray, List.set_cons_zero, List.set_cons_succ]))
 refine wpPlanA_hard _ rfl (by rfl) (fun w5 hS K hK => ?_)
 have hB5 := hB4.call hS rfl
 replace hC := hC.call hS rfl
 replace hT0 := blkb hT0 hS
 replace H := H.below hS
 clear hS hB4
 go_simp
 refine (c43 false 12 _).mono ?_
 rintro e w' ⟨rfl, rfl⟩
 refine hK _ _ hC ?_
 clear hK K
 try simp only [Act.put, List.setIfInBounds_toArray, List.set_cons_zero, List.set_cons_succ]
 repeat (first | (refine wpPlanA_skip _ rfl (by rfl) ?_; simp only [Act.put, List.setIfInBounds_toArray, List.set_cons_zero, List.set_cons_succ]) | (refine wpPlanA_soft _ ?_ rfl (by rfl) ?_ ?_; rotate_left; (intro wq hq hcq; go_simp; first | exact rfl | exact ⟨rfl, rfl⟩); simp only [Act.put, List.setIfInBounds_toArray, List.set_cons_zero, List.set_cons_succ]))
 refine wpPlanA_hard _ rfl (by rfl) (fun w6 hS K hK => ?_)
 have hB6 := hB5.call hS rfl
 replace hC := hC.call hS rfl
 replace hT0 := blkb hT0 hS
 replace H := H.below hS
 clear hS hB5
 go_simp
 refine (c43 false 5 _).mono ?_
 rintro e w' ⟨rfl, rfl⟩
 refine hK _ _ hC ?_
 clear hK K
 try simp only [Act.put, List.setIfInBounds_toArray, List.set_cons_zero, List.set_cons_succ]
 repeat (first | (refine wpPlanA_skip _ rfl (by rfl) ?_; simp only [Act.put, List.setIfInBounds_toArray, List.set_cons_zero, List.set_cons_succ]) | (refine wpPlanA_soft _ ?_ rfl (by rfl) ?_ ?_; rotate_left; (intro wq hq hcq; go_simp; first | exact rfl | exact ⟨rfl, rfl⟩); simp only [Act.put, List.setIfInBounds_toArray, List.set_cons_zero, List.set_cons_succ]))
 refine wpPlanA_hard _ rfl (by rfl) (fun w7 hS K hK => ?_)
 have hB7 := hB6.call hS rfl
 replace hC := hC.call hS rfl
 replace hT0 := blkb hT0 hS
 replace H := H.below hS
 clear hS hB6
 go_simp
 have hb : Below w7.heap.size w7 (w7.alloc (Obj.cells #[.int .i64 (Mo.when false 8), .int .i64 0, .int .i64 (Mo.when false 12), .int .i64 (Mo.when false 5)] 36)) := (Below.refl _ _).alloc (Nat.le_refl _) _
 have hN : (w7.alloc (Obj.cells #[.int .i64 (Mo.when false 8), .int .i64 0, .int .i64 (Mo.when false 12), .int .i64 (Mo.when false 5)] 36)).heap[w7.heap.size]? = some (Obj.cells #[.int .i64 (Mo.when false 8), .int .i64 0, .int .i64 (Mo.when false 12), .int .i64 (Mo.when false 5)] 36) := heap_new rfl
 refine hK _ _ (hC.alloc hC.size _) ?_
 clear hK K
 replace hC := hC.call hb rfl
 have hB8 := hB7.call hb rfl
 replace hT0 := blkb hT0 hb
 replace H := H.below hb
 clear hb hB7
 generalize hWn : w7.alloc (Obj.cells #[.int .i64 (Mo.when false 8), .int .i64 0, .int .i64 (Mo.when false 12), .int .i64 (Mo.when false 5)] 36) = w8 at hN hC hB8 hT0 H ⊢
 clear hWn
 generalize hWn : w7.heap.size = bhN at hN ⊢
 clear hWn
 try simp only [Act.put, List.setIfInBounds_toArray, List.set_cons_zero, List.set_cons_succ]
 repeat (first | (refine wpPlanA_skip _ rfl (by rfl) ?_; simp only [Act.put, List.setIfInBounds_toArray, List.set_cons_zero, List.set_cons_succ]) | (refine wpPlanA_soft _ ?_ rfl (by rfl) ?_ ?_; rotate_left; (intro wq hq hcq; go_simp; first | exact rfl | exact ⟨rfl, rfl⟩); simp only [Act.put, List.setIfInBounds_toArray, List.set_cons_zero, List.set_cons_succ]))
 refine wpPlanA_hard _ rfl (by rfl) (fun w9 hS K hK => ?_)
 have hB9 := hB8.call hS rfl
 replace hC := hC.call hS rfl
 replace hT0 := blkb hT0 hS
 replace H := H.below hS
 replace hN := blkb hN hS
 clear hS hB8
 go_simp
 refine (c40 _ 4 4 [Mo.when false 8, 0, Mo.when false 12, Mo.when false 5] _ rfl (by omega) (RdS.of_block (cs := encI [Mo.when false 8, 0, Mo.when false 12, Mo.when false 5]) hN rfl)).mono ?_
 rintro e w' ⟨rfl, rfl⟩
 refine hK _ _ hC ?_
 clear hK K
 try simp only [Act.put, List.setIfInBounds_toArray, List.set_cons_zero, List.set_cons_succ]
 rw [show Mo.first [Mo.when false 8, 0, Mo.when false 12, Mo.when false 5] = 0 from rfl]
 repeat (first | (refine wpPlanA_skip _ rfl (by rfl) ?_; simp only [Act.put, List.setIfInBounds_toArray, List.set_cons_zero, List.set_cons_succ]) | (refine wpPlanA_soft _ ?_ rfl (by rfl) ?_ ?_; rotate_left; (intro wq hq hcq; go_simp; first | exact rfl | exact ⟨rfl, rfl⟩); simp only [Act.put, List.setIfInBounds_toArray, List.set_cons_zero, List.set_cons_succ]))
 clear hN
 clear hz hz2 hg hg2
 clear qhT0_0 qhT0_1 qhT0_2
 refine wpPlanA_nil (fun w10 hS => ?_)
 clear hC zhT0
 have hB10 := hB9.call hS rfl
 replace hT0 := blkb hT0 hS
 replace H := H.below hS
 clear hS hB9
 have qhT0_0 : w10.cell? ⟨w.heap.size, 0, none⟩ = some (.string nm) := cell_at hT0 rfl
 have qhT0_1 : w10.cell? ⟨w.heap.size, 1, none⟩ = some (.int .i64 e) := cell_at hT0 rfl
 have qhT0_2 : w10.cell? ⟨w.heap.size, 2, none⟩ = some (.slice A n cap) := cell_at hT0 rfl
 go_wp2_with fail
 go_loopw [4, 34] (fun la iv wr => ∃ (k : Nat) (la' : Int), k ≤ n ∧ la = .int .i64 la' ∧ iv = .int .i64 k ∧ Hid (∀ x, l[k]? = some x → la' < x.t) ∧ Below w10.heap.size w10 wr) (fun _ iv _ => n - (intOf iv).toNat)
 case atStart => exact ⟨0, -1, Nat.zero_le _, rfl, rfl, Lib.hid (fun x hx => by have := (HOK.out.1 x (List.mem_of_getElem? hx)).1; omega), Below.refl _ _⟩
 case round =>
  obtain ⟨k, la, hk, rfl, rfl, HLA, hbr⟩ := hrel
  obtain ⟨w11, hww⟩ : ∃ W, W = wr := ⟨_, rfl⟩
  subst hww
  have hB11 := hB10.call hbr rfl
  replace hT0 := blkb hT0 hbr
  replace H := H.below hbr
  clear hB10
  have qhT0_0 : w11.cell? ⟨w.heap.size, 0, none⟩ = some (.string nm) := cell_at hT0 rfl
  have qhT0_1 : w11.cell? ⟨w.heap.size, 1, none⟩ = some (.int .i64 e) := cell_at hT0 rfl
  have qhT0_2 : w11.cell? ⟨w.heap.size, 2, none⟩ = some (.slice A n cap) := cell_at hT0 rfl
  have hwk : IntKind.i64.wrap ((k : Int) + 1) = ((k + 1 : Nat) : Int) := by rw [wrapI (by omega)]; simp
  by_cases hlt : k < n
  rotate_left
  ·
    obtain rfl : n = k := by omega
    clear hlt
    go_wp2
    go_ret
    exact ⟨rfl, hB11⟩
  have hkl : k < l.length := by rw [HLN.out]; exact hlt
  obtain ⟨x, hx⟩ : ∃ x, l[k]? = some x := ⟨l[k], List.getElem?_eq_getElem hkl⟩
  obtain ⟨b, off, rfl, hb, h0, h1⟩ := H.at hx
  have hox := HOK.out.1 x (List.mem_of_getElem? hx)
  have hla := HLA.out x hx
  have HNX : Hid (∀ y, l[k + 1]? = some y → x.t < y.t) := Lib.hid (fun y hy => HOK.out.2 k x y hx hy)
  obtain ⟨xt, hxt⟩ : ∃ t, t = x.t := ⟨_, rfl⟩
  obtain ⟨xh, hxh⟩ : ∃ t, t = x.h := ⟨_, rfl⟩
  rw [← hxt] at h0 hox hla HNX
  rw [← hxh] at h1 hox
  have HR1 := Lib.hid (range_ok (lo := 0) (hi := 255) (n := xt) ⟨hox.1, hox.2.1⟩)
  have HR2 := Lib.hid (range_ok (lo := 0) (hi := 100000) (n := xh) hox.2.2)
  have hd : decide (xt ≤ la) = false := by simp; omega
  have hlti : (k : Int) < (n : Int) := by omega
  obtain ⟨wq, hwa⟩ : ∃ W, W = w11.alloc (Obj.cells #[.int .i64 xt, .int .i64 xh] 60) := ⟨_, rfl⟩
  have hTa : wq.heap[w11.heap.size]? = some (.cells #[.int .i64 xt, .int .i64 xh] 60 (0, 0)) := by rw [hwa]; exact heap_new rfl
  have hBa : Below w11.heap.size w11 wq := by rw [hwa]; exact (Below.refl _ _).alloc (Nat.le_refl _) _
  clear hx hox hla hxt hxh hkl
  go_wp2_with fail
  rw [← hwa]
  clear h0 h1 hwa
  obtain ⟨w12, hww⟩ : ∃ W, W = wq := ⟨_, rfl⟩
  subst hww
  clear qhT0_0 qhT0_1 qhT0_2
  have hS := hBa
  have hB12 := hB11.call hS rfl
  replace hT0 := blkb hT0 hS
  replace H := H.below hS
  replace hbr := hbr.call hS rfl
  clear hS hB11
  have qhT0_0 : w12.cell? ⟨w.heap.size, 0, none⟩ = some (.string nm) := cell_at hT0 rfl
  have qhT0_1 : w12.cell? ⟨w.heap.size, 1, none⟩ = some (.int .i64 e) := cell_at hT0 rfl
  have qhT0_2 : w12.cell? ⟨w.heap.size, 2, none⟩ = some (.slice (some ⟨b, off, none⟩) n cap) := cell_at hT0 rfl
  clear hBa
  obtain ⟨g6, hg6⟩ : ∃ g, g = w11.heap.size := ⟨_, rfl⟩
  rw [← hg6] at hTa ⊢
  clear hg6
  have qhTa_0 : w12.cell? ⟨g6, 0, none⟩ = some (.int .i64 xt) := cell_at hTa rfl
  have qhTa_1 : w12.cell? ⟨g6, 1, none⟩ = some (.int .i64 xh) := cell_at hTa rfl
  refine wp_region_plan [(0, true), (1, true), (3, true), (4, true), (6, true), (7, true), (8, true), (9, true), (2, false), (5, false), (10, false), (11, false), (12, false), (13, true)] w12.heap.size (by kernel_rfl) (by kernel_rfl) (Nat.le_refl _) (fun _ _ d _ _ h => by cases d <;> exact h) ?_
  have hC : Below w12.heap.size w12 w12 := Below.refl _ _
  have zhT0 : w.heap.size < w12.heap.size := (Array.getElem?_eq_some_iff.1 hT0).1
  have zhTa : g6 < w12.heap.size := (Array.getElem?_eq_some_iff.1 hTa).1
  repeat (first | (refine wpPlanA_skip _ rfl (by rfl) ?_; simp only [Act.put, List.setIfInBounds_toArray, List.set_cons_zero, List.set_cons_succ]) | (refine wpPlanA_soft _ ?_ rfl (by rfl) ?_ ?_; rotate_left; (intro wq hq hcq; go_simp; first | exact rfl | exact ⟨rfl, rfl⟩); simp only [Act.put, List.setIfInBounds_toArray, List.set_cons_zero, List.set_cons_succ]))
  refine wpPlanA_hard _ rfl (by rfl) (fun w13 hS K hK => ?_)
  have hB13 := hB12.call hS rfl
  replace hC := hC.call hS rfl
  replace hT0 := blkb hT0 hS
  replace H := H.below hS
  replace hbr := hbr.call hS rfl
  replace hTa := blkb hTa hS
  clear hS hB12
  go_simp
  refine (c42 xt 0 255 _).mono ?_
  rintro e w' ⟨rfl, rfl⟩
  refine hK _ _ hC ?_
  clear hK K
  try simp only [Act.put, List.setIfInBounds_toArray, List.set_cons_zero, List.set_cons_succ]
  rw [HR1.out]
  repeat (first | (refine wpPlanA_skip _ rfl (by rfl) ?_; simp only [Act.put, List.setIfInBounds_toArray, List.set_cons_zero, List.set_cons_succ]) | (refine wpPlanA_soft _ ?_ rfl (by rfl) ?_ ?_; rotate_left; (intro wq hq hcq; go_simp; first | exact rfl | exact ⟨rfl, rfl⟩); simp only [Act.put, List.setIfInBounds_toArray, List.set_cons_zero, List.set_cons_succ]))
  refine wpPlanA_hard _ rfl (by rfl) (fun w14 hS K hK => ?_)
  have hB14 := hB13.call hS rfl
  replace hC := hC.call hS rfl
  replace hT0 := blkb hT0 hS
  replace H := H.below hS
  replace hbr := hbr.call hS rfl
  replace hTa := blkb hTa hS
  clear hS hB13
  go_simp
  refine (c42 xh 0 100000 _).mono ?_
  rintro e w' ⟨rfl, rfl⟩
  refine hK _ _ hC ?_
  clear hK K
  try simp only [Act.put, List.setIfInBounds_toArray, List.set_cons_zero, List.set_cons_succ]
  rw [HR2.out]
  repeat (first | (refine wpPlanA_skip _ rfl (by rfl) ?_; simp only [Act.put, List.setIfInBounds_toArray, List.set_cons_zero, List.set_cons_succ]) | (refine wpPlanA_soft _ ?_ rfl (by rfl) ?_ ?_; rotate_left; (intro wq hq hcq; go_simp; first | exact rfl | exact ⟨rfl, rfl⟩); simp only [Act.put, List.setIfInBounds_toArray, List.set_cons_zero, List.set_cons_succ]))
  refine wpPlanA_hard _ rfl (by rfl) (fun w15 hS K hK => ?_)
  have hB15 := hB14.call hS rfl
  replace hC := hC.call hS rfl
  replace hT0 := blkb hT0 hS
  replace H := H.below hS
  replace hbr := hbr.call hS rfl
  replace hTa := blkb hTa hS
  clear hS hB14
  go_simp
  refine (c43 false 11 _).mono ?_
  rintro e w' ⟨rfl, rfl⟩
  refine hK _ _ hC ?_
  clear hK K
  try simp only [Act.put, List.setIfInBounds_toArray, List.set_cons_zero, List.set_cons_succ]
  repeat (first | (refine wpPlanA_skip _ rfl (by rfl) ?_; simp only [Act.put, List.setIfInBounds_toArray, List.set_cons_zero, List.set_cons_succ]) | (refine wpPlanA_soft _ ?_ rfl (by rfl) ?_ ?_; rotate_left; (intro wq hq hcq; go_simp; first | exact rfl | exact ⟨rfl, rfl⟩); simp only [Act.put, List.setIfInBounds_toArray, List.set_cons_zero, List.set_cons_succ]))
  refine wpPlanA_hard _ rfl (by rfl) (fun w16 hS K hK => ?_)
  have hB16 := hB15.call hS rfl
  replace hC := hC.call hS rfl
  replace hT0 := blkb hT0 hS
  replace H := H.below hS
  replace hbr := hbr.call hS rfl
  replace hTa := blkb hTa hS
  clear hS hB15
  go_simp
  have hb : Below w16.heap.size w16 (w16.alloc (Obj.cells #[.int .i64 0, .int .i64 0, .int .i64 (Mo.when false 11)] 36)) := (Below.refl _ _).alloc (Nat.le_refl _) _
  have hN : (w16.alloc (Obj.cells #[.int .i64 0, .int .i64 0, .int .i64 (Mo.when false 11)] 36)).heap[w16.heap.size]? = some (Obj.cells #[.int .i64 0, .int .i64 0, .int .i64 (Mo.when false 11)] 36) := heap_new rfl
  refine hK _ _ (hC.alloc hC.size _) ?_
  clear hK K
  replace hC := hC.call hb rfl
  have hB17 := hB16.call hb rfl
  replace hT0 := blkb hT0 hb
  replace H := H.below hb
  replace hbr := hbr.call hb rfl
  replace hTa := blkb hTa hb
  clear hb hB16
  generalize hWn : w16.alloc (Obj.cells #[.int .i64 0, .int .i64 0, .int .i64 (Mo.when false 11)] 36) = w17 at hN hC hB17 hT0 H hbr hTa ⊢
  clear hWn
  generalize hWn : w16.heap.size = bhN at hN ⊢
  clear hWn
  try simp only [Act.put, List.setIfInBounds_toArray, List.set_cons_zero, List.set_cons_succ]
  repeat (first | (refine wpPlanA_skip _ rfl (by rfl) ?_; simp only [Act.put, List.setIfInBounds_toArray, List.set_cons_zero, List.set_cons_succ]) | (refine wpPlanA_soft _ ?_ rfl (by rfl) ?_ ?_; rotate_left; (intro wq hq hcq; go_simp; first | exact rfl | exact ⟨rfl, rfl⟩); simp only [Act.put, List.setIfInBounds_toArray, List.set_cons_zero, List.set_cons_succ]))
  refine wpPlanA_hard _ rfl (by rfl) (fun w18 hS K hK => ?_)
  have hB18 := hB17.call hS rfl
  replace hC := hC.call hS rfl
  replace hT0 := blkb hT0 hS
  replace H := H.below hS
  replace hbr := hbr.call hS rfl
  replace hTa := blkb hTa hS
  replace hN := blkb hN hS
  clear hS hB17
  go_simp
  refine (c40 _ 3 3 [0, 0, Mo.when false 11] _ rfl (by omega) (RdS.of_block (cs := encI [0, 0, Mo.when false 11]) hN rfl)).mono ?_
  rintro e w' ⟨rfl, rfl⟩
  refine hK _ _ hC ?_
  clear hK K
  try simp only [Act.put, List.setIfInBounds_toArray, List.set_cons_zero, List.set_cons_succ]
  rw [show Mo.first [0, 0, Mo.when false 11] = 0 from rfl]
  repeat (first | (refine wpPlanA_skip _ rfl (by rfl) ?_; simp only [Act.put, List.setIfInBounds_toArray, List.set_cons_zero, List.set_cons_succ]) | (refine wpPlanA_soft _ ?_ rfl (by rfl) ?_ ?_; rotate_left; (intro wq hq hcq; go_simp; first | exact rfl | exact ⟨rfl, rfl⟩); simp only [Act.put, List.setIfInBounds_toArray, List.set_cons_zero, List.set_cons_succ]))
  clear hN
  clear qhT0_0 qhT0_1 qhT0_2 qhTa_0 qhTa_1
  refine wpPlanA_nil (fun w19 hS => ?_)
  clear hC zhT0 zhTa
  have hB19 := hB18.call hS rfl
  replace hT0 := blkb hT0 hS
  replace H := H.below hS
  replace hbr := hbr.call hS rfl
  replace hTa := blkb hTa hS
  clear hS hB18
  have qhT0_0 : w19.cell? ⟨w.heap.size, 0, none⟩ = some (.string nm) := cell_at hT0 rfl
  have qhT0_1 : w19.cell? ⟨w.heap.size, 1, none⟩ = some (.int .i64 e) := cell_at hT0 rfl
  have qhT0_2 : w19.cell? ⟨w.heap.size, 2, none⟩ = some (.slice (some ⟨b, off, none⟩) n cap) := cell_at hT0 rfl
  have qhTa_0 : w19.cell? ⟨g6, 0, none⟩ = some (.int .i64 xt) := cell_at hTa rfl
  have qhTa_1 : w19.cell? ⟨g6, 1, none⟩ = some (.int .i64 xh) := cell_at hTa rfl
  have HN := Lib.hid hbr
  clear hbr
  go_wp2
  go_roundw
  case rel => exact ⟨k + 1, xt, by omega, rfl, by go_num, HNX, HN.out⟩
  case measure => simp [intOf]; omega
end Go.Proofs.YtfmgibhffgkieaaDoor
namespace Go.Proofs.YtfmgibhffgkieaaDoor
open Go.RowKit Go.Shelf
set_option maxHeartbeats 8000000
set_option maxRecDepth 100000
attribute [local go_sem] Oper.semAt_some
/-- a horizon in a block -/
def HBk (W : World) (p : Nat) (nm : ByteArray) (e : Int) (A : Option Addr) (n cap : Nat) : Prop := W.heap[p]? = some (.cells #[.string nm, .int .i64 e, .slice A n cap] 40 (0, 0))
/-- the iterator over the common places of two horizons, from lo on, m of them -/
theorem places_in (n : Nat) (hn : 1 ≤ n) (lr pa pb lo m : Nat) (hm : lo + m ≤ 100000) (nma nmb : ByteArray) (ea eb : Int) (A B : Option Addr) (na nb ca cb : Nat) (J : Nat → World → Prop) (Jx : World → Prop)
  (hA : ∀ W, J 0 W → HBk W pa nma ea A na ca ∧ HBk W pb nmb eb B nb cb)
  (h61a : ∀ W, J 0 W → Calls Tryd.prog 61 #[.agg #[.string nma, .int .i64 ea, .slice A na ca]] W fun en w' => en = .returned (.tuple #[.int .i64 lo, .int .i64 ((lo : Int) + m - 1)]) ∧ Below W.heap.size W w')
  (h61b : ∀ W, J 0 W → Calls Tryd.prog 61 #[.agg #[.string nmb, .int .i64 eb, .slice B nb cb]] W fun en w' => en = .returned (.tuple #[.int .i64 lo, .int .i64 ((lo : Int) + m - 1)]) ∧ Below W.heap.size W w')
  (hst : ∀ k W W1, J k W → Below W.heap.size W W1 → J k W1)
  (hY : ∀ k W, k < m → J k W → YieldAt Fence.wide (n - 1) Tryd.prog lr #[.int .i64 ((lo + k : Nat) : Int)] W fun e W' => (e = .returned (.bool true) ∧ J (k + 1) W') ∨ (e = .returned (.bool false) ∧ Jx W'))
  (W : World) (h0 : J 0 W) :
  CallsIn Fence.wide n Tryd.prog 60 #[.func (.yield lr) #[] #[], .pointer (some ⟨pa, 0, none⟩), .pointer (some ⟨pb, 0, none⟩)] W fun e W' => (∃ v, e = .returned v) ∧ (J m W' ∨ Jx W') := by
 have HY := Lib.hid hY
 have HST := Lib.hid hst
 have H61a := Lib.hid h61a
 have H61b := Lib.hid h61b
 have HA := Lib.hid hA
 have HM := Lib.hid hm
 obtain ⟨hi, hhi⟩ : ∃ t, t = (lo : Int) + m - 1 := ⟨_, rfl⟩
 rw [← hhi] at H61a H61b
 have HHI := Lib.hid hhi
 obtain ⟨ka, kb⟩ := hA W h0
 have a0 := cell_at ka (i := 0) rfl
 have a1 := cell_at ka (i := 1) rfl
 have a2 := cell_at ka (i := 2) rfl
 have la := cell_lt a0
 clear hY hst h61a h61b hA hm hhi ka kb
 refine callsIn_of_wp Tryd.func60 rfl trivial ?_ rfl
 simp only [Tryd.ntmps60, List.size_toArray, List.length_cons, List.length_nil, Nat.reduceAdd, Nat.reduceSub, Array.replicate_succ, Array.replicate_zero, List.push_toArray, List.append_toArray, List.nil_append, List.cons_append]
 gi_wp2_with (refine ⟨trivial, ?_⟩; gi_at_call 61; refine (callsIn_wide.2 (H61a.out _ h0)).mono ?_)
 rintro e w1 ⟨rfl, hb1⟩
 have h1 := HST.out _ _ _ h0 hb1
 obtain ⟨ka, kb⟩ := HA.out _ h1
 have b0 := cell_at kb (i := 0) rfl
 have b1 := cell_at kb (i := 1) rfl
 have b2 := cell_at kb (i := 2) rfl
 have lb := cell_lt b0
 clear a0 a1 a2 la ka kb hb1 h0
 gi_wp2_with (refine ⟨trivial, ?_⟩; gi_at_call 61; refine (callsIn_wide.2 (H61b.out _ h1)).mono ?_)
 rintro e w2 ⟨rfl, hb2⟩
 have h2 := HST.out _ _ _ h1 hb2
 clear b0 b1 b2 lb hb2 h1
 gi_wp2
 gi_loopw [8] (fun x wr => ∃ k : Nat, k ≤ m ∧ x = .int .i64 ((lo + k : Nat) : Int) ∧ J k wr) (fun x _ => lo + m - (intOf x).toNat)
 case atStart => exact ⟨0, by omega, rfl, h2⟩
 case round =>
  obtain ⟨k, hk, rfl, hJ⟩ := hrel
  have hHI := HHI.out
  by_cases hlt : k < m
  ·have d1 : ((lo + k : Nat) : Int) ≤ hi := by omega
   have hwk : IntKind.i64.wrap (((lo + k : Nat) : Int) + 1) = ((lo + (k + 1) : Nat) : Int) := by have := HM.out; rw [wrapI (by omega)]; omega
   obtain ⟨q, hq⟩ : ∃ q, q = lo + k := ⟨_, rfl⟩
   obtain ⟨fn, tmps, assign, body, hy, hR⟩ := HY.out k _ hlt hJ
   rw [← hq] at d1 hwk hy ⊢
   have HQ := Lib.hid hq
   clear hHI hq hJ
   gi_wp2
   refine hR.mono ?_
   rintro e W3 (⟨rfl, hJ3⟩ | ⟨rfl, hJx3⟩)
   ·have HJ3 := Lib.hid hJ3
    clear hJ3 hy hR
    gi_wp2
    go_roundw
    case rel => exact ⟨k + 1, by omega, by go_num, HJ3.out⟩
    case measure => have := HQ.out; simp [intOf]; omega
   ·gi_wp2
    refine bodyPost_ret (results_none rfl _ _ _) rfl ?_
    exact ⟨⟨_, rfl⟩, .inr hJx3⟩
  ·obtain rfl : k = m := by omega
   have d1 : ¬ (((lo + k : Nat) : Int) ≤ hi) := by omega
   obtain ⟨q, hq⟩ : ∃ q, q = lo + k := ⟨_, rfl⟩
   rw [← hq] at d1 ⊢
   clear hHI hq
   gi_wp2
   go_end0
   exact ⟨⟨_, rfl⟩, .inl hJ⟩
/-- how a round over the lines may be left -/
def LinePost (B : Nat) (I Ix : World → Prop) (W : World) : Exit → Act → World → Prop
 | .normal, _, W' => KeepsFrom B W W' ∧ I W'
 | .ret, _, W' => KeepsFrom B W W' ∧ Ix W'
 | .exit _, _, _ => False
 | .goto _, _, _ => False
 | .panic _, _, _ => False
 | .outgrown, _, _ => False
/-- 'for place := range common(a, b)': an invariant of the places that are done, and one walk of the body -/
theorem wpIn_places {ps : Array Tmp} {assign body : Code} {Q : Exit → Act → World → Prop} {a : Act} {w : World} {n : Nat} (hn : 2 ≤ n) {g : Operand} {pa pb lo m : Nat} (hm : lo + m ≤ 100000) {nma nmb : ByteArray} {ea eb : Int} {A B : Option Addr} {na nb ca cb : Nat}
  (hg : a.eval g = .func (.func 60) #[] #[.pointer (some ⟨pa, 0, none⟩), .pointer (some ⟨pb, 0, none⟩)])
  (I : Nat → World → Prop) (Ix : World → Prop)
  (hI : ∀ k, OwnFrom w.heap.size (fun (_ : Unit) => I k)) (hIx : OwnFrom w.heap.size (fun (_ : Unit) => Ix))
  (hA : ∀ W, I 0 W → HBk W pa nma ea A na ca ∧ HBk W pb nmb eb B nb cb)
  (h61a : ∀ W, I 0 W → Calls Tryd.prog 61 #[.agg #[.string nma, .int .i64 ea, .slice A na ca]] W fun en w' => en = .returned (.tuple #[.int .i64 lo, .int .i64 ((lo : Int) + m - 1)]) ∧ Below W.heap.size W w')
  (h61b : ∀ W, I 0 W → Calls Tryd.prog 61 #[.agg #[.string nmb, .int .i64 eb, .slice B nb cb]] W fun en w' => en = .returned (.tuple #[.int .i64 lo, .int .i64 ((lo : Int) + m - 1)]) ∧ Below W.heap.size W w')
  (h0 : I 0 w) (a₁ : Nat → Act) (hps1 : ps.size = 1)
  (hassign : ∀ (l : Nat) (k : Nat) (W : World) (K : Act → World → Prop), K (a₁ k) W →
   assign.wpIn (Fence.wide.inRound l) (n - 1 - 1) Tryd.prog (Exit.then K (fun _ _ _ => False)) { tmps := (ps.zip #[.int .i64 ((lo + k : Nat) : Int)]).foldl (fun t (p, v) => t.setIfInBounds p v) a.tmps, defers := [] } W)
  (hbody : ∀ (l : Nat) (k : Nat) (W : World), k < m → w.heap.size ≤ W.heap.size → I k W → body.wpIn (Fence.wide.inRound l) (n - 1 - 1) Tryd.prog (LinePost w.heap.size (I (k + 1)) Ix W) (a₁ k) W)
  (hdone : ∀ (D : Nat) (W : World), w.heap.size ≤ D → I m W → W.heap[D]? = some (.deferred (some [])) → Q .normal { a with defers := { target := .collected D, args := #[] } :: a.defers } W)
  (hstop : ∀ (D : Nat) (W : World), w.heap.size ≤ D → Ix W → W.heap[D]? = some (.deferred (some [])) → Code.ret.wpIn Fence.wide n Tryd.prog Q { a with defers := { target := .collected D, args := #[] } :: a.defers } W) :
  (Code.rangeFunc g ps assign body).wpIn Fence.wide n Tryd.prog Q a w := by
 refine wpIn_rangeFunc fun fn hfn => ?_
 obtain ⟨rc, hrc⟩ : ∃ rc : LoopState → Option Code → Loop, rc = fun st pe => { state := st, pending := pe, fn, tmps := a.tmps, params := ps, assign, body, defers := w.heap.size } := ⟨_, rfl⟩
 obtain ⟨W1, hW1⟩ : ∃ W1, W1 = (w.alloc (.deferred (some []))).alloc (.loop (rc .ready none)) := ⟨_, rfl⟩
 have hb1 : Below w.heap.size w W1 := by rw [hW1]; exact below2 _ _ _
 have hrec : LineRec w W1 (rc .ready none) := by
  rw [hW1]
  exact ⟨heap_new (by simp), heap_old (by simp) (heap_new rfl)⟩
 have hgo := places_in (n - 1) (by omega) (w.heap.size + 1) pa pb lo m hm nma nmb ea eb A B na nb ca cb (fun k W => I k W ∧ LineRec w W (rc .ready none)) (fun W => Ix W ∧ LineRec w W (rc .done (some .ret)))
  (fun W h => hA W h.1) (fun W h => h61a W h.1) (fun W h => h61b W h.1)
  (fun k W W2 h hb => ⟨own_grow (hI k) h.1 hb, h.2.grow hb⟩)
  ?hY W1 ⟨own_grow (hI 0) h0 hb1, hrec⟩
 case hY =>
  rintro k W hk ⟨hi1, hr1⟩
  have hy := run_yield (P := Tryd.prog) (args := #[.int .i64 ((lo + k : Nat) : Int)]) hr1.lp (by rw [hrc]; simpa using hps1.symm)
  rw [hrc] at hy
  refine ⟨fn, _, assign, body, hy, roundIn_of_wpIn hfn (hassign _ k W _ ⟨_, run_beginRound hr1.lp (by rw [hrc]), ?_⟩)⟩
  have hr2 := hr1.put { rc .ready none with state := .busy }
  have hsz : w.heap.size ≤ (W.putObj (w.heap.size + 1) (.loop { rc .ready none with state := .busy })).heap.size := by
   have := (Array.getElem?_eq_some_iff.1 hr2.lp).1
   omega
  refine wpIn_mono (hbody (w.heap.size + 1) k _ hk hsz (own_put (hI k) hi1 hr1)) ?_
  rintro e a3 W3 hp
  have fin : ∀ (jump : Option Code), KeepsFrom w.heap.size (W.putObj (w.heap.size + 1) (.loop { rc .ready none with state := .busy })) W3 →
    (Instr.endRound (w.heap.size + 1) jump).run Tryd.prog W3 = .ok (.bool jump.isNone) (W3.putObj (w.heap.size + 1) (.loop (rc (if jump.isNone then .ready else .done) jump))) := fun jump hk => by
   have hl3 := (hr2.kept hk).lp
   rw [hrc] at hl3
   have := run_endRound (P := Tryd.prog) jump hl3
   rw [hrc]
   exact this
  cases e with
  | normal =>
   obtain ⟨hk, hi3⟩ := hp
   exact ⟨_, _, fin none hk, .inl ⟨rfl, own_put (hI _) hi3 (hr2.kept hk), (hr2.kept hk).put _⟩⟩
  | ret =>
   obtain ⟨hk, hi3⟩ := hp
   exact ⟨_, _, fin (some .ret) hk, .inr ⟨rfl, own_put hIx hi3 (hr2.kept hk), (hr2.kept hk).put _⟩⟩
  | exit id => exact hp.elim
  | goto t => exact hp.elim
  | panic ch => exact hp.elim
  | outgrown => exact hp.elim
 have hen : (Instr.enterLoop fn a.tmps ps assign body Fence.wide.round).run Tryd.prog w = .ok (w.heap.size + 1, [{ target := .collected w.heap.size, args := #[] }]) W1 := by
  rw [hW1, hrc]; exact run_enterLoop_outer _ _ _ _ _
 refine ⟨w.heap.size + 1, [{ target := .collected w.heap.size, args := #[] }], W1, { target := .fn (.func 60) #[.pointer (some ⟨pa, 0, none⟩), .pointer (some ⟨pb, 0, none⟩)], args := #[.func (.yield (w.heap.size + 1)) #[] #[]] }, W1, 60,
  #[.func (.yield (w.heap.size + 1)) #[] #[]] ++ #[.pointer (some ⟨pa, 0, none⟩), .pointer (some ⟨pb, 0, none⟩)], W1, hen, ?_, fun _ _ => trivial, ?_, fun _ => by omega, ?_⟩
 ·simp only [resolve, hg]
  simp [go_sem]
 ·simp [invoke, go_sem, enters_of Tryd.func60 (by kernel_rfl) rfl]
 refine hgo.mono ?_
 rintro e W2 ⟨⟨v, rfl⟩, (⟨hi2, hr2⟩ | ⟨hx, hr2⟩)⟩
 ·exact ⟨none, _, by have := run_endLoop (P := Tryd.prog) hr2.lp (by rw [hrc]; simp); rw [hrc] at this; exact this, hdone _ _ (Nat.le_refl _) (own_put (hI _) hi2 hr2) (hr2.put _).defd⟩
 ·exact ⟨some .ret, _, by have := run_endLoop (P := Tryd.prog) hr2.lp (by rw [hrc]; simp); rw [hrc] at this; exact this, hstop _ _ (Nat.le_refl _) (own_put hIx hx hr2) (hr2.put _).defd⟩
end Go.Proofs.YtfmgibhffgkieaaDoor
namespace Go.Proofs.YtfmgibhffgkieaaDoor
open Go.RowKit Go.Shelf
set_option maxHeartbeats 8000000
set_option maxRecDepth 100000
attribute [local go_sem] Oper.semAt_some
theorem c34 (nma nmb : ByteArray) (ea eb : Int) (A B : Option Addr) (na nb ca cb : Nat) (w : World) :
  Calls Tryd.prog 34 #[.agg #[.string nma, .int .i64 ea, .slice A na ca], .agg #[.string nmb, .int .i64 eb, .slice B nb cb]] w fun en w' => en = .returned (.func (.func 60) #[] #[.pointer (some ⟨w.heap.size, 0, none⟩), .pointer (some ⟨w.heap.size + 1, 0, none⟩)]) ∧ w' = (w.alloc (Obj.cells #[.string nma, .int .i64 ea, .slice A na ca] 40)).alloc (Obj.cells #[.string nmb, .int .i64 eb, .slice B nb cb] 40) := by
 go_enter Tryd.func34, Tryd.ntmps34
 go_wp2
 go_ret
 exact ⟨rfl, rfl⟩
theorem c41 (nma nmb : ByteArray) (ea eb : Int) (A B : Option Addr) (na nb ca cb : Nat) (la lb : List Td) (w : World) (hma : Nm nma) (hmb : Nm nmb) (hea : 0 ≤ ea ∧ ea ≤ 1000) (heb : 0 ≤ eb ∧ eb ≤ 1000) (hna : 1 ≤ na ∧ na ≤ 256) (hnb : 1 ≤ nb ∧ nb ≤ 256) (HA : RdT w A na la) (HB : RdT w B nb lb) (oka : OkP la) (okb : OkP lb) :
  Calls Tryd.prog 41 #[.agg #[.string nma, .int .i64 ea, .slice A na ca], .agg #[.string nmb, .int .i64 eb, .slice B nb cb]] w fun en w' => en = .returned (.int .i64 0) ∧ Below w.heap.size w w' := by
 have K65a : Hid (∀ W, RdT W A na la → Calls Tryd.prog 65 #[.agg #[.string nma, .int .i64 ea, .slice A na ca]] W fun en w' => en = .returned (.int .i64 0) ∧ Below W.heap.size W w') := Lib.hid (fun W h => c65 nma ea A na ca la W hma hea hna.1 hna.2 h oka)
 have K65b : Hid (∀ W, RdT W B nb lb → Calls Tryd.prog 65 #[.agg #[.string nmb, .int .i64 eb, .slice B nb cb]] W fun en w' => en = .returned (.int .i64 0) ∧ Below W.heap.size W w') := Lib.hid (fun W h => c65 nmb eb B nb cb lb W hmb heb hnb.1 hnb.2 h okb)
 clear hma hmb hea heb hna hnb oka okb
 obtain ⟨w0, hW⟩ : ∃ W, W = (w.alloc (Obj.cells #[.string nma, .int .i64 ea, .slice A na ca] 40)).alloc (Obj.cells #[.string nmb, .int .i64 eb, .slice B nb cb] 40) := ⟨_, rfl⟩
 have hT0 : w0.heap[w.heap.size]? = some (.cells #[.string nma, .int .i64 ea, .slice A na ca] 40 (0, 0)) := by rw [hW]; exact heap_old (by simp <;> omega) (heap_new (by simp))
 have hT1 : w0.heap[w.heap.size + 1]? = some (.cells #[.string nmb, .int .i64 eb, .slice B nb cb] 40 (0, 0)) := by rw [hW]; exact heap_new (by simp)
 have hB0 : Below w.heap.size w w0 := by rw [hW]; exact (((Below.refl _ _).alloc (by first | omega | (simp <;> omega)) _).alloc (by first | omega | (simp <;> omega)) _)
 replace HA := HA.below hB0
 replace HB := HB.below hB0
 go_enter Tryd.func41, Tryd.ntmps41
 go_wp2_with fail
 rw [← hW]
 clear hW
 have qhT0_0 : w0.cell? ⟨w.heap.size, 0, none⟩ = some (.string nma) := cell_at hT0 rfl
 have qhT0_1 : w0.cell? ⟨w.heap.size, 1, none⟩ = some (.int .i64 ea) := cell_at hT0 rfl
 have qhT0_2 : w0.cell? ⟨w.heap.size, 2, none⟩ = some (.slice A na ca) := cell_at hT0 rfl
 have qhT1_0 : w0.cell? ⟨w.heap.size + 1, 0, none⟩ = some (.string nmb) := cell_at hT1 rfl
 have qhT1_1 : w0.cell? ⟨w.heap.size + 1, 1, none⟩ = some (.int .i64 eb) := cell_at hT1 rfl
 have qhT1_2 : w0.cell? ⟨w.heap.size + 1, 2, none⟩ = some (.slice B nb cb) := cell_at hT1 rfl
 refine wp_region_plan [(0, true), (2, true), (1, false), (3, false), (4, false), (5, false), (6, true)] w0.heap.size (by kernel_rfl) (by kernel_rfl) (Nat.le_refl _) (fun _ _ d _ _ h => by cases d <;> exact h) ?_
 have hC : Below w0.heap.size w0 w0 := Below.refl _ _
 have zhT0 : w.heap.size < w0.heap.size := (Array.getElem?_eq_some_iff.1 hT0).1
 have zhT1 : w.heap.size + 1 < w0.heap.size := (Array.getElem?_eq_some_iff.1 hT1).1
 repeat (first | (refine wpPlanA_skip _ rfl (by rfl) ?_; simp only [Act.put, List.setIfInBounds_toArray, List.set_cons_zero, List.set_cons_succ]) | (refine wpPlanA_soft _ ?_ rfl (by rfl) ?_ ?_; rotate_left; (intro wq hq hcq; go_simp; first | exact rfl | exact ⟨rfl, rfl⟩); simp only [Act.put, List.setIfInBounds_toArray, List.set_cons_zero, List.set_cons_succ]))
 refine wpPlanA_hard _ rfl (by rfl) (fun w1 hS K hK => ?_)
 have hB1 := hB0.call hS rfl
 replace hC := hC.call hS rfl
 replace hT0 := blkb hT0 hS
 replace hT1 := blkb hT1 hS
 replace HA := HA.below hS
 replace HB := HB.below hS
 clear hS hB0
 go_simp
 refine (K65a.out _ HA).mono ?_
 rintro e w2 ⟨rfl, hb⟩
 have hB2 := hB1.call hb rfl
 replace hC := hC.call hb rfl
 replace hT0 := blkb hT0 hb
 replace hT1 := blkb hT1 hb
 replace HA := HA.below hb
 replace HB := HB.below hb
 clear hb hB1
 refine hK _ _ hC ?_
 clear hK K
 try simp only [Act.put, List.setIfInBounds_toArray, List.set_cons_zero, List.set_cons_succ]
 repeat (first | (refine wpPlanA_skip _ rfl (by rfl) ?_; simp only [Act.put, List.setIfInBounds_toArray, List.set_cons_zero, List.set_cons_succ]) | (refine wpPlanA_soft _ ?_ rfl (by rfl) ?_ ?_; rotate_left; (intro wq hq hcq; go_simp; first | exact rfl | exact ⟨rfl, rfl⟩); simp only [Act.put, List.setIfInBounds_toArray, List.set_cons_zero, List.set_cons_succ]))
 refine wpPlanA_hard _ rfl (by rfl) (fun w3 hS K hK => ?_)
 have hB3 := hB2.call hS rfl
 replace hC := hC.call hS rfl
 replace hT0 := blkb hT0 hS
 replace hT1 := blkb hT1 hS
 replace HA := HA.below hS
 replace HB := HB.below hS
 clear hS hB2
 go_simp
 refine (K65b.out _ HB).mono ?_
 rintro e w4 ⟨rfl, hb⟩
 have hB4 := hB3.call hb rfl
 replace hC := hC.call hb rfl
 replace hT0 := blkb hT0 hb
 replace hT1 := blkb hT1 hb
 replace HA := HA.below hb
 replace HB := HB.below hb
 clear hb hB3
 refine hK _ _ hC ?_
 clear hK K
 try simp only [Act.put, List.setIfInBounds_toArray, List.set_cons_zero, List.set_cons_succ]
 repeat (first | (refine wpPlanA_skip _ rfl (by rfl) ?_; simp only [Act.put, List.setIfInBounds_toArray, List.set_cons_zero, List.set_cons_succ]) | (refine wpPlanA_soft _ ?_ rfl (by rfl) ?_ ?_; rotate_left; (intro wq hq hcq; go_simp; first | exact rfl | exact ⟨rfl, rfl⟩); simp only [Act.put, List.setIfInBounds_toArray, List.set_cons_zero, List.set_cons_succ]))
 refine wpPlanA_hard _ rfl (by rfl) (fun w5 hS K hK => ?_)
 have hB5 := hB4.call hS rfl
 replace hC := hC.call hS rfl
 replace hT0 := blkb hT0 hS
 replace hT1 := blkb hT1 hS
 replace HA := HA.below hS
 replace HB := HB.below hS
 clear hS hB4
 go_simp
 have hb : Below w5.heap.size w5 (w5.alloc (Obj.cells #[.int .i64 0, .int .i64 0] 36)) := (Below.refl _ _).alloc (Nat.le_refl _) _
 have hN : (w5.alloc (Obj.cells #[.int .i64 0, .int .i64 0] 36)).heap[w5.heap.size]? = some (Obj.cells #[.int .i64 0, .int .i64 0] 36) := heap_new rfl
 refine hK _ _ (hC.alloc hC.size _) ?_
 clear hK K
 replace hC := hC.call hb rfl
 have hB6 := hB5.call hb rfl
 replace hT0 := blkb hT0 hb
 replace hT1 := blkb hT1 hb
 replace HA := HA.below hb
 replace HB := HB.below hb
 clear hb hB5
 generalize hWn : w5.alloc (Obj.cells #[.int .i64 0, .int .i64 0] 36) = w6 at hN hC hB6 hT0 hT1 HA HB ⊢
 clear hWn
 generalize hWn : w5.heap.size = bhN at hN ⊢
 clear hWn
 try simp only [Act.put, List.setIfInBounds_toArray, List.set_cons_zero, List.set_cons_succ]
 repeat (first | (refine wpPlanA_skip _ rfl (by rfl) ?_; simp only [Act.put, List.setIfInBounds_toArray, List.set_cons_zero, List.set_cons_succ]) | (refine wpPlanA_soft _ ?_ rfl (by rfl) ?_ ?_; rotate_left; (intro wq hq hcq; go_simp; first | exact rfl | exact ⟨rfl, rfl⟩); simp only [Act.put, List.setIfInBounds_toArray, List.set_cons_zero, List.set_cons_succ]))
 refine wpPlanA_hard _ rfl (by rfl) (fun w7 hS K hK => ?_)
 have hB7 := hB6.call hS rfl
 replace hC := hC.call hS rfl
 replace hT0 := blkb hT0 hS
 replace hT1 := blkb hT1 hS
 replace HA := HA.below hS
 replace HB := HB.below hS
 replace hN := blkb hN hS
 clear hS hB6
 go_simp
 refine (c40 _ 2 2 [0, 0] _ rfl (by omega) (RdS.of_block (cs := encI [0, 0]) hN rfl)).mono ?_
 rintro e w' ⟨rfl, rfl⟩
 refine hK _ _ hC ?_
 clear hK K
 try simp only [Act.put, List.setIfInBounds_toArray, List.set_cons_zero, List.set_cons_succ]
 rw [show Mo.first [0, 0] = 0 from rfl]
 repeat (first | (refine wpPlanA_skip _ rfl (by rfl) ?_; simp only [Act.put, List.setIfInBounds_toArray, List.set_cons_zero, List.set_cons_succ]) | (refine wpPlanA_soft _ ?_ rfl (by rfl) ?_ ?_; rotate_left; (intro wq hq hcq; go_simp; first | exact rfl | exact ⟨rfl, rfl⟩); simp only [Act.put, List.setIfInBounds_toArray, List.set_cons_zero, List.set_cons_succ]))
 clear hN
 clear qhT0_0 qhT0_1 qhT0_2 qhT1_0 qhT1_1 qhT1_2
 refine wpPlanA_nil (fun w8 hS => ?_)
 clear hC zhT0 zhT1
 have hB8 := hB7.call hS rfl
 replace hT0 := blkb hT0 hS
 replace hT1 := blkb hT1 hS
 replace HA := HA.below hS
 replace HB := HB.below hS
 clear hS hB7
 have qhT0_0 : w8.cell? ⟨w.heap.size, 0, none⟩ = some (.string nma) := cell_at hT0 rfl
 have qhT0_1 : w8.cell? ⟨w.heap.size, 1, none⟩ = some (.int .i64 ea) := cell_at hT0 rfl
 have qhT0_2 : w8.cell? ⟨w.heap.size, 2, none⟩ = some (.slice A na ca) := cell_at hT0 rfl
 have qhT1_0 : w8.cell? ⟨w.heap.size + 1, 0, none⟩ = some (.string nmb) := cell_at hT1 rfl
 have qhT1_1 : w8.cell? ⟨w.heap.size + 1, 1, none⟩ = some (.int .i64 eb) := cell_at hT1 rfl
 have qhT1_2 : w8.cell? ⟨w.heap.size + 1, 2, none⟩ = some (.slice B nb cb) := cell_at hT1 rfl
 go_wp2
 go_ret
 exact ⟨rfl, hB8⟩
theorem c44 (nma nmb : ByteArray) (ea eb : Int) (A B : Option Addr) (na nb ca cb lo m : Nat) (w : World) (hm : lo + m ≤ 100000) (hm1 : 1 ≤ m)
  (h61a : ∀ W, Below w.heap.size w W → Calls Tryd.prog 61 #[.agg #[.string nma, .int .i64 ea, .slice A na ca]] W fun en w' => en = .returned (.tuple #[.int .i64 lo, .int .i64 ((lo : Int) + m - 1)]) ∧ Below W.heap.size W w')
  (h61b : ∀ W, Below w.heap.size w W → Calls Tryd.prog 61 #[.agg #[.string nmb, .int .i64 eb, .slice B nb cb]] W fun en w' => en = .returned (.tuple #[.int .i64 lo, .int .i64 ((lo : Int) + m - 1)]) ∧ Below W.heap.size W w') :
  Calls Tryd.prog 44 #[.agg #[.string nma, .int .i64 ea, .slice A na ca], .agg #[.string nmb, .int .i64 eb, .slice B nb cb]] w fun en w' => en = .returned (.bool true) ∧ Below w.heap.size w w' := by
 have H61a := Lib.hid h61a
 have H61b := Lib.hid h61b
 obtain ⟨w0, hW⟩ : ∃ W, W = ((w.alloc (Obj.cells #[.string nma, .int .i64 ea, .slice A na ca] 40)).alloc (Obj.cells #[.string nmb, .int .i64 eb, .slice B nb cb] 40)).alloc (Obj.cells #[.bool false] 4) := ⟨_, rfl⟩
 have k2 : w0.heap[w.heap.size]? = some (.cells #[.string nma, .int .i64 ea, .slice A na ca] 40 (0, 0)) := by rw [hW]; exact heap_old (by simp; omega) (heap_old (by simp) (heap_new rfl))
 have k3 : w0.heap[w.heap.size + 1]? = some (.cells #[.string nmb, .int .i64 eb, .slice B nb cb] 40 (0, 0)) := by rw [hW]; exact heap_old (by simp) (heap_new (by simp))
 have k4 : w0.heap[w.heap.size + 1 + 1]? = some (.cells #[.bool false] 4 (0, 0)) := by rw [hW]; exact heap_new (by simp)
 have hB0 : Below w.heap.size w w0 := by rw [hW]; exact (((Below.refl _ _).alloc (Nat.le_refl _) _).alloc (by simp) _).alloc (by simp; omega) _
 have q0 : w0.cell? ⟨w.heap.size, 0, none⟩ = some (.string nma) := cell_at k2 rfl
 have q1 : w0.cell? ⟨w.heap.size, 1, none⟩ = some (.int .i64 ea) := cell_at k2 rfl
 have q2 : w0.cell? ⟨w.heap.size, 2, none⟩ = some (.slice A na ca) := cell_at k2 rfl
 have r0 : w0.cell? ⟨w.heap.size + 1, 0, none⟩ = some (.string nmb) := cell_at k3 rfl
 have r1 : w0.cell? ⟨w.heap.size + 1, 1, none⟩ = some (.int .i64 eb) := cell_at k3 rfl
 have r2 : w0.cell? ⟨w.heap.size + 1, 2, none⟩ = some (.slice B nb cb) := cell_at k3 rfl
 have z0 := cell_lt q0
 have z1 := cell_lt r0
 clear h61a h61b
 refine (callsIn_wide (n := 6)).1 ?_
 refine callsIn_of_wp_marks Tryd.func44 rfl trivial ?_ rfl
 refine wpIn_wide.2 ?_
 simp only [Tryd.ntmps44, List.size_toArray, List.length_cons, List.length_nil, Nat.reduceAdd, Nat.reduceSub, Array.replicate_succ, Array.replicate_zero, List.push_toArray, List.append_toArray, List.nil_append, List.cons_append]
 go_wp2_with fail
 rw [← hW]
 clear hW k2 k3
 go_wp2_with fail
 refine (c34 _ _ _ _ _ _ _ _ _ _ _).mono ?_
 rintro e w1 ⟨rfl, hw1⟩
 obtain ⟨pa, hpa⟩ : ∃ p, p = w0.heap.size := ⟨_, rfl⟩
 obtain ⟨pb, hpb⟩ : ∃ p, p = w0.heap.size + 1 := ⟨_, rfl⟩
 obtain ⟨p4, hp4⟩ : ∃ p, p = w.heap.size + 1 + 1 := ⟨_, rfl⟩
 have hb1 : Below w0.heap.size w0 w1 := by rw [hw1]; exact below2 _ _ _
 have ka : HBk w1 pa nma ea A na ca := by unfold HBk; rw [hw1, hpa]; exact heap_old (by simp) (heap_new rfl)
 have kb : HBk w1 pb nmb eb B nb cb := by unfold HBk; rw [hw1, hpb]; exact heap_new (by simp)
 have k4' : w1.heap[p4]? = some (.cells #[.bool false] 4 (0, 0)) := by rw [hp4]; exact blkb k4 hb1
 have hB1 := hB0.call hb1 rfl
 have hlt4 : p4 < pa := by have := (Array.getElem?_eq_some_iff.1 k4).1; omega
 have HP4 : Hid (w.heap.size ≤ p4) := Lib.hid (by omega)
 rw [← hpb, ← hpa, ← hp4]
 obtain ⟨bs, hbs⟩ : ∃ bs : Bool → List (Nat × Array Value × TypeId), bs = fun b => [(pa, #[.string nma, .int .i64 ea, .slice A na ca], 40), (pb, #[.string nmb, .int .i64 eb, .slice B nb cb], 40), (p4, #[.bool b], 4)] := ⟨_, rfl⟩
 have I0 : BI w [] (bs false) True w1 := by
  refine ⟨Marks.nil _ _, fun x hx => ?_, hB1, trivial⟩
  rw [hbs] at hx
  simp only [List.mem_cons, List.not_mem_nil, or_false] at hx
  rcases hx with rfl | rfl | rfl
  ·exact ka
  ·exact kb
  ·exact k4'
 have HBS := Lib.hid hbs
 have HSZ : Hid (w.heap.size ≤ w1.heap.size) := Lib.hid hB1.size
 have HNE : Hid (pa ≠ p4 ∧ pb ≠ p4) := Lib.hid (by omega)
 clear hw1 hpa hpb hp4 ka kb k4' hB1 hb1 k4 hB0 q0 q1 q2 r0 r1 r2 z0 z1 hbs hlt4
 go_wp2
 refine (wpIn_wide (n := 6)).1 ?_
 refine wpIn_places (n := 6) (by omega) (pa := pa) (pb := pb) (lo := lo) (m := m) hm (nma := nma) (nmb := nmb) (ea := ea) (eb := eb) (A := A) (B := B) (na := na) (nb := nb) (ca := ca) (cb := cb) rfl
  (fun k W => k = 0 ∧ BI w [] (bs false) True W) (fun W => BI w [] (bs true) True W)
  (fun k => ?own) (BI.own HSZ.out (fun _ h => by cases h))
  (fun W h => ⟨h.2.blk (pa, _, 40) (by rw [HBS.out]; simp), h.2.blk (pb, _, 40) (by rw [HBS.out]; simp)⟩)
  (fun W h => H61a.out W h.2.bel) (fun W h => H61b.out W h.2.bel)
  ⟨rfl, I0⟩ (fun k => { tmps := #[.agg #[.string nma, .int .i64 ea, .slice A na ca], .agg #[.string nmb, .int .i64 eb, .slice B nb cb], .pointer (some ⟨w.heap.size, 0, none⟩), .pointer (some ⟨w.heap.size + 1, 0, none⟩), .pointer (some ⟨p4, 0, none⟩), .agg #[.string nma, .int .i64 ea, .slice A na ca], .agg #[.string nmb, .int .i64 eb, .slice B nb cb], .func (.func 60) #[] #[.pointer (some ⟨pa, 0, none⟩), .pointer (some ⟨pb, 0, none⟩)], .int .i64 ((lo + k : Nat) : Int)], defers := [] }) rfl ?assign ?body ?done ?stop
 case own =>
  intro u W W' row h hg hr
  exact ⟨h.1, BI.own HSZ.out (fun _ h => by cases h) u W W' row h.2 hg hr⟩
 case assign =>
  intro lr k W K hK
  have HK := Lib.hid hK
  clear hK
  gi_wp2
  go_simp
  exact HK.out
 case body =>
  intro lr k W hk hsz2 hI
  obtain ⟨rfl, hI⟩ := hI
  have k0 : W.heap[p4]? = some (.cells #[.bool false] 4 (0, 0)) := hI.blk (p4, _, _) (by rw [HBS.out]; simp)
  have c0 : W.cell? ⟨p4, 0, none⟩ = some (.bool false) := cell_at k0 rfl
  have f0 : W.frozen? ⟨p4, 0, none⟩ = false := free_at k0
  have l0 := cell_lt c0
  have HI := Lib.hid (hI.set (b := p4) (bs' := bs true) (.bool true) HP4.out k0 (fun x hx => by
   rw [HBS.out] at hx
   simp only [List.mem_cons, List.not_mem_nil, or_false] at hx
   rcases hx with rfl | rfl | rfl
   ·exact .inr ⟨HNE.out.1, by rw [HBS.out]; simp⟩
   ·exact .inr ⟨HNE.out.2, by rw [HBS.out]; simp⟩
   ·exact .inl ⟨rfl, rfl, rfl⟩))
  have HKF := Lib.hid (keepsF_set (B := w1.heap.size) (.bool true) k0)
  clear hI k0
  gi_wp2
  exact ⟨HKF.out, HI.out⟩
 case done =>
  intro D W hD hI hK
  exact absurd hI.1 (by omega)
 case stop =>
  intro D W hD hX hK
  have k0 : W.heap[p4]? = some (.cells #[.bool true] 4 (0, 0)) := hX.blk (p4, _, _) (by rw [HBS.out]; simp)
  have hne : p4 ≠ D := fun e => by rw [e, hK] at k0; cases k0
  have c1 : (W.putObj D (.deferred none)).cell? ⟨p4, 0, none⟩ = some (.bool true) := cell_at ((World.putObj_heap_other hne).trans k0) rfl
  have HBf := Lib.hid (hX.bel.grown (grownBy_putObj' W D (.deferred none)) hX.bel.size (fun j hj => by cases hj; exact Nat.le_trans HSZ.out hD))
  have HK := Lib.hid hK
  clear hX k0 hK
  gi_wp2
  refine ⟨by simp, .inl ⟨_, _, rfl, run_takeDeferred HK.out, ?_⟩⟩
  exact ⟨.bool true, by simp [results, Tryd.results44, go_sem, c1], rfl, HBf.out⟩
end Go.Proofs.YtfmgibhffgkieaaDoor
namespace Go.Proofs.YtfmgibhffgkieaaDoor
open Go.RowKit Go.Shelf
set_option maxHeartbeats 8000000
set_option maxRecDepth 100000
attribute [local go_sem] Oper.semAt_some
theorem grown_of {f : Nat} {args : Array Value} {w : World} {v : Value} (h : Calls Tryd.prog f args w fun en w' => en = .returned v ∧ w = w') : Calls Tryd.prog f args w fun en w' => en = .returned v ∧ Below w.heap.size w w' :=
 h.mono fun _ _ h => ⟨h.1, h.2 ▸ Below.refl _ _⟩
theorem c16 (nma nmb : ByteArray) (ea eb : Int) (A B : Option Addr) (na nb ca cb : Nat) (s lim : Int) (w : World) (hs : lim ≤ s ∧ s ≤ 1000) (h41 : ∀ W, Below w.heap.size w W → Calls Tryd.prog 41 #[.agg #[.string nma, .int .i64 ea, .slice A na ca], .agg #[.string nmb, .int .i64 eb, .slice B nb cb]] W fun en w' => en = .returned (.int .i64 0) ∧ Below W.heap.size W w') (h44 : ∀ W, Below w.heap.size w W → Calls Tryd.prog 44 #[.agg #[.string nma, .int .i64 ea, .slice A na ca], .agg #[.string nmb, .int .i64 eb, .slice B nb cb]] W fun en w' => en = .returned (.bool true) ∧ Below W.heap.size W w') :
  Calls Tryd.prog 16 #[.agg #[.string nma, .int .i64 ea, .slice A na ca], .agg #[.string nmb, .int .i64 eb, .slice B nb cb], .int .i64 s, .int .i64 lim] w fun en w' => en = .returned (.int .i64 0) ∧ Below w.heap.size w w' := by
 have H41 := Lib.hid h41
 have H44 := Lib.hid h44
 have hr0 := range_ok hs
 have HR := Lib.hid hr0
 clear h41 h44 hr0 hs
 obtain ⟨w0, hW⟩ : ∃ W, W = (w.alloc (Obj.cells #[.string nma, .int .i64 ea, .slice A na ca] 40)).alloc (Obj.cells #[.string nmb, .int .i64 eb, .slice B nb cb] 40) := ⟨_, rfl⟩
 have hT0 : w0.heap[w.heap.size]? = some (.cells #[.string nma, .int .i64 ea, .slice A na ca] 40 (0, 0)) := by rw [hW]; exact heap_old (by simp <;> omega) (heap_new (by simp))
 have hT1 : w0.heap[w.heap.size + 1]? = some (.cells #[.string nmb, .int .i64 eb, .slice B nb cb] 40 (0, 0)) := by rw [hW]; exact heap_new (by simp)
 have hB0 : Below w.heap.size w w0 := by rw [hW]; exact (((Below.refl _ _).alloc (by first | omega | (simp <;> omega)) _).alloc (by first | omega | (simp <;> omega)) _)
 go_enter Tryd.func16, Tryd.ntmps16
 go_wp2_with fail
 rw [← hW]
 clear hW
 have qhT0_0 : w0.cell? ⟨w.heap.size, 0, none⟩ = some (.string nma) := cell_at hT0 rfl
 have qhT0_1 : w0.cell? ⟨w.heap.size, 1, none⟩ = some (.int .i64 ea) := cell_at hT0 rfl
 have qhT0_2 : w0.cell? ⟨w.heap.size, 2, none⟩ = some (.slice A na ca) := cell_at hT0 rfl
 have qhT1_0 : w0.cell? ⟨w.heap.size + 1, 0, none⟩ = some (.string nmb) := cell_at hT1 rfl
 have qhT1_1 : w0.cell? ⟨w.heap.size + 1, 1, none⟩ = some (.int .i64 eb) := cell_at hT1 rfl
 have qhT1_2 : w0.cell? ⟨w.heap.size + 1, 2, none⟩ = some (.slice B nb cb) := cell_at hT1 rfl
 go_wp2_with fail
 refine (H41.out _ hB0).mono ?_
 rintro e w1 ⟨rfl, hb⟩
 clear qhT0_0 qhT0_1 qhT0_2 qhT1_0 qhT1_1 qhT1_2
 have hS := hb
 have hB1 := hB0.call hS rfl
 replace hT0 := blkb hT0 hS
 replace hT1 := blkb hT1 hS
 clear hS hB0
 have qhT0_0 : w1.cell? ⟨w.heap.size, 0, none⟩ = some (.string nma) := cell_at hT0 rfl
 have qhT0_1 : w1.cell? ⟨w.heap.size, 1, none⟩ = some (.int .i64 ea) := cell_at hT0 rfl
 have qhT0_2 : w1.cell? ⟨w.heap.size, 2, none⟩ = some (.slice A na ca) := cell_at hT0 rfl
 have qhT1_0 : w1.cell? ⟨w.heap.size + 1, 0, none⟩ = some (.string nmb) := cell_at hT1 rfl
 have qhT1_1 : w1.cell? ⟨w.heap.size + 1, 1, none⟩ = some (.int .i64 eb) := cell_at hT1 rfl
 have qhT1_2 : w1.cell? ⟨w.heap.size + 1, 2, none⟩ = some (.slice B nb cb) := cell_at hT1 rfl
 clear hb
 go_wp2_with fail
 refine (c42 s lim 1000 _).mono ?_
 rintro e w' ⟨rfl, rfl⟩
 rw [HR.out]
 go_wp2_with fail
 refine (grown_of (c40 _ 2 2 [0, 0] _ rfl (by omega) (RdS.of_block (cs := encI [0, 0]) (heap_new rfl) rfl))).mono ?_
 rintro e w2 ⟨rfl, hb⟩
 clear qhT0_0 qhT0_1 qhT0_2 qhT1_0 qhT1_1 qhT1_2
 have hS := ((Below.refl _ _).alloc (by first | exact Nat.le_refl _ | (simp <;> omega)) _).call hb rfl
 have hB2 := hB1.call hS rfl
 replace hT0 := blkb hT0 hS
 replace hT1 := blkb hT1 hS
 clear hS hB1
 have qhT0_0 : w2.cell? ⟨w.heap.size, 0, none⟩ = some (.string nma) := cell_at hT0 rfl
 have qhT0_1 : w2.cell? ⟨w.heap.size, 1, none⟩ = some (.int .i64 ea) := cell_at hT0 rfl
 have qhT0_2 : w2.cell? ⟨w.heap.size, 2, none⟩ = some (.slice A na ca) := cell_at hT0 rfl
 have qhT1_0 : w2.cell? ⟨w.heap.size + 1, 0, none⟩ = some (.string nmb) := cell_at hT1 rfl
 have qhT1_1 : w2.cell? ⟨w.heap.size + 1, 1, none⟩ = some (.int .i64 eb) := cell_at hT1 rfl
 have qhT1_2 : w2.cell? ⟨w.heap.size + 1, 2, none⟩ = some (.slice B nb cb) := cell_at hT1 rfl
 clear hb
 rw [show Mo.first [0, 0] = 0 from rfl]
 go_wp2_with fail
 refine (H44.out _ hB2).mono ?_
 rintro e w3 ⟨rfl, hb⟩
 clear qhT0_0 qhT0_1 qhT0_2 qhT1_0 qhT1_1 qhT1_2
 have hS := hb
 have hB3 := hB2.call hS rfl
 replace hT0 := blkb hT0 hS
 replace hT1 := blkb hT1 hS
 clear hS hB2
 have qhT0_0 : w3.cell? ⟨w.heap.size, 0, none⟩ = some (.string nma) := cell_at hT0 rfl
 have qhT0_1 : w3.cell? ⟨w.heap.size, 1, none⟩ = some (.int .i64 ea) := cell_at hT0 rfl
 have qhT0_2 : w3.cell? ⟨w.heap.size, 2, none⟩ = some (.slice A na ca) := cell_at hT0 rfl
 have qhT1_0 : w3.cell? ⟨w.heap.size + 1, 0, none⟩ = some (.string nmb) := cell_at hT1 rfl
 have qhT1_1 : w3.cell? ⟨w.heap.size + 1, 1, none⟩ = some (.int .i64 eb) := cell_at hT1 rfl
 have qhT1_2 : w3.cell? ⟨w.heap.size + 1, 2, none⟩ = some (.slice B nb cb) := cell_at hT1 rfl
 clear hb
 go_wp2_with fail
 refine (c43 false 7 _).mono ?_
 rintro e w' ⟨rfl, rfl⟩
 rw [show Mo.when false 7 = 0 from rfl]
 go_wp2
 go_ret
 exact ⟨rfl, hB3⟩
end Go.Proofs.YtfmgibhffgkieaaDoor
namespace Go
open Go.RowKit
section
variable {P : Program} {ops : Array Oper} {Q : Exit → Act → World → Prop}
theorem wpIn_region_plan {id n lr : Nat} {a : Act} {W : World} (p : List (Nat × Bool)) (B : Nat) (hm : P.follows .mixedOrders = true) (hB : (p.length == ops.size && Region.noSelect ops && Region.planB .any ops p (Array.replicate ops.size false)) = true) (hnd : Region.noDefer ops = true) (hQl : ¬ LetsOut Q) (hBW : B ≤ W.heap.size)
  (hQ : ∀ c a d v w, Q (.panic c) (a.put d v) w → Q (.panic c) a w)
  (h : wpPlanA P ops (Below B W) Q p a W) : (Code.region id ops true).wpIn (Fence.wide.inRound lr) n P Q a W := by
 simp only [Bool.and_eq_true, beq_iff_eq] at hB
 obtain ⟨⟨hlen, hs⟩, hP⟩ := hB
 have hCg : ∀ w w', Below B W w → Below w.heap.size w w' → Below B W w' := fun w w' h1 h2 => h1.trans (h2.mono (Nat.le_trans hBW h1.size))
 refine wpIn_region_any hm (wpAnyIn_of hnd hQl _ _ _ _ (wpAny_of_T (C := Below B W) _ _ _ _ ?_))
 have := wpAnyT_plan (P := P) (Q := Q) (C := Below B W) (md := .any) (ops := ops) hCg hs hQ p (Array.replicate ops.size false) a { W with drawn := W.drawn + 1 } ((Below.refl B W).drew) hP (h _ ((Below.refl _ W).drew))
 rw [hlen] at this
 exact this
end
end Go
namespace Go.Proofs.YtfmgibhffgkieaaDoor
open Go.RowKit Go.Shelf
set_option maxHeartbeats 8000000
set_option maxRecDepth 100000
attribute [local go_sem] Oper.semAt_some
/-- an append of integers, in a round -/
theorem wpListIn_app_ints {F : Fence} {n : Nat} (w : World) {ops : Array Oper} {rest : List Oper} {o : Oper} {a : Act} {Q : Exit → Act → World → Prop} (hg : o.guard = none) (s x : Operand)
  (ho : o.op = .call { callee := .builtin .append, args := #[s, x], argTypes := #[35, 35] })
  (base : Nat) (v : Value) (k : Nat) (xs ys : List Int) (hs : a.eval s = v) (hown : Own w base v k (encI xs))
  (A : Option Addr) (m c : Nat) (hx : a.eval x = .slice A m c) (H : RdI w A m ys) (hnm : k + m ≤ 1000000) (hbase : base ≤ w.heap.size)
  (h : ∀ v' w', Own w' base v' (k + m) (encI (xs ++ ys)) → w.grownBy w' v.ownBlock → wpListIn F n Tryd.prog ops Q rest (a.put o.dst v') w') : wpListIn F n Tryd.prog ops Q (o :: rest) a w := by
 obtain ⟨i0, hi, hz0, hz1, hz2⟩ := info_parts info3
 have e : encI (xs ++ ys) = encI xs ++ encI ys := by simp [encI]
 cases A with
 | none =>
  obtain rfl : m = 0 := RdS.none0 H
  obtain rfl : ys = [] := List.eq_nil_of_length_eq_zero (by simpa [encI] using H.1)
  have hr := run_app_none 35 o.type 3 i0 Tryd.underlying35 hi v k (encI xs) hown c
  have := h v w (by rw [Nat.add_zero, List.append_nil]; exact hown) (grownBy_of_below (Below.refl _ _) _)
  refine wpListIn_plain hg fun K hK' => ?_
  unfold Oper.wpIn
  refine ⟨?_, ?_⟩
  ·simp [Oper.about, ho, resolve, Target.leads, Sem.run_pure]
  ·rw [Oper.semAt_plain F _ _ (by rw [ho]; intro c hc'; cases hc')]
   simp [execOp, ho, resolve, invoke, builtin, hs, hx, hr, Result.andThen]
   exact hK' _ _ this
 | some ad =>
  refine wpListIn_append_own w hg s x 35 ho base 3 i0 (.int .i64 0) 1 8 Tryd.underlying35 hi hz0 hz1 hz2 rfl (by decide) v k (encI xs) hs hown ad m c (encI ys) hx (by rw [H.1]) (RdS.news H (by omega)) (fun u hu => by simp [encI] at hu; obtain ⟨y, _, rfl⟩ := hu; rfl) (by unfold maxLen; omega) (by omega) hbase (fun v' w' h2 h3 _ => h v' w' (by rw [e]; exact h2) h3)
def StopQ (P : Prop) : Prop := P
theorem stopq {P : Prop} (h : StopQ P) : P := h
/-- the known blocks and a row of the function's own, whose slice lies in the block g -/
structure CI (w : World) (bl : List (Nat × Array Value × TypeId)) (g B : Nat) (v y : Value) (l : List Int) (W0 W : World) : Prop where
 ks : ∀ x ∈ bl, W.heap[x.1]? = some (.cells x.2.1 x.2.2 (0, 0))
 kg : W.heap[g]? = some (.cells #[v] 35 (0, 0))
 row : Own W B y l.length (encI l)
 bel : Below w.heap.size w W
 kf : KeepsFrom B W0 W
 sz : B ≤ W.heap.size
def CO (w : World) (bl : List (Nat × Array Value × TypeId)) (g B : Nat) : Prop := w.heap.size ≤ g ∧ g < B ∧ ∀ x ∈ bl, x.1 ≠ g ∧ x.1 < B
section
variable {w : World} {bl : List (Nat × Array Value × TypeId)} {g B : Nat} {v y : Value} {l : List Int} {W0 W W' : World}
theorem CI.grow (h : CI w bl g B v y l W0 W) (ho : CO w bl g B) (hb : Below W.heap.size W W') : CI w bl g B v y l W0 W' := by
 obtain ⟨a1, a2, a3⟩ := ho
 have := h.sz
 exact ⟨fun x hx => blkb (h.ks x hx) hb, blkb h.kg hb, own_below h.row hb, h.bel.trans (hb.mono (by omega)), h.kf.trans (keepsF_below hb), Nat.le_trans h.sz hb.size⟩
theorem CI.setv (h : CI w bl g B v y l W0 W) (ho : CO w bl g B) (u : Value) : CI w bl g B u y l W0 (W.setCell ⟨g, 0, none⟩ u) := by
 obtain ⟨a1, a2, a3⟩ := ho
 have f : ∀ {q : Nat} {o : Obj}, q ≠ g → W.heap[q]? = some o → (W.setCell ⟨g, 0, none⟩ u).heap[q]? = some o := fun hq hk => (set_far (p := ⟨g, 0, none⟩) _ hq).trans hk
 exact ⟨fun x hx => f (a3 x hx).1 (h.ks x hx), set_blk (i := 0) h.kg _, own_setfar h.row (by show g < B; omega), h.bel.setCell (p := ⟨g, 0, none⟩) (by show w.heap.size ≤ g; omega) _, h.kf.trans (keepsF_set (B := B) u h.kg), by simp; exact h.sz⟩
theorem CI.app (h : CI w bl g B v y l W0 W) (ho : CO w bl g B) {y' : Value} {l' : List Int} (hown : Own W' B y' l'.length (encI l')) (hg : W.grownBy W' y.ownBlock) : CI w bl g B v y' l' W0 W' := by
 obtain ⟨a1, a2, a3⟩ := ho
 have hbn : ∀ b, b < B → some b ≠ y.ownBlock := fun b hlt e => by have := own_base h.row b e.symm; omega
 have f : ∀ {q : Nat} {o : Obj}, q < B → W.heap[q]? = some o → W'.heap[q]? = some o := fun hq hk => (hg.block _ (Array.getElem?_eq_some_iff.1 hk).1 (hbn _ hq)).trans hk
 refine ⟨fun x hx => f (a3 x hx).2 (h.ks x hx), f (by omega) h.kg, hown, h.bel.grown hg (by have := h.sz; omega) (fun j hj => by have := own_base h.row j hj; omega), h.kf.trans ⟨hg.size, fun q o hq hk hc => ?_⟩, Nat.le_trans h.sz hg.size⟩
 refine (hg.block _ (Array.getElem?_eq_some_iff.1 hk).1 (fun e => ?_)).trans hk
 rcases h.row.2 with ⟨rfl, _⟩ | ⟨b, cap, cs, rfl, hb, hgg, _⟩
 ·cases e
 ·have : q = b := by simpa [Value.ownBlock] using e
  subst this
  rw [hk] at hgg
  cases hgg
  simp [Obj.isCells] at hc
theorem CI.here (h : CI w bl g B v y l W0 W) : CI w bl g B v y l W W := ⟨h.ks, h.kg, h.row, h.bel, KeepsFrom.refl _ _, h.sz⟩
theorem CI.own (ho : CO w bl g B) : OwnFrom B (fun (_ : Unit) W => CI w bl g B v y l W W) := fun _ W W' row h hg hr => by
 obtain ⟨a1, a2, a3⟩ := ho
 exact ⟨fun x hx => cells_keep (h.ks x hx) hg hr, cells_keep h.kg hg hr, own_keepR h.row hg hr, h.bel.grown hg (by have := h.sz; omega) (fun j hj => by have := (hr j hj).1; omega), KeepsFrom.refl _ _, Nat.le_trans h.sz hg.size⟩
end
/-- the places, among the first k from lo on, at which v holds -/
def selK (v : Nat → Bool) (lo k : Nat) : List Int := ((List.range k).filter v).map fun j => ((lo + j : Nat) : Int)
theorem selK_succ (v : Nat → Bool) (lo k : Nat) : selK v lo (k + 1) = selK v lo k ++ (if v k then [((lo + k : Nat) : Int)] else []) := by
 unfold selK
 rw [List.range_succ, List.filter_append, List.map_append]
 cases hv : v k <;> simp [hv]
theorem selK_len (v : Nat → Bool) (lo k : Nat) : (selK v lo k).length ≤ k := by
 unfold selK
 rw [List.length_map]
 exact Nat.le_trans (List.length_filter_le _ _) (by simp)
theorem c17 (nma nmb : ByteArray) (ea eb : Int) (A B : Option Addr) (na nb ca cb lo m : Nat) (s : Int) (a1 a2 b1 b2 : Nat → Int) (w : World) (hm : lo + m ≤ 100000) (hs : -1000000 ≤ s ∧ s ≤ 1000000)
  (h61a : ∀ W, Below w.heap.size w W → Calls Tryd.prog 61 #[.agg #[.string nma, .int .i64 ea, .slice A na ca]] W fun en w' => en = .returned (.tuple #[.int .i64 lo, .int .i64 ((lo : Int) + m - 1)]) ∧ Below W.heap.size W w')
  (h61b : ∀ W, Below w.heap.size w W → Calls Tryd.prog 61 #[.agg #[.string nmb, .int .i64 eb, .slice B nb cb]] W fun en w' => en = .returned (.tuple #[.int .i64 lo, .int .i64 ((lo : Int) + m - 1)]) ∧ Below W.heap.size W w')
  (h35a : ∀ k W, k < m → Below w.heap.size w W → Calls Tryd.prog 35 #[.agg #[.string nma, .int .i64 ea, .slice A na ca], .int .i64 ((lo + k : Nat) : Int)] W fun en w' => en = .returned (.agg #[.int .i64 (a1 k), .int .i64 (a2 k)]) ∧ Below W.heap.size W w')
  (h35b : ∀ k W, k < m → Below w.heap.size w W → Calls Tryd.prog 35 #[.agg #[.string nmb, .int .i64 eb, .slice B nb cb], .int .i64 ((lo + k : Nat) : Int)] W fun en w' => en = .returned (.agg #[.int .i64 (b1 k), .int .i64 (b2 k)]) ∧ Below W.heap.size W w')
  (hbd : ∀ k, k < m → -1000000 ≤ b1 k ∧ b1 k ≤ 1000000 ∧ -1000000 ≤ b2 k ∧ b2 k ≤ 1000000) :
  Calls Tryd.prog 17 #[.agg #[.string nma, .int .i64 ea, .slice A na ca], .agg #[.string nmb, .int .i64 eb, .slice B nb cb], .int .i64 s] w fun en w' => ∃ V c, en = .returned (.slice V (selK (fun k => decide (a2 k < b1 k + s) || decide (b2 k + s < a1 k)) lo m).length c) ∧ RdI w' V (selK (fun k => decide (a2 k < b1 k + s) || decide (b2 k + s < a1 k)) lo m).length (selK (fun k => decide (a2 k < b1 k + s) || decide (b2 k + s < a1 k)) lo m) ∧ Below w.heap.size w w' := by
 obtain ⟨sv, hsv⟩ : ∃ sv : Nat → Bool, sv = fun k => decide (a2 k < b1 k + s) || decide (b2 k + s < a1 k) := ⟨_, rfl⟩
 rw [← hsv]
 have HSV := Lib.hid hsv
 have H61a := Lib.hid h61a
 have H61b := Lib.hid h61b
 have H35a := Lib.hid h35a
 have H35b := Lib.hid h35b
 have HBD := Lib.hid hbd
 have HS := Lib.hid hs
 have HM := Lib.hid hm
 clear hsv h61a h61b h35a h35b hbd hs hm
 obtain ⟨w0, hW⟩ : ∃ W, W = (((w.alloc (Obj.cells #[.string nma, .int .i64 ea, .slice A na ca] 40)).alloc (Obj.cells #[.string nmb, .int .i64 eb, .slice B nb cb] 40)).alloc (Obj.cells #[.int .i64 s] 3)).alloc (Obj.cells #[.slice none 0 0] 35) := ⟨_, rfl⟩
 have k2 : w0.heap[w.heap.size]? = some (.cells #[.string nma, .int .i64 ea, .slice A na ca] 40 (0, 0)) := by rw [hW]; exact heap_old (by simp; omega) (heap_old (by simp; omega) (heap_old (by simp) (heap_new rfl)))
 have k3 : w0.heap[w.heap.size + 1]? = some (.cells #[.string nmb, .int .i64 eb, .slice B nb cb] 40 (0, 0)) := by rw [hW]; exact heap_old (by simp) (heap_old (by simp) (heap_new (by simp)))
 have k4 : w0.heap[w.heap.size + 1 + 1]? = some (.cells #[.int .i64 s] 3 (0, 0)) := by rw [hW]; exact heap_old (by simp) (heap_new (by simp))
 have k5 : w0.heap[w.heap.size + 1 + 1 + 1]? = some (.cells #[.slice none 0 0] 35 (0, 0)) := by rw [hW]; exact heap_new (by simp)
 have hB0 : Below w.heap.size w w0 := by rw [hW]; exact ((((Below.refl _ _).alloc (Nat.le_refl _) _).alloc (by simp) _).alloc (by simp; omega) _).alloc (by simp; omega) _
 have hz0 : w0.heap.size = w.heap.size + 1 + 1 + 1 + 1 := by rw [hW]; simp
 have q0 : w0.cell? ⟨w.heap.size, 0, none⟩ = some (.string nma) := cell_at k2 rfl
 have q1 : w0.cell? ⟨w.heap.size, 1, none⟩ = some (.int .i64 ea) := cell_at k2 rfl
 have q2 : w0.cell? ⟨w.heap.size, 2, none⟩ = some (.slice A na ca) := cell_at k2 rfl
 have r0 : w0.cell? ⟨w.heap.size + 1, 0, none⟩ = some (.string nmb) := cell_at k3 rfl
 have r1 : w0.cell? ⟨w.heap.size + 1, 1, none⟩ = some (.int .i64 eb) := cell_at k3 rfl
 have r2 : w0.cell? ⟨w.heap.size + 1, 2, none⟩ = some (.slice B nb cb) := cell_at k3 rfl
 have z0 := cell_lt q0
 have z1 := cell_lt r0
 refine (callsIn_wide (n := 6)).1 ?_
 refine callsIn_of_wp_marks Tryd.func17 rfl trivial ?_ rfl
 refine wpIn_wide.2 ?_
 simp only [Tryd.ntmps17, List.size_toArray, List.length_cons, List.length_nil, Nat.reduceAdd, Nat.reduceSub, Array.replicate_succ, Array.replicate_zero, List.push_toArray, List.append_toArray, List.nil_append, List.cons_append]
 have HZ0 := Lib.hid hz0
 clear hz0
 go_wp2_with fail
 rw [← hW]
 clear hW
 have K2 := Lib.hid k2
 have K3 := Lib.hid k3
 clear k2 k3
 go_wp2_with fail
 refine (c34 _ _ _ _ _ _ _ _ _ _ _).mono ?_
 rintro e w1 ⟨rfl, hw1⟩
 obtain ⟨pa, hpa⟩ : ∃ p, p = w0.heap.size := ⟨_, rfl⟩
 obtain ⟨pb, hpb⟩ : ∃ p, p = w0.heap.size + 1 := ⟨_, rfl⟩
 have hb1 : Below w0.heap.size w0 w1 := by rw [hw1]; exact below2 _ _ _
 have hz1 : w1.heap.size = pa + 1 + 1 := by rw [hw1, hpa]; simp
 have ka : HBk w1 pa nma ea A na ca := by unfold HBk; rw [hw1, hpa]; exact heap_old (by simp) (heap_new rfl)
 have kb : HBk w1 pb nmb eb B nb cb := by unfold HBk; rw [hw1, hpb]; exact heap_new (by simp)
 have hB1 := hB0.call hb1 rfl
 have hz0 := HZ0.out
 obtain ⟨g, hg⟩ : ∃ p, p = w.heap.size + 1 + 1 + 1 := ⟨_, rfl⟩
 obtain ⟨bl, hbl⟩ : ∃ bl : List (Nat × Array Value × TypeId), bl = [(pa, #[.string nma, .int .i64 ea, .slice A na ca], 40), (pb, #[.string nmb, .int .i64 eb, .slice B nb cb], 40), (w.heap.size, #[.string nma, .int .i64 ea, .slice A na ca], 40), (w.heap.size + 1, #[.string nmb, .int .i64 eb, .slice B nb cb], 40), (w.heap.size + 1 + 1, #[.int .i64 s], 3)] := ⟨_, rfl⟩
 have hord : CO w bl g w1.heap.size := by
  refine ⟨by omega, by omega, fun x hx => ?_⟩
  rw [hbl] at hx
  simp only [List.mem_cons, List.not_mem_nil, or_false] at hx
  rcases hx with rfl | rfl | rfl | rfl | rfl <;> simp only <;> omega
 have I0 : CI w bl g w1.heap.size (.slice none 0 0) (.slice none 0 0) [] w1 w1 := by
  refine ⟨fun x hx => ?_, ?_, World.ownsRow_nil _ _ _ _, hB1, KeepsFrom.refl _ _, Nat.le_refl _⟩
  ·rw [hbl] at hx
   simp only [List.mem_cons, List.not_mem_nil, or_false] at hx
   rcases hx with rfl | rfl | rfl | rfl | rfl
   ·exact ka
   ·exact kb
   ·exact blkb K2.out hb1
   ·exact blkb K3.out hb1
   ·exact blkb k4 hb1
  ·rw [hg]; exact blkb k5 hb1
 have HORD := Lib.hid hord
 have HBL := Lib.hid hbl
 rw [← hpb, ← hpa, ← hg]
 have HI0 := Lib.hid I0
 obtain ⟨B1, hB1e⟩ : ∃ b, b = w1.heap.size := ⟨_, rfl⟩
 clear hw1 hpa hpb ka kb hB1 hb1 k4 k5 hB0 q0 q1 q2 r0 r1 r2 z0 z1 hbl hord I0 hz0 hz1 hg K2 K3 HZ0
 go_wp2
 refine (wpIn_wide (n := 6)).1 ?_
 refine wpIn_places (n := 6) (by omega) (pa := pa) (pb := pb) (lo := lo) (m := m) HM.out (nma := nma) (nmb := nmb) (ea := ea) (eb := eb) (A := A) (B := B) (na := na) (nb := nb) (ca := ca) (cb := cb) rfl
  (fun k W => ∃ v, CI w bl g w1.heap.size v v (selK sv lo k) W W) (fun W => False)
  (fun k => ?own) (fun u W W' row h => h.elim)
  (fun W h => by obtain ⟨v, h⟩ := h; exact ⟨h.ks (pa, _, 40) (by rw [HBL.out]; simp), h.ks (pb, _, 40) (by rw [HBL.out]; simp)⟩)
  (fun W h => by obtain ⟨v, h⟩ := h; exact H61a.out W h.bel) (fun W h => by obtain ⟨v, h⟩ := h; exact H61b.out W h.bel)
  ⟨_, HI0.out⟩ (fun k => { tmps := #[.agg #[.string nma, .int .i64 ea, .slice A na ca], .agg #[.string nmb, .int .i64 eb, .slice B nb cb], .int .i64 s, .pointer (some ⟨w.heap.size, 0, none⟩), .pointer (some ⟨w.heap.size + 1, 0, none⟩), .pointer (some ⟨w.heap.size + 1 + 1, 0, none⟩), .slice none 0 0, .pointer (some ⟨g, 0, none⟩), .int .i64 ((lo + k : Nat) : Int), .agg #[.string nma, .int .i64 ea, .slice A na ca], .agg #[.string nmb, .int .i64 eb, .slice B nb cb], .func (.func 60) #[] #[.pointer (some ⟨pa, 0, none⟩), .pointer (some ⟨pb, 0, none⟩)], .int .i64 ((lo + k : Nat) : Int), undef, undef, undef, undef, undef, undef, undef, undef, undef, undef, undef, undef, undef, undef, undef], defers := [] }) rfl ?assign ?body ?done ?stop
 case own =>
  intro u W W' row h hg hr
  obtain ⟨v, h⟩ := h
  exact ⟨v, CI.own HORD.out u W W' row h hg hr⟩
 case assign =>
  intro lr k W K hK
  have HK := Lib.hid hK
  clear hK
  gi_wp2
  go_simp
  exact HK.out
 case body =>
  intro lr k W hk hsz2 hI
  obtain ⟨v, hI⟩ := hI
  have hsel := selK_succ sv lo k
  have hlen := selK_len sv lo k
  have hm := HM.out
  obtain ⟨A7, c7, rfl⟩ := own_slice hI.row
  obtain ⟨xs, hxs⟩ : ∃ xs, xs = selK sv lo k := ⟨_, rfl⟩
  obtain ⟨xs', hxs'⟩ : ∃ xs, xs = selK sv lo (k + 1) := ⟨_, rfl⟩
  rw [← hxs] at hI hsel hlen
  rw [← hxs'] at hsel
  have HSEL := Lib.hid hsel
  have HX' := Lib.hid hxs'
  have HLEN := Lib.hid (show xs.length + 1 ≤ 1000000 by omega)
  have g0 : W.heap[w.heap.size]? = some (.cells #[.string nma, .int .i64 ea, .slice A na ca] 40 (0, 0)) := hI.ks (w.heap.size, _, 40) (by rw [HBL.out]; simp)
  have g1 : W.heap[w.heap.size + 1]? = some (.cells #[.string nmb, .int .i64 eb, .slice B nb cb] 40 (0, 0)) := hI.ks (w.heap.size + 1, _, 40) (by rw [HBL.out]; simp)
  have g2 : W.heap[w.heap.size + 1 + 1]? = some (.cells #[.int .i64 s] 3 (0, 0)) := hI.ks (w.heap.size + 1 + 1, _, 3) (by rw [HBL.out]; simp)
  have q0 : W.cell? ⟨w.heap.size, 0, none⟩ = some (.string nma) := cell_at g0 rfl
  have q1 : W.cell? ⟨w.heap.size, 1, none⟩ = some (.int .i64 ea) := cell_at g0 rfl
  have q2 : W.cell? ⟨w.heap.size, 2, none⟩ = some (.slice A na ca) := cell_at g0 rfl
  have r0 : W.cell? ⟨w.heap.size + 1, 0, none⟩ = some (.string nmb) := cell_at g1 rfl
  have r1 : W.cell? ⟨w.heap.size + 1, 1, none⟩ = some (.int .i64 eb) := cell_at g1 rfl
  have r2 : W.cell? ⟨w.heap.size + 1, 2, none⟩ = some (.slice B nb cb) := cell_at g1 rfl
  have s0 : W.cell? ⟨w.heap.size + 1 + 1, 0, none⟩ = some (.int .i64 s) := cell_at g2 rfl
  have z0 := cell_lt q0
  have z1 := cell_lt r0
  have z2 := cell_lt s0
  have K35a := Lib.hid (fun W hb => H35a.out k W hk hb)
  have K35b := Lib.hid (fun W hb => H35b.out k W hk hb)
  have hbd := HBD.out k hk
  have K36 := Lib.hid (fun W => c36 (b1 k) (b2 k) s W (by omega) (by omega) HS.out)
  have hsvk : sv k = (decide (a2 k < b1 k + s) || decide (b2 k + s < a1 k)) := by rw [HSV.out]
  obtain ⟨x1, hx1⟩ : ∃ x, x = a1 k := ⟨_, rfl⟩
  obtain ⟨x2, hx2⟩ : ∃ x, x = a2 k := ⟨_, rfl⟩
  obtain ⟨y1, hy1⟩ : ∃ x, x = b1 k := ⟨_, rfl⟩
  obtain ⟨y2, hy2⟩ : ∃ x, x = b2 k := ⟨_, rfl⟩
  rw [← hx1, ← hx2, ← hy1, ← hy2] at hsvk
  rw [← hx1, ← hx2] at K35a
  rw [← hy1, ← hy2] at K35b K36
  obtain ⟨d1, hd1⟩ : ∃ x, x = y1 + s := ⟨_, rfl⟩
  obtain ⟨d2, hd2⟩ : ∃ x, x = y2 + s := ⟨_, rfl⟩
  rw [← hd1, ← hd2] at hsvk K36
  obtain ⟨q, hq⟩ : ∃ q : Int, q = ((lo + k : Nat) : Int) := ⟨_, rfl⟩
  rw [← hq] at K35a K35b HSEL ⊢
  have HSVK := Lib.hid hsvk
  have HI := Lib.hid hI
  clear hsel hlen hm hxs hxs' hbd hsvk hx1 hx2 hy1 hy2 hd1 hd2 hq g0 g1 g2 hI hk
  gi_wp2
  refine wpIn_region_plan [(0, true), (1, true), (3, true), (4, true), (6, true), (2, false), (5, false), (7, false), (8, true), (9, false)] W.heap.size (by kernel_rfl) (by kernel_rfl) (by kernel_rfl) (fun ⟨_, _, h⟩ => h) (Nat.le_refl _) (fun _ _ d _ _ h => by cases d <;> exact h) ?_
  have hC : Below W.heap.size W W := Below.refl _ _
  repeat (first | (refine wpPlanA_skip _ rfl (by rfl) ?_; simp only [Act.put, List.setIfInBounds_toArray, List.set_cons_zero, List.set_cons_succ]) | (refine wpPlanA_soft _ ?_ rfl (by rfl) ?_ ?_; rotate_left; (intro wq hq hcq; go_simp; first | exact rfl | exact ⟨rfl, rfl⟩); simp only [Act.put, List.setIfInBounds_toArray, List.set_cons_zero, List.set_cons_succ]))
  refine wpPlanA_hard _ rfl (by rfl) (fun wh hS K hK => ?_)
  replace hC := hC.call hS rfl
  clear hS
  go_simp
  refine (K35a.out _ (HI.out.bel.trans (hC.mono (HI.out.bel.size)))).mono ?_
  rintro e wi ⟨rfl, hb⟩
  replace hC := hC.call hb rfl
  clear hb
  refine hK _ _ hC ?_
  clear hK K
  try simp only [Act.put, List.setIfInBounds_toArray, List.set_cons_zero, List.set_cons_succ]
  refine wpPlanA_hard _ rfl (by rfl) (fun wh hS K hK => ?_)
  replace hC := hC.call hS rfl
  clear hS
  go_simp
  refine (K35b.out _ (HI.out.bel.trans (hC.mono (HI.out.bel.size)))).mono ?_
  rintro e wi ⟨rfl, hb⟩
  replace hC := hC.call hb rfl
  clear hb
  refine hK _ _ hC ?_
  clear hK K
  try simp only [Act.put, List.setIfInBounds_toArray, List.set_cons_zero, List.set_cons_succ]
  refine wpPlanA_hard _ rfl (by rfl) (fun wh hS K hK => ?_)
  replace hC := hC.call hS rfl
  clear hS
  go_simp
  refine (K36.out _).mono ?_
  rintro e wi ⟨rfl, hb⟩
  replace hC := hC.call hb rfl
  clear hb
  refine hK _ _ hC ?_
  clear hK K
  try simp only [Act.put, List.setIfInBounds_toArray, List.set_cons_zero, List.set_cons_succ]
  repeat (first | (refine wpPlanA_skip _ rfl (by rfl) ?_; simp only [Act.put, List.setIfInBounds_toArray, List.set_cons_zero, List.set_cons_succ]) | (refine wpPlanA_soft _ ?_ rfl (by rfl) ?_ ?_; rotate_left; (intro wq hq hcq; go_simp; first | exact rfl | exact ⟨rfl, rfl⟩); simp only [Act.put, List.setIfInBounds_toArray, List.set_cons_zero, List.set_cons_succ]))
  refine wpPlanA_hard _ rfl (by rfl) (fun wh hS K hK => ?_)
  replace hC := hC.call hS rfl
  clear hS
  go_simp
  refine (c37 _ _ _ _ _).mono ?_
  rintro e wi ⟨rfl, hb⟩
  replace hC := hC.call hb rfl
  clear hb
  refine hK _ _ hC ?_
  clear hK K
  try simp only [Act.put, List.setIfInBounds_toArray, List.set_cons_zero, List.set_cons_succ]
  refine wpPlanA_nil (fun w7 hS => ?_)
  replace hC := hC.call hS rfl
  clear hS
  rw [← HSVK.out]
  have HC := Lib.hid (HI.out.grow HORD.out hC)
  clear hC q0 q1 q2 r0 r1 r2 s0 z0 z1 z2 HI
  have e7 := cell_at HC.out.kg (i := 0) rfl
  have l7 := cell_lt e7
  show Exit.then _ _ _ _ _
  simp only [Exit.then]
  obtain ⟨bv, hbv⟩ : ∃ b, b = sv k := ⟨_, rfl⟩
  have hsel := HSEL.out
  rw [← hbv] at hsel ⊢
  clear hbv
  cases bv
  ·have hx : xs' = xs := by rw [hsel]; simp
   have HF : Hid (LinePost w1.heap.size (fun W => ∃ v, CI w bl g w1.heap.size v v (selK sv lo (k + 1)) W W) (fun W => False) W .normal { tmps := #[], defers := [] } w7) := Lib.hid (by
    rw [← HX'.out, hx]
    exact ⟨HC.out.kf, _, HC.out.here⟩)
   clear hx hsel
   gi_wp2
   exact HF.out
  ·have hx : xs' = xs ++ [q] := by rw [hsel]; simp
   have HX2 := Lib.hid hx
   clear hx hsel
   gi_wp2_with (gi_at_builtin; refine stopq ?_)
   unfold StopQ
   have HD := Lib.hid (HC.out.grow HORD.out ((Below.refl _ _).alloc (Nat.le_refl _) (Obj.cells #[.int .i64 q] 3)))
   refine wpListIn_app_ints _ rfl _ _ rfl w1.heap.size _ xs.length xs [q] rfl HD.out.row (some ⟨w7.heap.size, 0, none⟩) 1 1 rfl (RdS.of_block (cs := encI [q]) (heap_new rfl) rfl) HLEN.out HD.out.sz ?_
   intro v8 w8 hown8 hg8
   have hown9 : Own w8 w1.heap.size v8 (xs ++ [q]).length (encI (xs ++ [q])) := by rw [List.length_append]; exact hown8
   have HE := Lib.hid (HD.out.app HORD.out hown9 hg8)
   obtain ⟨A8, c8, rfl⟩ := own_slice hown8
   clear e7 l7 HD hown8 hg8 hown9
   have e8 := cell_at HE.out.kg (i := 0) rfl
   have f8 := free_at HE.out.kg (i := 0)
   have l8 := cell_lt e8
   have HF : Hid (LinePost w1.heap.size (fun W => ∃ v, CI w bl g w1.heap.size v v (selK sv lo (k + 1)) W W) (fun W => False) W .normal { tmps := #[], defers := [] } (w8.setCell ⟨g, 0, none⟩ (.slice A8 (xs.length + 1) c8))) := Lib.hid (by
    have h := HE.out.setv HORD.out (.slice A8 (xs.length + 1) c8)
    rw [← HX'.out, HX2.out]
    exact ⟨h.kf, _, h.here⟩)
   cases A8
   ·gi_wp2
    exact HF.out
   ·gi_wp2
    exact HF.out
 case done =>
  intro D W hD hI hK
  obtain ⟨v, hI⟩ := hI
  obtain ⟨A7, c7, rfl, hr, hlc, hc7, _⟩ := own_form hI.row
  have hgD : g ≠ D := fun e => by have := hI.kg; rw [e, hK] at this; cases this
  have c1 : (W.putObj D (.deferred none)).cell? ⟨g, 0, none⟩ = some (.slice A7 (selK sv lo m).length c7) := cell_at ((World.putObj_heap_other hgD).trans hI.kg) rfl
  have c2 : W.cell? ⟨g, 0, none⟩ = some (.slice A7 (selK sv lo m).length c7) := cell_at hI.kg rfl
  have l1 := cell_lt c2
  have HBf := Lib.hid (hI.bel.grown (grownBy_putObj' W D (.deferred none)) hI.bel.size (fun j hj => by cases hj; have := hI.sz; have := HORD.out.1; have := HORD.out.2.1; omega))
  have hrow2 := own_keepR (B := w1.heap.size) hI.row (grownBy_putObj' W D (.deferred none)) (fun r hr => by cases hr; exact ⟨hD, _, hK, rfl⟩)
  obtain ⟨_, _, he2, hr2, _⟩ := own_form hrow2
  cases he2
  have HR := Lib.hid hr2
  have HK := Lib.hid hK
  clear hrow2 hr2 hr hlc hc7 hgD hI hK c1
  gi_wp2
  go_wp2
  refine ⟨by simp, .inl ⟨_, _, rfl, run_takeDeferred HK.out, ?_⟩⟩
  exact ⟨.slice A7 (selK sv lo m).length c7, by simp [results, Tryd.results17, go_sem], A7, c7, rfl, HR.out, HBf.out⟩
 case stop =>
  intro D W hD hX hK
  exact hX.elim
end Go.Proofs.YtfmgibhffgkieaaDoor
