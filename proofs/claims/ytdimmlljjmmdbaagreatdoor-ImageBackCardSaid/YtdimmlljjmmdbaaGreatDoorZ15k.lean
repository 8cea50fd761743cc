/- A part of the proofs about chapter 7 (image): contracts of functions and plain laws (V102, V103, V104, V105, V71, V106, ShelfC, O5). -/
import Derived.Shelf.Strings.Builder1
import Derived.Shelf.Strings.Builder2
import Derived.Shelf.Strings.OnBuilder
import Derived.Shelf.Small.Strs
import Derived.Shelf.Small.Wraps
import Derived.Shelf.Strings.BuilderF
import Derived.Shelf.Strings.BuilderK
import Derived.Shelf.Utf8.RuneCount
import Derived.Shelf.Strings.Builder2Cap
import Derived.Shelf.Strconv.Itoa0
import Derived.Shelf.Strconv.Itoa1
import Derived.Shelf.LaysM
import Derived.Shelf.Strconv.Itoa2
import Derived.Shelf.Strconv.Itoa3
import Derived.Shelf.Strings.Search1
import Derived.Shelf.Strings.Search2
import Derived.Shelf.Strings.Search3
import Derived.Shelf.Strings.Count
import Derived.Shelf.Strings.Shaped
import Derived.Shelf.Strings.Prefix
import Derived.Shelf.Strings.Split
import Derived.Shelf.Strings.SplitShaped
import Derived.Shelf.Unicode.Decode
import Derived.Shelf.Strings.RuneCount
import Derived.Shelf.Strings.Explode
import Derived.Shelf.Bits.Mul64
import Derived.Shelf.Unicode.DecodeSlow
import Derived.Shelf.Unicode.DecodeAny
import Derived.Shelf.Slices.Equal
import Derived.Ground.Names2Prog
import Derived.Shelf.Slices.Clone
import Derived.Shelf.Slices.SearchI
import Derived.Shelf.Slices.Empties2
import Derived.Ground.SlgnProg
import Derived.Shelf.SlicesE.Clone
import Derived.Test.YtdimmlljjmmdbaaGreatDoorProg
import Derived.Test.YtdimmlljjmmdbaaGreatDoorRows
import Derived.Shelf.Vars
import Derived.Lib.AppendIntMem
import Derived.Test.YtdimmlljjmmdbaaGreatDoorZ15a
import Derived.Test.YtdimmlljjmmdbaaGreatDoorZ15b
import Derived.Test.YtdimmlljjmmdbaaGreatDoorZ15f
import Derived.Test.YtdimmlljjmmdbaaGreatDoorZ15g
import Derived.Test.YtdimmlljjmmdbaaGreatDoorZ15h
import Derived.Test.YtdimmlljjmmdbaaGreatDoorZ15i
import Derived.Test.YtdimmlljjmmdbaaGreatDoorZ15j
set_option linter.all false
namespace Go.Proofs.YtdimmlljjmmdbaaGreatDoor
open Go.RowKit Go.Shelf
set_option maxHeartbeats 8000000
set_option maxRecDepth 100000
attribute [local go_sem] Oper.semAt_some
def NoPan (Q : Exit → Act → World → Prop) : Exit → Act → World → Prop
 | .panic _, _, _ => False
 | e, a, w => Q e a w
theorem nopan_le {Q : Exit → Act → World → Prop} : ∀ e a w, NoPan Q e a w → Q e a w := by
 intro e a w h
 cases e <;> first | exact h | exact h.elim
theorem nopan_norm {Q : Exit → Act → World → Prop} {a : Act} {w : World} (h : Q .normal a w) : NoPan Q .normal a w := h
theorem nopan_pan {Q : Exit → Act → World → Prop} : ∀ c a d v w, NoPan Q (.panic c) (a.put d v) w → NoPan Q (.panic c) a w := fun _ _ _ _ _ h => h.elim
theorem c82 (s : ByteArray) (m : Int) (w : World) (hs : s.size ≤ 1000000) (hm : w.cell? ⟨1, 0, none⟩ = some (.int .i64 m)) : Calls Tryz.prog 82 #[.string s] w (PG w (Tx.parseG s.data.toList)) := by
 have hsl := Tx.size_len s
 have hm0 : 1 < w.heap.size := cell_lt hm
 obtain ⟨TX, hTX⟩ : ∃ T, T = s.data.toList := ⟨_, rfl⟩
 rw [← hTX] at hsl ⊢
 obtain ⟨d1, hdl⟩ : ∃ d, decide (4096 < (s.size : Int)) = d := ⟨_, rfl⟩
 obtain ⟨d2, hem⟩ : ∃ d, s.toList.isEmpty = d := ⟨_, rfl⟩
 obtain ⟨E, hE⟩ : ∃ E, E = Mo.first [Mo.when d1 26, Mo.when d2 25] := ⟨_, rfl⟩
 have HE := Lib.hid hE
 have HBAD : Hid (E ≠ 0 → Tx.parseG TX = (Tx.zG, 0, E)) := Lib.hid (fun h => by
  cases d1
  ·cases d2
   ·exact absurd hE h
   ·have : TX = [] := by rw [hTX, ← ByteArray.toList_eq]; exact List.isEmpty_iff.1 hem
    rw [this, hE]; rfl
  ·have h1 : 4096 < (s.size : Int) := by simpa using hdl
   unfold Tx.parseG
   rw [if_pos (by omega), hE]
   cases d2 <;> rfl)
 have HOK : Hid (E = 0 → Tx.parseG TX = Tx.prs Tx.zG 0 (Tx.split 10 TX) ∧ TX.length ≤ 4096 ∧ TX ≠ []) := Lib.hid (fun h => by
  cases d1
  ·cases d2
   ·have h1 : ¬ 4096 < (s.size : Int) := by simpa using hdl
    refine ⟨by unfold Tx.parseG; rw [if_neg (by omega)], by omega, fun h => ?_⟩
    rw [hTX, ← ByteArray.toList_eq] at h
    rw [h] at hem
    cases hem
   ·rw [h] at hE; cases hE
  ·rw [h] at hE; cases d2 <;> cases hE)
 have HTX : Hid (s = Tx.bs TX) := Lib.hid (by rw [hTX]; exact (Tx.bs_data s).symm)
 obtain ⟨w0, hW⟩ : ∃ W, W = ((w.alloc (Obj.cells #[.int .i64 0, .int .i64 0, .slice none 0 0] 35)).alloc (Obj.cells #[.int .i64 0] 3)).alloc (Obj.cells #[.int .i64 0] 32) := ⟨_, rfl⟩
 have k2 : w0.heap[w.heap.size]? = some (.cells z35 35 (0, 0)) := by rw [hW]; exact heap_old (by simp; omega) (heap_old (by simp) (heap_new rfl))
 have k3 : w0.heap[w.heap.size + 1]? = some (.cells #[.int .i64 0] 3 (0, 0)) := by rw [hW]; exact heap_old (by simp) (heap_new (by simp))
 have k4 : w0.heap[w.heap.size + 1 + 1]? = some (.cells #[.int .i64 0] 32 (0, 0)) := by rw [hW]; exact heap_new (by simp)
 have hB0 : Below w.heap.size w w0 := by rw [hW]; exact (((Below.refl _ _).alloc (Nat.le_refl _) _).alloc (by simp) _).alloc (by simp; omega) _
 have HMM : Hid (∀ W, Below w.heap.size w W → W.cell? ⟨1, 0, none⟩ = some (.int .i64 m)) := Lib.hid (fun W hW => (hW.cell (p := ⟨1, 0, none⟩) hm0).trans hm)
 have HS0 : Hid (1 < w.heap.size ∧ w0.heap.size = w.heap.size + 3) := Lib.hid ⟨hm0, by rw [hW]; simp⟩
 clear hsl hTX hs hE hm hm0
 refine (callsIn_wide (n := 8)).1 ?_
 refine callsIn_of_wp_marks Tryz.func82 rfl trivial ?_ rfl
 refine wpIn_wide.2 ?_
 simp only [Tryz.ntmps82, List.size_toArray, List.length_cons, List.length_nil, Nat.reduceAdd, Nat.reduceSub, Array.replicate_succ, Array.replicate_zero, List.push_toArray, List.append_toArray, List.nil_append, List.cons_append]
 go_wp2_with fail
 rw [← hW]
 clear hW
 refine (c94 d1 26 _).mono ?_
 rintro e w' ⟨rfl, rfl⟩
 go_wp2_with fail
 refine (c94 d2 25 _).mono ?_
 rintro e w' ⟨rfl, rfl⟩
 have hR1 : RdS (w0.alloc (Obj.cells #[.int .i64 (Mo.when d1 26), .int .i64 (Mo.when d2 25)] 32)) 1 (some ⟨w0.heap.size, 0, none⟩) 2 (encI [Mo.when d1 26, Mo.when d2 25]) := RdS.of_block (cs := encI [Mo.when d1 26, Mo.when d2 25]) (heap_new rfl) rfl
 have hb1 : Below w0.heap.size w0 (w0.alloc (Obj.cells #[.int .i64 (Mo.when d1 26), .int .i64 (Mo.when d2 25)] 32)) := (Below.refl _ _).alloc (Nat.le_refl _) _
 obtain ⟨w1, hw1⟩ : ∃ W, W = w0.alloc (Obj.cells #[.int .i64 (Mo.when d1 26), .int .i64 (Mo.when d2 25)] 32) := ⟨_, rfl⟩
 rw [← hw1] at hR1 hb1
 go_wp2_with fail
 rw [← hw1]
 clear hw1
 refine (c89 (some ⟨w0.heap.size, 0, none⟩) 2 2 [Mo.when d1 26, Mo.when d2 25] _ rfl (by decide) hR1).mono ?_
 rintro e w' ⟨rfl, rfl⟩
 rw [← HE.out]
 replace k2 := blkb k2 hb1
 replace k3 := blkb k3 hb1
 replace k4 := blkb k4 hb1
 have hB1 := hB0.call hb1 rfl
 have hs1 := hb1.size
 have c3 := cell_at k3 (i := 0) rfl
 have c4 := cell_at k4 (i := 0) rfl
 have f3 := free_at k3 (i := 0)
 have f4 := free_at k4 (i := 0)
 clear hR1 hb1 hB0
 by_cases hE0 : E = 0
 rotate_left
 ·have hEb : (E != 0) = true := by simpa using hE0
  have HP := Lib.hid (HBAD.out hE0)
  clear hE0
  go_wp2_with (refine wpList_store_blk rfl 35 _ _ rfl w.heap.size _ rfl rfl k2 ?s1 ?s2 ?s3 ?_)
  case s1 => rfl
  case s2 => kernel_rfl
  case s3 => simp [Value.oneCell']
  intro w2 hz2 hg2 hs2
  have hB2 := hB1.grown hg2 hB1.size (fun j hj => by cases hj; exact Nat.le_refl _)
  have j3 : w2.heap[w.heap.size + 1]? = some (.cells #[.int .i64 0] 3 (0, 0)) := (hg2.block _ (Array.getElem?_eq_some_iff.1 k3).1 (fun e => by have := Option.some.inj e; omega)).trans k3
  have j4 : w2.heap[w.heap.size + 1 + 1]? = some (.cells #[.int .i64 0] 32 (0, 0)) := (hg2.block _ (Array.getElem?_eq_some_iff.1 k4).1 (fun e => by have := Option.some.inj e; omega)).trans k4
  clear k2 k3 k4 c3 c4 f3 f4 hB1 hg2
  have c3 := cell_at j3 (i := 0) rfl
  have c4 := cell_at j4 (i := 0) rfl
  have f3 := free_at j3 (i := 0)
  have f4 := free_at j4 (i := 0)
  have hZ := Lib.hid hz2
  have hJ3 := Lib.hid j3
  have hJ4 := Lib.hid j4
  have hB := Lib.hid hB2
  clear hz2 j3 j4 hB2
  go_wp2
  have g2 := (set_far (p := ⟨w.heap.size + 1 + 1, 0, none⟩) (.int .i64 E) (show w.heap.size ≠ w.heap.size + 1 + 1 by omega)).trans ((set_far (p := ⟨w.heap.size + 1, 0, none⟩) (.int .i64 0) (show w.heap.size ≠ w.heap.size + 1 by omega)).trans hZ.out)
  have g3 := (set_far (p := ⟨w.heap.size + 1 + 1, 0, none⟩) (.int .i64 E) (show w.heap.size + 1 ≠ w.heap.size + 1 + 1 by omega)).trans (set_blk (i := 0) hJ3.out (.int .i64 0))
  have g4 := set_blk (i := 0) ((set_far (p := ⟨w.heap.size + 1, 0, none⟩) (.int .i64 0) (show w.heap.size + 1 + 1 ≠ w.heap.size + 1 by omega)).trans hJ4.out) (.int .i64 E)
  have hBf := (hB.out.setCell (p := ⟨w.heap.size + 1, 0, none⟩) (Nat.le_succ _) (.int .i64 0)).setCell (p := ⟨w.heap.size + 1 + 1, 0, none⟩) (by show w.heap.size ≤ w.heap.size + 1 + 1; omega) (.int .i64 E)
  generalize ((w2.setCell ⟨w.heap.size + 1, 0, none⟩ (.int .i64 0)).setCell ⟨w.heap.size + 1 + 1, 0, none⟩ (.int .i64 E)) = w4 at g2 g3 g4 hBf ⊢
  have e3 := cell_at g3 (i := 0) rfl
  have e4 := cell_at g4 (i := 0) rfl
  exact ⟨_, results_blk3 rfl rfl rfl rfl g2 _ Tryz.underlying35 rfl (by kernel_rfl) (x := .int .i64 0) (y := .int .i64 E) (by simp [go_sem, e3]) (by simp [go_sem, e4]), PG.zero HP.out hBf⟩
 subst hE0
 obtain ⟨hP1, hP2, hP3⟩ := HOK.out rfl
 have HPS := Lib.hid hP1
 have hTXl := Lib.hid hP2
 have HTN := Lib.hid hP3
 have HK2 := Lib.hid k2
 have HK3 := Lib.hid k3
 have HK4 := Lib.hid k4
 have HB1 := Lib.hid hB1
 obtain ⟨S, hS⟩ : ∃ S, S = Tx.bs TX := ⟨_, rfl⟩
 have HSX := Lib.hid hS
 have hsS : s = S := by rw [HTX.out, hS]
 subst hsS
 clear hP1 hP2 hP3 hS k2 k3 k4 c3 c4 f3 f4 hB1 HBAD HOK HE hdl hem
 go_wp2_with fail
 refine (c136 _ _).mono ?_
 rintro e w2 ⟨rfl, hw2⟩
 simp only [World.size_alloc] at hw2 ⊢
 obtain ⟨r2, hr2⟩ : ∃ r, r = w.heap.size := ⟨_, rfl⟩
 obtain ⟨r3, hr3⟩ : ∃ r, r = w.heap.size + 1 := ⟨_, rfl⟩
 obtain ⟨r4, hr4⟩ : ∃ r, r = w.heap.size + 1 + 1 := ⟨_, rfl⟩
 obtain ⟨g, hg⟩ : ∃ r, r = w1.heap.size := ⟨_, rfl⟩
 obtain ⟨n, hn⟩ : ∃ r, r = w1.heap.size + 1 := ⟨_, rfl⟩
 obtain ⟨p, hp⟩ : ∃ r, r = w1.heap.size + 1 + 1 := ⟨_, rfl⟩
 obtain ⟨hz1, hz2⟩ := HS0.out
 have hord : Ord w r2 r3 r4 g n p := ⟨by omega, by omega, by omega, by omega, by omega, by omega⟩
 have hb1 : w2.heap.size = p + 1 := by rw [hw2]; simp; omega
 have hblk : GB r2 r3 r4 g n p w z35 0 0 0 0 (.slice none 0 0) (.slice none 0 0) [] 0 TX w2 w2 := by
  have hbb : Below w1.heap.size w1 w2 := by rw [hw2]; exact (below2 _ _ _).alloc (by simp; omega) _
  refine ⟨?_, ?_, ?_, ?_, ?_, ?_, World.ownsRow_nil _ _ _ _, ?_, KeepsFrom.refl _ _, by omega⟩
  ·rw [hr2]; exact blkb HK2.out hbb
  ·rw [hr3]; exact blkb HK3.out hbb
  ·rw [hr4]; exact blkb HK4.out hbb
  ·rw [hw2]; exact heap_old (by simp; omega) (heap_old (by simp; omega) (heap_new (by omega)))
  ·rw [hw2]; exact heap_old (by simp; omega) (heap_new (by simp; omega))
  ·rw [hw2, ← HSX.out]; exact heap_new (by simp; omega)
  ·rw [hr2]; exact HB1.out.call hbb rfl
 rw [← hp, ← hn, ← hg, ← hr4, ← hr3, ← hr2]
 have hm1 : Hid (∀ W, Below r2 w W → W.cell? ⟨1, 0, none⟩ = some (.int .i64 m)) := Lib.hid (fun W hW => HMM.out W (by rw [← hr2]; exact hW))
 have hslb : (Obj.cells #[.int .i64 0] 3) = (Obj.cells #[.int .i64 0] 3) := rfl
 clear hw2 hr2 hr3 hr4 hg hn hp hz1 hz2 HS0 HK2 HK3 HK4 HB1 hs1 hslb
 go_wp2
 refine (wpIn_wide (n := 6)).1 ?_
 refine wpIn_lines (n := 6) (by omega) (p := p) rfl rfl (by omega) (fun s W => PI TX w r2 r3 r4 g n p s s W) (fun s W => PI TX w r2 r3 r4 g n p s (Tx.restOf s) W) (fun W => PX TX w r2 r3 r4 W)
  (fun s => by rw [hb1]; exact PI.own hord s s) (fun s => by rw [hb1]; exact PI.own hord s (Tx.restOf s)) (by rw [hb1]; exact PX.own hord)
  (fun s W h => by obtain ⟨st, k, cn, x, _, _, _, _, _, _, h⟩ := h; exact ⟨cell_at h.kp rfl, free_at h.kp⟩)
  (fun s W _ h => by obtain ⟨st, k, cn, x, h1, h2, h3, h4, h5, h6, h⟩ := h; exact ⟨st, k, cn, x, h1, h2, h3, h4, h5, h6, (h.setp hord _).here⟩)
  TX (by have := hTXl.out; omega) ⟨Tx.zG, 0, 0, .slice none 0 0, rfl, fun _ => rfl, rfl, by decide, by omega, by simp [Tx.zG], hblk⟩
  (fun x => { tmps := #[.string s, undef, .pointer (some ⟨r2, 0, none⟩), .pointer (some ⟨r3, 0, none⟩), .pointer (some ⟨r4, 0, none⟩), .int .i64 0, .pointer (some ⟨g, 0, none⟩), .pointer (some ⟨n, 0, none⟩), .string (Tx.bs x), undef, undef, undef, undef, undef, undef, undef, .string s, .int .i64 (s.size : Int), .bool d1, .int .i64 (Mo.when d1 26), .string s, .bool d2, .int .i64 (Mo.when d2 25), .slice (some ⟨w0.heap.size, 0, none⟩) 2 2, .int .i64 0, .int .i64 0, .bool false, undef, undef, .string s, .func (.func 164) #[] #[.pointer (some ⟨p, 0, none⟩)], .string (Tx.bs x), undef, undef, undef, undef, undef, undef, undef, undef, undef, undef, undef, undef, undef, undef, undef, undef, undef, undef, undef, undef, undef, undef, undef, undef, undef, undef, undef, undef, undef, undef, undef, undef, undef, undef, undef, undef, undef, undef, undef, undef, undef, undef, undef, undef, undef, undef, undef, undef, undef, undef, undef, undef, undef, undef, undef, undef, undef], defers := [] }) ?assign ?body ?done ?stop
 case assign =>
  intro l x W K hK
  gi_wp2
  exact hK
 case body =>
  intro lr st0 W hne hI
  obtain ⟨st, k, cn, x, h1, h2, h3, h4, h5, h6, hG⟩ := hI
  obtain ⟨Ax, cx, rfl, _⟩ := Sl.of_own hG.row
  have HB := Lib.hid hG
  have hl3 : TX.length ≤ 4096 := hTXl.out
  have hbl := Tx.bodyOf_le st0
  have h137 := fun W => c137 st0 W (by omega)
  have HC : Hid (st.c = (cn : Int) ∧ cn ≤ 1000000000) := Lib.hid ⟨h3, h4⟩
  have HBND : Hid (k + st0.length ≤ TX.length ∧ st.l.length + st0.length ≤ TX.length ∧ TX.length ≤ 4096) := Lib.hid ⟨h5, h6, hl3⟩
  have HMISS0 : Tx.whole st0 = false → Tx.prs Tx.zG 0 (Tx.split 10 TX) = (Tx.zG, (k : Int), 25) := fun h => by rw [h1]; exact Tx.prs_miss st k h hne
  have HHIT0 : Tx.whole st0 = true → (Tx.stepG st k (Tx.bodyOf st0) = none → Tx.prs Tx.zG 0 (Tx.split 10 TX) = (Tx.zG, (k : Int), 25)) ∧ ∀ st', Tx.stepG st k (Tx.bodyOf st0) = some st' → Tx.prs Tx.zG 0 (Tx.split 10 TX) = Tx.prs st' (k + 1) (Tx.split 10 (Tx.restOf st0)) := fun h => by rw [h1]; exact Tx.prs_hit h
  have HLEN0 : Tx.whole st0 = true → (Tx.bodyOf st0).length + 1 + (Tx.restOf st0).length = st0.length := fun h => by
   rcases Tx.whole_cases st0 with ⟨e, _⟩ | ⟨_, _, e⟩
   ·rw [e] at h; cases h
   ·exact e
  obtain ⟨BD, hBD⟩ : ∃ b, b = Tx.bodyOf st0 := ⟨_, rfl⟩
  obtain ⟨wh, hwh⟩ : ∃ b, b = Tx.whole st0 := ⟨_, rfl⟩
  obtain ⟨LN, hLN⟩ : ∃ L, L = Tx.bs (Tx.lineOf st0) := ⟨_, rfl⟩
  rw [← hBD, ← hwh, ← hLN] at h137
  rw [← hBD] at hbl HHIT0 HLEN0
  rw [← hwh] at HMISS0 HHIT0 HLEN0
  rw [← hLN]
  obtain ⟨Bd, hBd⟩ : ∃ L, L = Tx.bs BD := ⟨_, rfl⟩
  rw [← hBd] at h137
  have HBd := Lib.hid hBd
  have HLN : Hid (BD.length ≤ 4096) := Lib.hid (by omega)
  have H137 := Lib.hid h137
  have HMISS := Lib.hid HMISS0
  have HHIT := Lib.hid HHIT0
  have HLEN := Lib.hid HLEN0
  clear h1 h2 h3 h4 h5 h6 hG hl3 hbl h137 hBD hwh hLN hBd hne HMISS0 HHIT0 HLEN0
  by_cases hk0 : k = 0
  ·subst hk0
   have H138 : Hid (∀ W, Below r2 w W → Calls Tryz.prog 138 #[.string Bd, .string { data := #[103, 114, 111, 117, 110, 100] }, .int .i64 2] W (NQ W (Tx.nums Tx.wG 2 BD) 2)) := Lib.hid (fun W hW => by rw [HBd.out]; exact c138 BD Tx.wG 2 m W (by have := HLN.out; omega) (by first | decide | exact HC.out.2) (hm1.out W hW))
   have cN := cell_at HB.out.kn (i := 0) rfl
   have c0 : W.cell? ⟨g, 0, none⟩ = some (.int .i64 (cn : Int)) := by rw [← HC.out.1]; exact cell_at HB.out.kg (i := 0) rfl
   have l0 := cell_lt c0
   gi_wp2_with (refine ⟨trivial, ?_⟩; gi_at_call 137; refine (CallsIn.inRound lr (callsIn_wide.2 (H137.out _))).mono ?_; rintro e w' ⟨rfl, rfl⟩)
   refine wpIn_region_planL [(0, true), (1, true), (2, true)] W.heap.size 3 (by kernel_rfl) (by kernel_rfl) (by kernel_rfl) (fun ⟨_, _, h⟩ => h) (Nat.le_refl _) (fun _ _ d _ _ h => by cases d <;> exact h) ?_
   repeat (first | (refine wpPlanLA_skip _ rfl (by rfl) ?_; simp only [Act.put, List.setIfInBounds_toArray, List.set_cons_zero, List.set_cons_succ]) | (refine wpPlanLA_soft _ ?_ rfl (by rfl) ?_ ?_; rotate_left; (intro wq hq hcq; go_simp; first | exact rfl | exact ⟨rfl, rfl⟩); simp only [Act.put, List.setIfInBounds_toArray, List.set_cons_zero, List.set_cons_succ]))
   refine wpPlanLA_last _ rfl (by rfl) (fun w5 hS K hK => ?_)
   go_simp
   refine hK _ _ (fun w6 hb6 => ?_)
   have HB6 := Lib.hid (HB.out.grow hord (hS.call hb6 rfl))
   clear hK K hS hb6 cN c0 l0
   have cN := cell_at HB6.out.kn (i := 0) rfl
   gi_wp2_with (refine ⟨trivial, ?_⟩; gi_at_call 138; refine (CallsIn.inRound lr (callsIn_wide.2 (H138.out _ HB6.out.bel))).mono ?_)
   rintro e w7 hq
   obtain ⟨A, mq, cp, bb, rfl, hyes, hno, hb7⟩ := nq_cases hq
   have HB7 := Lib.hid (HB6.out.grow hord hb7)
   have HSZ6 := Lib.hid HB6.out.sz
   have HYES := Lib.hid hyes
   have HNO := Lib.hid hno
   clear hq hb7 hyes hno cN HB6
   have cN := cell_at HB7.out.kn (i := 0) rfl
   cases wh
   ·have HX := Lib.hid (HMISS.out rfl)
    gi_wp2
    refine wpIn_region_planC [(0, true), (1, true), (2, false), (3, false)] 4 (fun V => V.heap[n]? = some (.cells #[.int .i64 0] 3 (0, 0))) (fun _ _ h hb => blkb h hb) HB7.out.kn (by kernel_rfl) (by kernel_rfl) (by kernel_rfl) (fun ⟨_, _, h⟩ => h) (fun _ _ d _ _ h => by cases d <;> exact h) ?_
    repeat (first | (refine wpPlanLA_skip _ rfl (by rfl) ?_; simp only [Act.put, List.setIfInBounds_toArray, List.set_cons_zero, List.set_cons_succ]) | (refine wpPlanLA_softC _ ?_ rfl (by rfl) ?_ ?_; rotate_left; (intro wq hqn; have c0 := cell_at hqn (i := 0) rfl; go_simp; first | exact rfl | exact ⟨rfl, rfl⟩); simp only [Act.put, List.setIfInBounds_toArray, List.set_cons_zero, List.set_cons_succ]))
    refine wpPlanLA_hard _ rfl (by rfl) (fun w3 hb3 K hK => ?_)
    have B3 := HB7.out.grow hord hb3
    refine wp_store_blk 35 _ _ rfl r2 z35 rfl rfl B3.k2 rfl (by kernel_rfl) (by simp [z35, Value.oneCell']) (fun w4 hz4 hg4 hs4 => ?_)
    have B4 := Lib.hid (B3.set2 hord hz4 hg4)
    refine hK _ _ B4.out.kn ?_
    clear hK K hz4 hg4 hs4 hb3 B3
    try simp only [Act.put, List.setIfInBounds_toArray, List.set_cons_zero, List.set_cons_succ]
    refine wpPlanLA_hard _ rfl (by rfl) (fun w5 hb5 K hK => ?_)
    have B5 := B4.out.grow hord hb5
    have e3 := cell_at B5.k3 (i := 0) rfl
    have f3 := free_at B5.k3 (i := 0)
    have B6 := Lib.hid (B5.set3 hord 0)
    have z3 := cell_lt e3
    clear B5 hb5 B4
    go_simp
    refine hK _ _ B6.out.kn ?_
    clear hK K e3 f3 z3
    try simp only [Act.put, List.setIfInBounds_toArray, List.set_cons_zero, List.set_cons_succ]
    generalize w5.setCell ⟨r3, 0, none⟩ (.int .i64 0) = w6 at B6 ⊢
    refine wpPlanLA_last _ rfl (by rfl) (fun w8 hb8 K hK => ?_)
    have B7 := B6.out.grow hord hb8
    have e4 := cell_at B7.k4 (i := 0) rfl
    have f4 := free_at B7.k4 (i := 0)
    have B8 := Lib.hid (B7.set4 hord 25)
    have z4 := cell_lt e4
    clear B7 hb8 B6
    go_simp
    refine hK _ _ (fun w9 hb9 => ?_)
    clear hK K e4 f4 z4
    have HF : Hid (LinePost w2.heap.size (fun W => PI TX w r2 r3 r4 g n p (Tx.restOf st0) (Tx.restOf st0) W) (fun W => PX TX w r2 r3 r4 W) W .ret { tmps := #[], defers := [] } w9) := Lib.hid (by
     have B9 := B8.out.grow hord hb9
     rw [hb1]
     exact ⟨B9.kf, _, HX.out, B9.k2, B9.k3, B9.k4, B9.bel⟩)
    clear hb9 B8
    gi_wp2
    exact HF.out
   cases bb
   ·have HX := Lib.hid ((HHIT.out rfl).1 (by unfold Tx.stepG; rw [if_pos rfl, HNO.out rfl]; rfl))
    gi_wp2
    refine wpIn_region_planC [(0, true), (1, true), (2, false), (3, false)] 4 (fun V => V.heap[n]? = some (.cells #[.int .i64 0] 3 (0, 0))) (fun _ _ h hb => blkb h hb) HB7.out.kn (by kernel_rfl) (by kernel_rfl) (by kernel_rfl) (fun ⟨_, _, h⟩ => h) (fun _ _ d _ _ h => by cases d <;> exact h) ?_
    repeat (first | (refine wpPlanLA_skip _ rfl (by rfl) ?_; simp only [Act.put, List.setIfInBounds_toArray, List.set_cons_zero, List.set_cons_succ]) | (refine wpPlanLA_softC _ ?_ rfl (by rfl) ?_ ?_; rotate_left; (intro wq hqn; have c0 := cell_at hqn (i := 0) rfl; go_simp; first | exact rfl | exact ⟨rfl, rfl⟩); simp only [Act.put, List.setIfInBounds_toArray, List.set_cons_zero, List.set_cons_succ]))
    refine wpPlanLA_hard _ rfl (by rfl) (fun w3 hb3 K hK => ?_)
    have B3 := HB7.out.grow hord hb3
    refine wp_store_blk 35 _ _ rfl r2 z35 rfl rfl B3.k2 rfl (by kernel_rfl) (by simp [z35, Value.oneCell']) (fun w4 hz4 hg4 hs4 => ?_)
    have B4 := Lib.hid (B3.set2 hord hz4 hg4)
    refine hK _ _ B4.out.kn ?_
    clear hK K hz4 hg4 hs4 hb3 B3
    try simp only [Act.put, List.setIfInBounds_toArray, List.set_cons_zero, List.set_cons_succ]
    refine wpPlanLA_hard _ rfl (by rfl) (fun w5 hb5 K hK => ?_)
    have B5 := B4.out.grow hord hb5
    have e3 := cell_at B5.k3 (i := 0) rfl
    have f3 := free_at B5.k3 (i := 0)
    have B6 := Lib.hid (B5.set3 hord 0)
    have z3 := cell_lt e3
    clear B5 hb5 B4
    go_simp
    refine hK _ _ B6.out.kn ?_
    clear hK K e3 f3 z3
    try simp only [Act.put, List.setIfInBounds_toArray, List.set_cons_zero, List.set_cons_succ]
    generalize w5.setCell ⟨r3, 0, none⟩ (.int .i64 0) = w6 at B6 ⊢
    refine wpPlanLA_last _ rfl (by rfl) (fun w8 hb8 K hK => ?_)
    have B7 := B6.out.grow hord hb8
    have e4 := cell_at B7.k4 (i := 0) rfl
    have f4 := free_at B7.k4 (i := 0)
    have B8 := Lib.hid (B7.set4 hord 25)
    have z4 := cell_lt e4
    clear B7 hb8 B6
    go_simp
    refine hK _ _ (fun w9 hb9 => ?_)
    clear hK K e4 f4 z4
    have HF : Hid (LinePost w2.heap.size (fun W => PI TX w r2 r3 r4 g n p (Tx.restOf st0) (Tx.restOf st0) W) (fun W => PX TX w r2 r3 r4 W) W .ret { tmps := #[], defers := [] } w9) := Lib.hid (by
     have B9 := B8.out.grow hord hb9
     rw [hb1]
     exact ⟨B9.kf, _, HX.out, B9.k2, B9.k3, B9.k4, B9.bel⟩)
    clear hb9 B8
    gi_wp2
    exact HF.out
   obtain ⟨lq, hlq, rfl, hr7, hgA⟩ := HYES.out rfl
   have hlen7 := Tx.nums_length hlq
   have hnn := Tx.nums_nonneg hlq
   have hle7 := nums_le hlq
   obtain ⟨x0, x1, rfl⟩ : ∃ x0 x1, lq = [x0, x1] := by
    match lq, hlen7 with
    | [x0, x1], _ => exact ⟨x0, x1, rfl⟩
   have hx0 := hnn x0 (by simp)
   have HST := Lib.hid ((HHIT.out rfl).2 ⟨x0, x1, st.l⟩ (by unfold Tx.stepG; rw [if_pos rfl, hlq]; rfl))
   have HX0 : Hid (x0 = ((x0.toNat : Nat) : Int) ∧ x0.toNat ≤ 1000000000) := Lib.hid (by omega)
   obtain ⟨a2, o2, rfl, za2⟩ := hr7.form (by decide)
   have hq0 : w7.cell? ⟨a2, o2, none⟩ = some (.int .i64 x0) := hr7.get (k := 0) (by decide)
   have hq1 : w7.cell? ⟨a2, o2 + 1, none⟩ = some (.int .i64 x1) := hr7.get (k := 1) (by decide)
   have hag : a2 ≠ g := by
    have h1 := hgA a2 o2 rfl
    have h2 := HSZ6.out
    obtain ⟨_, _, _, _, _, h3⟩ := hord
    omega
   clear hr7 hgA hlq hnn hx0 hlen7 hle7 za2 HYES HNO
   gi_wp2
   refine wpIn_region_planC [(0, true), (1, true), (2, true), (3, true), (4, true), (5, true), (6, true), (7, false), (8, true)] 9 (fun V => V.cell? ⟨a2, o2, none⟩ = some (.int .i64 x0) ∧ V.cell? ⟨a2, o2 + 1, none⟩ = some (.int .i64 x1)) (fun _ _ h hb => ⟨(hb.cell (p := ⟨a2, o2, none⟩) (cell_lt h.1)).trans h.1, (hb.cell (p := ⟨a2, o2 + 1, none⟩) (cell_lt h.2)).trans h.2⟩) ⟨hq0, hq1⟩ (by kernel_rfl) (by kernel_rfl) (by kernel_rfl) (fun ⟨_, _, h⟩ => h) (fun _ _ d _ _ h => by cases d <;> exact h) ?_
   repeat (first | (refine wpPlanLA_skip _ rfl (by rfl) ?_; simp only [Act.put, List.setIfInBounds_toArray, List.set_cons_zero, List.set_cons_succ]) | (refine wpPlanLA_softC _ ?_ rfl (by rfl) ?_ ?_; rotate_left; (intro wq ⟨e0, e1⟩; have e0l := cell_lt e0; go_simp; first | exact rfl | exact ⟨rfl, rfl⟩); simp only [Act.put, List.setIfInBounds_toArray, List.set_cons_zero, List.set_cons_succ]))
   refine wpPlanLA_hard _ rfl (by rfl) (fun w3 hb3 K hK => ?_)
   have B3 := HB7.out.grow hord hb3
   have e3 := cell_at B3.kg (i := 0) rfl
   have f3 := free_at B3.kg (i := 0)
   have z3 := cell_lt e3
   have B4 := Lib.hid (B3.setc hord x0)
   have NC : (w3.setCell ⟨g, 0, none⟩ (.int .i64 x0)).cell? ⟨a2, o2, none⟩ = some (.int .i64 x0) ∧ (w3.setCell ⟨g, 0, none⟩ (.int .i64 x0)).cell? ⟨a2, o2 + 1, none⟩ = some (.int .i64 x1) := ⟨((World.cell?_of_block (a := ⟨a2, o2, none⟩) (set_far (p := ⟨g, 0, none⟩) _ hag)).trans (hb3.cell (p := ⟨a2, o2, none⟩) (cell_lt hq0))).trans hq0, ((World.cell?_of_block (a := ⟨a2, o2 + 1, none⟩) (set_far (p := ⟨g, 0, none⟩) _ hag)).trans (hb3.cell (p := ⟨a2, o2 + 1, none⟩) (cell_lt hq1))).trans hq1⟩
   clear B3 hb3 hq0 hq1
   go_simp
   refine hK _ _ NC ?_
   clear hK K e3 f3 z3 NC
   try simp only [Act.put, List.setIfInBounds_toArray, List.set_cons_zero, List.set_cons_succ]
   generalize w3.setCell ⟨g, 0, none⟩ (.int .i64 x0) = w4 at B4 ⊢
   repeat (first | (refine wpPlanLA_skip _ rfl (by rfl) ?_; simp only [Act.put, List.setIfInBounds_toArray, List.set_cons_zero, List.set_cons_succ]) | (refine wpPlanLA_softC _ ?_ rfl (by rfl) ?_ ?_; rotate_left; (intro wq ⟨e0, e1⟩; have e0l := cell_lt e0; go_simp; first | exact rfl | exact ⟨rfl, rfl⟩); simp only [Act.put, List.setIfInBounds_toArray, List.set_cons_zero, List.set_cons_succ]))
   refine wpPlanLA_last _ rfl (by rfl) (fun w5 hb5 K hK => ?_)
   have B5 := B4.out.grow hord hb5
   have e3 := cell_at B5.kg (i := 1) rfl
   have f3 := free_at B5.kg (i := 1)
   have z3 := cell_lt e3
   have B6 := Lib.hid (B5.setr hord x1)
   clear B5 hb5 B4
   go_simp
   refine hK _ _ (fun w9 hb9 => ?_)
   clear hK K e3 f3 z3
   have B9 := Lib.hid (B6.out.grow hord hb9)
   clear hb9 B6
   have e7 := cell_at B9.out.kn (i := 0) rfl
   have f7 := free_at B9.out.kn (i := 0)
   have z7 := cell_lt e7
   have HF : Hid (LinePost w2.heap.size (fun W => PI TX w r2 r3 r4 g n p (Tx.restOf st0) (Tx.restOf st0) W) (fun W => PX TX w r2 r3 r4 W) W .normal { tmps := #[], defers := [] } (w9.setCell ⟨n, 0, none⟩ (.int .i64 1))) := Lib.hid (by
    have BF := B9.out.setn hord 1
    have hl := HLEN.out (by first | exact rfl | exact trivial)
    have hb := HBND.out
    rw [hb1]
    exact ⟨BF.kf, ⟨x0, x1, st.l⟩, 1, x0.toNat, _, HST.out, fun h => (by cases h), HX0.out.1, HX0.out.2, by omega, by show st.l.length + _ ≤ _; omega, BF.here⟩)
   clear B9
   gi_wp2
   exact HF.out
  have HK0 := Lib.hid hk0
  have hke : ((k : Int) == 0) = false := by simp; omega
  have hwk : IntKind.i64.wrap ((k : Int) + 1) = ((k + 1 : Nat) : Int) := by rw [wrapI (by have := HBND.out; omega)]; simp
  clear hk0
  have H138 : Hid (∀ W, Below r2 w W → Calls Tryz.prog 138 #[.string Bd, .string { data := #[114, 111, 119] }, .int .i64 (cn : Int)] W (NQ W (Tx.nums Tx.wR cn BD) cn)) := Lib.hid (fun W hW => by rw [HBd.out]; exact c138 BD Tx.wR cn m W (by have := HLN.out; omega) (by first | decide | exact HC.out.2) (hm1.out W hW))
  have cN := cell_at HB.out.kn (i := 0) rfl
  have c0 : W.cell? ⟨g, 0, none⟩ = some (.int .i64 (cn : Int)) := by rw [← HC.out.1]; exact cell_at HB.out.kg (i := 0) rfl
  have l0 := cell_lt c0
  gi_wp2_with (refine ⟨trivial, ?_⟩; gi_at_call 137; refine (CallsIn.inRound lr (callsIn_wide.2 (H137.out _))).mono ?_; rintro e w' ⟨rfl, rfl⟩)
  refine wpIn_region_planL [(0, true), (1, true), (2, true)] W.heap.size 3 (by kernel_rfl) (by kernel_rfl) (by kernel_rfl) (fun ⟨_, _, h⟩ => h) (Nat.le_refl _) (fun _ _ d _ _ h => by cases d <;> exact h) ?_
  repeat (first | (refine wpPlanLA_skip _ rfl (by rfl) ?_; simp only [Act.put, List.setIfInBounds_toArray, List.set_cons_zero, List.set_cons_succ]) | (refine wpPlanLA_soft _ ?_ rfl (by rfl) ?_ ?_; rotate_left; (intro wq hq hcq; go_simp; first | exact rfl | exact ⟨rfl, rfl⟩); simp only [Act.put, List.setIfInBounds_toArray, List.set_cons_zero, List.set_cons_succ]))
  refine wpPlanLA_last _ rfl (by rfl) (fun w5 hS K hK => ?_)
  go_simp
  refine hK _ _ (fun w6 hb6 => ?_)
  have HB6 := Lib.hid (HB.out.grow hord (hS.call hb6 rfl))
  clear hK K hS hb6 cN c0 l0
  have cN := cell_at HB6.out.kn (i := 0) rfl
  gi_wp2_with (refine ⟨trivial, ?_⟩; gi_at_call 138; refine (CallsIn.inRound lr (callsIn_wide.2 (H138.out _ HB6.out.bel))).mono ?_)
  rintro e w7 hq
  obtain ⟨A, mq, cp, bb, rfl, hyes, hno, hb7⟩ := nq_cases hq
  have HB7 := Lib.hid (HB6.out.grow hord hb7)
  have HSZ6 := Lib.hid HB6.out.sz
  have HYES := Lib.hid hyes
  have HNO := Lib.hid hno
  clear hq hb7 hyes hno cN HB6
  have cN := cell_at HB7.out.kn (i := 0) rfl
  cases wh
  ·have HX := Lib.hid (HMISS.out rfl)
   gi_wp2
   refine wpIn_region_planC [(0, true), (1, true), (2, false), (3, false)] 4 (fun V => V.heap[n]? = some (.cells #[.int .i64 (k : Int)] 3 (0, 0))) (fun _ _ h hb => blkb h hb) HB7.out.kn (by kernel_rfl) (by kernel_rfl) (by kernel_rfl) (fun ⟨_, _, h⟩ => h) (fun _ _ d _ _ h => by cases d <;> exact h) ?_
   repeat (first | (refine wpPlanLA_skip _ rfl (by rfl) ?_; simp only [Act.put, List.setIfInBounds_toArray, List.set_cons_zero, List.set_cons_succ]) | (refine wpPlanLA_softC _ ?_ rfl (by rfl) ?_ ?_; rotate_left; (intro wq hqn; have c0 := cell_at hqn (i := 0) rfl; go_simp; first | exact rfl | exact ⟨rfl, rfl⟩); simp only [Act.put, List.setIfInBounds_toArray, List.set_cons_zero, List.set_cons_succ]))
   refine wpPlanLA_hard _ rfl (by rfl) (fun w3 hb3 K hK => ?_)
   have B3 := HB7.out.grow hord hb3
   refine wp_store_blk 35 _ _ rfl r2 z35 rfl rfl B3.k2 rfl (by kernel_rfl) (by simp [z35, Value.oneCell']) (fun w4 hz4 hg4 hs4 => ?_)
   have B4 := Lib.hid (B3.set2 hord hz4 hg4)
   refine hK _ _ B4.out.kn ?_
   clear hK K hz4 hg4 hs4 hb3 B3
   try simp only [Act.put, List.setIfInBounds_toArray, List.set_cons_zero, List.set_cons_succ]
   refine wpPlanLA_hard _ rfl (by rfl) (fun w5 hb5 K hK => ?_)
   have B5 := B4.out.grow hord hb5
   have e3 := cell_at B5.k3 (i := 0) rfl
   have f3 := free_at B5.k3 (i := 0)
   have B6 := Lib.hid (B5.set3 hord (k : Int))
   have z3 := cell_lt e3
   clear B5 hb5 B4
   go_simp
   refine hK _ _ B6.out.kn ?_
   clear hK K e3 f3 z3
   try simp only [Act.put, List.setIfInBounds_toArray, List.set_cons_zero, List.set_cons_succ]
   generalize w5.setCell ⟨r3, 0, none⟩ (.int .i64 (k : Int)) = w6 at B6 ⊢
   refine wpPlanLA_last _ rfl (by rfl) (fun w8 hb8 K hK => ?_)
   have B7 := B6.out.grow hord hb8
   have e4 := cell_at B7.k4 (i := 0) rfl
   have f4 := free_at B7.k4 (i := 0)
   have B8 := Lib.hid (B7.set4 hord 25)
   have z4 := cell_lt e4
   clear B7 hb8 B6
   go_simp
   refine hK _ _ (fun w9 hb9 => ?_)
   clear hK K e4 f4 z4
   have HF : Hid (LinePost w2.heap.size (fun W => PI TX w r2 r3 r4 g n p (Tx.restOf st0) (Tx.restOf st0) W) (fun W => PX TX w r2 r3 r4 W) W .ret { tmps := #[], defers := [] } w9) := Lib.hid (by
    have B9 := B8.out.grow hord hb9
    rw [hb1]
    exact ⟨B9.kf, _, HX.out, B9.k2, B9.k3, B9.k4, B9.bel⟩)
   clear hb9 B8
   gi_wp2
   exact HF.out
  cases bb
  ·have HX := Lib.hid ((HHIT.out rfl).1 (by unfold Tx.stepG; rw [if_neg HK0.out, HC.out.1, Int.toNat_natCast, HNO.out rfl]; rfl))
   gi_wp2
   refine wpIn_region_planC [(0, true), (1, true), (2, false), (3, false)] 4 (fun V => V.heap[n]? = some (.cells #[.int .i64 (k : Int)] 3 (0, 0))) (fun _ _ h hb => blkb h hb) HB7.out.kn (by kernel_rfl) (by kernel_rfl) (by kernel_rfl) (fun ⟨_, _, h⟩ => h) (fun _ _ d _ _ h => by cases d <;> exact h) ?_
   repeat (first | (refine wpPlanLA_skip _ rfl (by rfl) ?_; simp only [Act.put, List.setIfInBounds_toArray, List.set_cons_zero, List.set_cons_succ]) | (refine wpPlanLA_softC _ ?_ rfl (by rfl) ?_ ?_; rotate_left; (intro wq hqn; have c0 := cell_at hqn (i := 0) rfl; go_simp; first | exact rfl | exact ⟨rfl, rfl⟩); simp only [Act.put, List.setIfInBounds_toArray, List.set_cons_zero, List.set_cons_succ]))
   refine wpPlanLA_hard _ rfl (by rfl) (fun w3 hb3 K hK => ?_)
   have B3 := HB7.out.grow hord hb3
   refine wp_store_blk 35 _ _ rfl r2 z35 rfl rfl B3.k2 rfl (by kernel_rfl) (by simp [z35, Value.oneCell']) (fun w4 hz4 hg4 hs4 => ?_)
   have B4 := Lib.hid (B3.set2 hord hz4 hg4)
   refine hK _ _ B4.out.kn ?_
   clear hK K hz4 hg4 hs4 hb3 B3
   try simp only [Act.put, List.setIfInBounds_toArray, List.set_cons_zero, List.set_cons_succ]
   refine wpPlanLA_hard _ rfl (by rfl) (fun w5 hb5 K hK => ?_)
   have B5 := B4.out.grow hord hb5
   have e3 := cell_at B5.k3 (i := 0) rfl
   have f3 := free_at B5.k3 (i := 0)
   have B6 := Lib.hid (B5.set3 hord (k : Int))
   have z3 := cell_lt e3
   clear B5 hb5 B4
   go_simp
   refine hK _ _ B6.out.kn ?_
   clear hK K e3 f3 z3
   try simp only [Act.put, List.setIfInBounds_toArray, List.set_cons_zero, List.set_cons_succ]
   generalize w5.setCell ⟨r3, 0, none⟩ (.int .i64 (k : Int)) = w6 at B6 ⊢
   refine wpPlanLA_last _ rfl (by rfl) (fun w8 hb8 K hK => ?_)
   have B7 := B6.out.grow hord hb8
   have e4 := cell_at B7.k4 (i := 0) rfl
   have f4 := free_at B7.k4 (i := 0)
   have B8 := Lib.hid (B7.set4 hord 25)
   have z4 := cell_lt e4
   clear B7 hb8 B6
   go_simp
   refine hK _ _ (fun w9 hb9 => ?_)
   clear hK K e4 f4 z4
   have HF : Hid (LinePost w2.heap.size (fun W => PI TX w r2 r3 r4 g n p (Tx.restOf st0) (Tx.restOf st0) W) (fun W => PX TX w r2 r3 r4 W) W .ret { tmps := #[], defers := [] } w9) := Lib.hid (by
    have B9 := B8.out.grow hord hb9
    rw [hb1]
    exact ⟨B9.kf, _, HX.out, B9.k2, B9.k3, B9.k4, B9.bel⟩)
   clear hb9 B8
   gi_wp2
   exact HF.out
  obtain ⟨lq, hlq, rfl, hr7, hgA⟩ := HYES.out rfl
  have hlen7 := Tx.nums_length hlq
  have hnn := Tx.nums_nonneg hlq
  have hle7 := nums_le hlq
  have HST := Lib.hid ((HHIT.out rfl).2 ⟨st.c, st.r, st.l ++ lq⟩ (by unfold Tx.stepG; rw [if_neg HK0.out, HC.out.1, Int.toNat_natCast, hlq]; rfl))
  have HLQ := Lib.hid hlen7
  have HLE7 := Lib.hid hle7
  have hrow := HB7.out.row
  have hsz7 := HB7.out.sz
  have HR7 := Lib.hid hr7
  have c2 := cell_at HB7.out.kg (i := 2) rfl
  have l2 := cell_lt c2
  have hnm : st.l.length + mq ≤ 1000000 := by have := HBND.out; have := HLEN.out (by first | exact rfl | exact trivial); omega
  clear hr7 hgA hlq hnn hlen7 hle7 HYES HNO
  gi_wp2_with (gi_at_builtin; refine stopq ?_)
  unfold StopQ
  refine wpListIn_app_ints _ rfl _ _ rfl (p + 1) _ st.l.length st.l lq rfl hrow A mq cp rfl HR7.out hnm hsz7 ?_
  intro v8 w8 hown8 hg8
  have hown9 : Own w8 (p + 1) v8 (st.l ++ lq).length (encI (st.l ++ lq)) := by rw [List.length_append, HLQ.out]; exact hown8
  have B8 := Lib.hid (HB7.out.app hord hown9 hg8)
  obtain ⟨A8, c8, rfl, _⟩ := Sl.of_own hown8
  clear hown8 hg8 hown9 hrow hsz7 c2 l2 cN
  have e8 := cell_at B8.out.kg (i := 2) rfl
  have f8 := free_at B8.out.kg (i := 2)
  have z8 := cell_lt e8
  have B9 := Lib.hid (B8.out.setx hord (.slice A8 (st.l.length + mq) c8))
  have e7 := cell_at B8.out.kn (i := 0) rfl
  have f7 := free_at B8.out.kn (i := 0)
  have z7 := cell_lt e7
  have hng : n ≠ g := by obtain ⟨_, _, _, _, h, _⟩ := hord; omega
  have HF : Hid (LinePost w2.heap.size (fun W => PI TX w r2 r3 r4 g n p (Tx.restOf st0) (Tx.restOf st0) W) (fun W => PX TX w r2 r3 r4 W) W .normal { tmps := #[], defers := [] } ((w8.setCell ⟨g, 2, none⟩ (.slice A8 (st.l.length + mq) c8)).setCell ⟨n, 0, none⟩ (.int .i64 ((k + 1 : Nat) : Int)))) := Lib.hid (by
   have BF := B9.out.setn hord ((k + 1 : Nat) : Int)
   have hl := HLEN.out (by first | exact rfl | exact trivial)
   have hb := HBND.out
   have hq := HLQ.out
   have hle := HLE7.out
   rw [hb1]
   exact ⟨BF.kf, ⟨st.c, st.r, st.l ++ lq⟩, k + 1, mq, _, HST.out, fun h => (by omega), HC.out.1, HC.out.2, by omega, by rw [List.length_append]; omega, BF.here⟩)
  clear B9 hnm
  cases A8
  ·gi_wp2
   exact HF.out
  ·gi_wp2
   exact HF.out
 case done =>
  intro D W hD hI hK0
  rw [hb1] at hD
  obtain ⟨st, k, cn, x, h1, h2, h3, h4, h5, h6, hG⟩ := hI
  have hk1 : 1 ≤ k := by
   rcases Nat.eq_zero_or_pos k with h | h
   ·exact absurd (h2 h).symm HTN.out
   ·exact h
  obtain ⟨Ax, cx, rfl, hrx, hlx, hcx, _⟩ := own_form hG.row
  have hl3 : TX.length ≤ 4096 := hTXl.out
  have hK := Lib.hid hK0
  have HB := Lib.hid hG
  have hpf : Tx.prs Tx.zG 0 (Tx.split 10 TX) = if (k : Int) - 1 ≠ st.r then (Tx.zG, (k : Int), 2) else if Mo.ground st.c st.r st.l ≠ 0 then (Tx.zG, (k : Int), Mo.ground st.c st.r st.l) else (st, 0, 0) := by
   rw [h1, show Tx.split 10 ([] : List UInt8) = [[]] from rfl]
   unfold Tx.prs
   rw [if_neg (by simp; omega)]
  obtain ⟨bq, hbq⟩ : ∃ b, ((k : Int) - 1 != st.r) = b := ⟨_, rfl⟩
  obtain ⟨Gq, hGq⟩ : ∃ G, G = Mo.ground st.c st.r st.l := ⟨_, rfl⟩
  obtain ⟨E, hE⟩ : ∃ E, E = Mo.first [Mo.when bq 2, Gq] := ⟨_, rfl⟩
  have HBAD : Hid (E ≠ 0 → Tx.parseG TX = (Tx.zG, (k : Int), E)) := Lib.hid (fun h => by
   rw [HPS.out, hpf]
   cases bq
   ·have : (k : Int) - 1 = st.r := by simpa using hbq
    have he : E = Gq := by rw [hE]; by_cases hg : Gq = 0 <;> simp [Mo.first, Mo.when, hg]
    rw [if_neg (by simp [this]), if_pos (by rw [← hGq, ← he]; exact h), he, hGq]
   ·have : (k : Int) - 1 ≠ st.r := by simpa using hbq
    rw [if_pos this, hE]; rfl)
  have HOK : Hid (E = 0 → Tx.parseG TX = (st, 0, 0)) := Lib.hid (fun h => by
   rw [HPS.out, hpf]
   cases bq
   ·have : (k : Int) - 1 = st.r := by simpa using hbq
    have he : E = Gq := by rw [hE]; by_cases hg : Gq = 0 <;> simp [Mo.first, Mo.when, hg]
    rw [if_neg (by simp [this]), if_neg (by rw [← hGq, ← he, h]; simp)]
   ·rw [h] at hE; cases hE)
  have HE := Lib.hid hE
  have HGQ := Lib.hid hGq
  have HLX := Lib.hid (⟨hlx, hcx⟩ : st.l.length ≤ cx ∧ cx ≤ 9223372036854775807)
  have HSL : Hid (st.l.length ≤ 1000000) := Lib.hid (by omega)
  have hwk : IntKind.i64.wrap ((k : Int) - 1) = (k : Int) - 1 := by rw [wrapI (by omega)]
  have HRX := Lib.hid hrx
  have cN := cell_at hG.kn (i := 0) rfl
  have c0 := cell_at hG.kg (i := 0) rfl
  have c1 := cell_at hG.kg (i := 1) rfl
  have c2 := cell_at hG.kg (i := 2) rfl
  have lN := cell_lt cN
  have l0 := cell_lt c0
  clear h1 h2 h3 h4 h5 h6 hG hk1 hrx hlx hcx hl3 hpf hE hGq hK0
  go_wp2_with fail
  refine Code.wp_mono nopan_le ?_
  refine wp_region_plan [(0, true), (1, true), (2, true), (3, true), (4, true), (6, true), (5, false), (7, false), (8, false), (9, false), (10, true)] W.heap.size (by kernel_rfl) (by kernel_rfl) (Nat.le_refl _) nopan_pan ?_
  have hC : Below W.heap.size W W := Below.refl _ _
  repeat (first | (refine wpPlanA_skip _ rfl (by rfl) ?_; simp only [Act.put, List.setIfInBounds_toArray, List.set_cons_zero, List.set_cons_succ]) | (refine wpPlanA_soft _ ?_ rfl (by rfl) ?_ ?_; rotate_left; (intro wq hq hcq; go_simp; first | exact rfl | exact ⟨rfl, rfl⟩); simp only [Act.put, List.setIfInBounds_toArray, List.set_cons_zero, List.set_cons_succ]))
  refine wpPlanA_hard _ rfl (by rfl) (fun w3 hS K hK9 => ?_)
  replace hC := hC.call hS rfl
  go_simp
  refine (c94 bq 2 _).mono ?_
  rintro e w' ⟨rfl, rfl⟩
  refine hK9 _ _ hC ?_
  clear hK9 K hS
  try simp only [Act.put, List.setIfInBounds_toArray, List.set_cons_zero, List.set_cons_succ]
  repeat (first | (refine wpPlanA_skip _ rfl (by rfl) ?_; simp only [Act.put, List.setIfInBounds_toArray, List.set_cons_zero, List.set_cons_succ]) | (refine wpPlanA_soft _ ?_ rfl (by rfl) ?_ ?_; rotate_left; (intro wq hq hcq; go_simp; first | exact rfl | exact ⟨rfl, rfl⟩); simp only [Act.put, List.setIfInBounds_toArray, List.set_cons_zero, List.set_cons_succ]))
  refine wpPlanA_hard _ rfl (by rfl) (fun w4 hS K hK9 => ?_)
  replace hC := hC.call hS rfl
  go_simp
  refine (c64 st.c st.r Ax st.l.length cx st.l _ HSL.out (RdI.below HRX.out hC)).mono ?_
  rintro e w5 ⟨rfl, hb⟩
  rw [← HGQ.out]
  replace hC := hC.call hb rfl
  refine hK9 _ _ hC ?_
  clear hK9 K hS hb
  try simp only [Act.put, List.setIfInBounds_toArray, List.set_cons_zero, List.set_cons_succ]
  repeat (first | (refine wpPlanA_skip _ rfl (by rfl) ?_; simp only [Act.put, List.setIfInBounds_toArray, List.set_cons_zero, List.set_cons_succ]) | (refine wpPlanA_soft _ ?_ rfl (by rfl) ?_ ?_; rotate_left; (intro wq hq hcq; go_simp; first | exact rfl | exact ⟨rfl, rfl⟩); simp only [Act.put, List.setIfInBounds_toArray, List.set_cons_zero, List.set_cons_succ]))
  refine wpPlanA_hard _ rfl (by rfl) (fun w6 hS K hK9 => ?_)
  replace hC := hC.call hS rfl
  go_simp
  have hb : Below w6.heap.size w6 (w6.alloc (Obj.cells #[.int .i64 (Mo.when bq 2), .int .i64 Gq] 32)) := (Below.refl _ _).alloc (Nat.le_refl _) _
  have hR6 : RdS (w6.alloc (Obj.cells #[.int .i64 (Mo.when bq 2), .int .i64 Gq] 32)) 1 (some ⟨w6.heap.size, 0, none⟩) 2 (encI [Mo.when bq 2, Gq]) := RdS.of_block (cs := encI [Mo.when bq 2, Gq]) (heap_new rfl) rfl
  refine hK9 _ _ (hC.alloc hC.size _) ?_
  clear hK9 K hS
  replace hC := hC.call hb rfl
  generalize hWn : w6.alloc (Obj.cells #[.int .i64 (Mo.when bq 2), .int .i64 Gq] 32) = w7 at hC hR6 ⊢
  clear hWn hb
  generalize hWn : w6.heap.size = b6 at hR6 ⊢
  clear hWn
  try simp only [Act.put, List.setIfInBounds_toArray, List.set_cons_zero, List.set_cons_succ]
  repeat (first | (refine wpPlanA_skip _ rfl (by rfl) ?_; simp only [Act.put, List.setIfInBounds_toArray, List.set_cons_zero, List.set_cons_succ]) | (refine wpPlanA_soft _ ?_ rfl (by rfl) ?_ ?_; rotate_left; (intro wq hq hcq; go_simp; first | exact rfl | exact ⟨rfl, rfl⟩); simp only [Act.put, List.setIfInBounds_toArray, List.set_cons_zero, List.set_cons_succ]))
  refine wpPlanA_hard _ rfl (by rfl) (fun w8 hS K hK9 => ?_)
  replace hC := hC.call hS rfl
  go_simp
  refine (c89 (some ⟨b6, 0, none⟩) 2 2 [Mo.when bq 2, Gq] _ rfl (by decide) (hR6.below hS)).mono ?_
  rintro e w' ⟨rfl, rfl⟩
  rw [← HE.out]
  refine hK9 _ _ hC ?_
  clear hK9 K hS hR6
  try simp only [Act.put, List.setIfInBounds_toArray, List.set_cons_zero, List.set_cons_succ]
  repeat (first | (refine wpPlanA_skip _ rfl (by rfl) ?_; simp only [Act.put, List.setIfInBounds_toArray, List.set_cons_zero, List.set_cons_succ]) | (refine wpPlanA_soft _ ?_ rfl (by rfl) ?_ ?_; rotate_left; (intro wq hq hcq; go_simp; first | exact rfl | exact ⟨rfl, rfl⟩); simp only [Act.put, List.setIfInBounds_toArray, List.set_cons_zero, List.set_cons_succ]))
  refine wpPlanA_nil (fun w9 hS => ?_)
  refine nopan_norm ?_
  have HB9 := Lib.hid (HB.out.grow hord (hC.call hS rfl))
  clear hC hS cN c0 c1 c2 lN l0 HRX
  by_cases hE0 : E = 0
  ·subst hE0
   have HP := Lib.hid (HOK.out rfl)
   have q0 := cell_at HB9.out.kg (i := 0) rfl
   have q1 := cell_at HB9.out.kg (i := 1) rfl
   have q2 := cell_at HB9.out.kg (i := 2) rfl
   go_wp2_with (refine wpList_store_blk rfl 35 _ _ rfl r2 _ rfl rfl HB9.out.k2 ?s1 ?s2 ?s3 ?_)
   case s1 => rfl
   case s2 => exact Option.map_eq_some_iff.1 (show (Tryz.prog.info? 35).map (·.size) = some 3 by kernel_rfl)
   case s3 => simp [Value.oneCell']
   intro wa hz hg hs
   have Ba := Lib.hid (HB9.out.set2 hord hz hg)
   clear hz hg hs q0 q1 q2
   have e3 := cell_at Ba.out.k3 (i := 0) rfl
   have f3 := free_at Ba.out.k3 (i := 0)
   have e4 := cell_at Ba.out.k4 (i := 0) rfl
   have f4 := free_at Ba.out.k4 (i := 0)
   have z3 := cell_lt e3
   have z4 := cell_lt e4
   have n43 : r4 ≠ r3 := by obtain ⟨_, _, _, _, _, _⟩ := hord; omega
   have BF := Lib.hid ((Ba.out.set3 hord 0).set4 hord 0)
   go_wp2
   generalize ((wa.setCell ⟨r3, 0, none⟩ (.int .i64 0)).setCell ⟨r4, 0, none⟩ (.int .i64 0)) = wb at BF ⊢
   clear e3 f3 e4 f4 z3 z4 n43
   have hKf := BF.out.kf.same D _ (by omega) hK.out rfl
   have hDp : p + 1 ≤ D := by omega
   obtain ⟨a1, a2, a3, a4, a5, a6⟩ := hord
   have g2 := (World.putObj_heap_other (o := .deferred none) (show r2 ≠ D by omega)).trans BF.out.k2
   have g3 := (World.putObj_heap_other (o := .deferred none) (show r3 ≠ D by omega)).trans BF.out.k3
   have g4 := (World.putObj_heap_other (o := .deferred none) (show r4 ≠ D by omega)).trans BF.out.k4
   have e3 := cell_at g3 (i := 0) rfl
   have e4 := cell_at g4 (i := 0) rfl
   have hBf := BF.out.bel.grown (grownBy_putObj' _ D (.deferred none)) (by have := BF.out.sz; omega) (fun j hj => by cases hj; omega)
   have hrow := own_keepR (B := p + 1) BF.out.row (grownBy_putObj' wb D (.deferred none)) (fun r e => by cases e; exact ⟨hDp, _, hKf, rfl⟩)
   obtain ⟨A9, c9, h9, hr9, _⟩ := own_form hrow
   cases h9
   refine ⟨by simp, .inl ⟨_, _, rfl, run_takeDeferred hKf, ?_⟩⟩
   refine ⟨_, results_blk3 rfl rfl rfl rfl g2 _ Tryz.underlying35 rfl (by kernel_rfl) (x := .int .i64 0) (y := .int .i64 0) (by simp [go_sem, e3]) (by simp [go_sem, e4]), ?_⟩
   rw [HP.out]
   refine ⟨_, _, rfl, hr9, HLX.out.1, HLX.out.2, ?_⟩
   rw [a1]
   exact hBf
  ·have hEb : (E != 0) = true := by simpa using hE0
   have HP := Lib.hid (HBAD.out hE0)
   have cN := cell_at HB9.out.kn (i := 0) rfl
   clear hE0
   go_wp2_with fail
   refine Code.wp_mono nopan_le ?_
   refine wp_region_planC [(0, true), (1, true), (2, true), (3, false), (4, false)] 5 (fun V => V.heap[n]? = some (.cells #[.int .i64 (k : Int)] 3 (0, 0))) (fun _ _ h hb => blkb h hb) HB9.out.kn (by kernel_rfl) (by kernel_rfl) nopan_pan ?_
   repeat (first | (refine wpPlanLA_skip _ rfl (by rfl) ?_; simp only [Act.put, List.setIfInBounds_toArray, List.set_cons_zero, List.set_cons_succ]) | (refine wpPlanLA_softC _ ?_ rfl (by rfl) ?_ ?_; rotate_left; (intro wq hqn; have c0 := cell_at hqn (i := 0) rfl; go_simp; first | exact rfl | exact ⟨rfl, rfl⟩); simp only [Act.put, List.setIfInBounds_toArray, List.set_cons_zero, List.set_cons_succ]))
   refine wpPlanLA_hard _ rfl (by rfl) (fun w3 hb3 K hK9 => ?_)
   have B3 := HB9.out.grow hord hb3
   refine wp_store_blk 35 _ _ rfl r2 z35 rfl rfl B3.k2 rfl (by kernel_rfl) (by simp [z35, Value.oneCell']) (fun w4 hz4 hg4 hs4 => ?_)
   have B4 := Lib.hid (B3.set2 hord hz4 hg4)
   refine hK9 _ _ B4.out.kn ?_
   clear hK9 K hz4 hg4 hs4 hb3 B3
   try simp only [Act.put, List.setIfInBounds_toArray, List.set_cons_zero, List.set_cons_succ]
   refine wpPlanLA_hard _ rfl (by rfl) (fun w5 hb5 K hK9 => ?_)
   have B5 := B4.out.grow hord hb5
   have e3 := cell_at B5.k3 (i := 0) rfl
   have f3 := free_at B5.k3 (i := 0)
   have B6 := Lib.hid (B5.set3 hord k)
   have z3 := cell_lt e3
   clear B5 hb5 B4
   go_simp
   refine hK9 _ _ B6.out.kn ?_
   clear hK9 K e3 f3 z3
   try simp only [Act.put, List.setIfInBounds_toArray, List.set_cons_zero, List.set_cons_succ]
   generalize w5.setCell ⟨r3, 0, none⟩ (.int .i64 k) = w6 at B6 ⊢
   refine wpPlanLA_last _ rfl (by rfl) (fun w8 hb8 K hK9 => ?_)
   have B7 := B6.out.grow hord hb8
   have e4 := cell_at B7.k4 (i := 0) rfl
   have f4 := free_at B7.k4 (i := 0)
   have B8 := Lib.hid (B7.set4 hord E)
   have z4 := cell_lt e4
   clear B7 hb8 B6
   go_simp
   refine hK9 _ _ (fun wb hb9 => ?_)
   refine nopan_norm ?_
   clear hK9 K e4 f4 z4
   have BF := Lib.hid (B8.out.grow hord hb9)
   clear hb9 B8
   go_wp2
   have hKf := BF.out.kf.same D _ (by omega) hK.out rfl
   have hDp : p + 1 ≤ D := by omega
   obtain ⟨a1, a2, a3, a4, a5, a6⟩ := hord
   have g2 := (World.putObj_heap_other (o := .deferred none) (show r2 ≠ D by omega)).trans BF.out.k2
   have g3 := (World.putObj_heap_other (o := .deferred none) (show r3 ≠ D by omega)).trans BF.out.k3
   have g4 := (World.putObj_heap_other (o := .deferred none) (show r4 ≠ D by omega)).trans BF.out.k4
   have e3 := cell_at g3 (i := 0) rfl
   have e4 := cell_at g4 (i := 0) rfl
   have hBf := BF.out.bel.grown (grownBy_putObj' _ D (.deferred none)) (by have := BF.out.sz; omega) (fun j hj => by cases hj; omega)
   refine ⟨by simp, .inl ⟨_, _, rfl, run_takeDeferred hKf, ?_⟩⟩
   refine ⟨_, results_blk3 rfl rfl rfl rfl g2 _ Tryz.underlying35 rfl (by kernel_rfl) (x := .int .i64 k) (y := .int .i64 E) (by simp [go_sem, e3]) (by simp [go_sem, e4]), PG.zero HP.out ?_⟩
   rw [a1]
   exact hBf
 case stop =>
  intro D W hD hX hK
  obtain ⟨i, hi, h2, h3, h4, h5⟩ := hX
  rw [hb1] at hD
  obtain ⟨a1, a2, a3, a4, a5, a6⟩ := hord
  have g2 := (World.putObj_heap_other (o := .deferred none) (show r2 ≠ D by omega)).trans h2
  have g3 := (World.putObj_heap_other (o := .deferred none) (show r3 ≠ D by omega)).trans h3
  have g4 := (World.putObj_heap_other (o := .deferred none) (show r4 ≠ D by omega)).trans h4
  have e3 := cell_at g3 (i := 0) rfl
  have e4 := cell_at g4 (i := 0) rfl
  have hBf := h5.grown (grownBy_putObj' _ D (.deferred none)) (by have := (Array.getElem?_eq_some_iff.1 h2).1; omega) (fun j hj => by cases hj; omega)
  have HP : Hid (Tx.parseG TX = (Tx.zG, i, 25)) := Lib.hid (HPS.out.trans hi)
  have HG2 := Lib.hid g2
  have hKh := Lib.hid hK
  have HBf := Lib.hid hBf
  clear h2 h3 h4 h5 hi g2 g3 g4 hBf hK
  gi_wp2
  refine ⟨by simp, .inl ⟨_, _, rfl, run_takeDeferred hKh.out, ?_⟩⟩
  refine ⟨_, results_blk3 rfl rfl rfl rfl HG2.out _ Tryz.underlying35 rfl (by kernel_rfl) (x := .int .i64 i) (y := .int .i64 25) (by simp [go_sem, e3]) (by simp [go_sem, e4]), PG.zero HP.out ?_⟩
  rw [a1]
  exact HBf.out
end Go.Proofs.YtdimmlljjmmdbaaGreatDoor
namespace Go.Proofs.YtdimmlljjmmdbaaGreatDoor
open Go.RowKit
set_option maxHeartbeats 4000000
set_option maxRecDepth 20000
/-- Itoa at x, in any world that has grown out of w -/
def ItoaF (f : Int → ByteArray) (w : World) (x : Int) : Prop := ∀ W, Below w.heap.size w W → Calls Tryz.prog 162 #[.int .i64 x] W fun e w' => e = .returned (.string (f x)) ∧ Below W.heap.size W w'
theorem ItoaF.below {f : Int → ByteArray} {w W : World} {x : Int} (h : ItoaF f w x) (hB : Below w.heap.size w W) : ItoaF f W x := fun W' hB' => h W' (hB.call hB' rfl)
theorem c161w (A : Option Addr) (n cap : Nat) (l : List Int) (f : Int → ByteArray) (w : World) (hl : n ≤ 1000000) (H : RdI w A n l)
  (hcl : ∀ x ∈ l, ItoaF f w x) :
  Calls Tryz.prog 161 #[.slice A n cap, .func (.func 162) #[] #[]] w fun en w' => ∃ A' cap', en = .returned (.slice A' n cap') ∧ RdS w' 1 A' n (encS (l.map f)) ∧ Below w.heap.size w w' := by
 have Hn := Lib.hid H.len
 have Hcl := Lib.hid hcl
 have hmm : encS (l.map f) = l.map fun x => Value.string (f x) := by simp [encS]
 have Hm := Lib.hid hmm
 clear hcl hmm
 obtain ⟨i0, hi, hz0, hz1, hz2⟩ := info_parts info9
 go_enter Tryz.func161, Tryz.ntmps161
 go_wp2
 go_loopw [5, 10] (fun x i wr => ∃ k : Nat, k ≤ n ∧ i = .int .i64 k ∧ wr.ownsRow w.heap.size 9 1 x k ((l.map fun x => Value.string (f x)).take k) ∧ Below w.heap.size w wr) (fun _ i _ => n - (intOf i).toNat)
 case atStart => exact ⟨0, Nat.zero_le _, rfl, World.ownsRow_nil _ _ _ _, Below.refl _ _⟩
 case round =>
  obtain ⟨k, hk, rfl, hown, hB⟩ := hrel
  by_cases hlt : k < n
  ·obtain ⟨b, off, x, rfl, hx, hb, h0⟩ := (H.below hB).at hlt
   have Hx := Lib.hid hx
   have htk : (l.map fun x => Value.string (f x)).take (k + 1) = (l.map fun x => Value.string (f x)).take k ++ [Value.string (f x)] := by rw [List.take_add_one, List.getElem?_map, hx]; simp
   have HTK := Lib.hid htk
   clear hx htk
   go_wp2_with fail
   refine (Hcl.out x (List.mem_of_getElem? Hx.out) _ hB).mono ?_
   rintro e w2 ⟨rfl, hb2⟩
   replace hown := own_below hown hb2
   replace hB := hB.call hb2 rfl
   clear hb2 h0 hb
   have hsz := hB.size
   go_wp2_with (at_builtin; refine wpList_append_own _ rfl _ _ 140 rfl w.heap.size 9 i0 (.string ByteArray.empty) 1 16 Tryz.underlying140 hi hz0 hz1 hz2 rfl (by decide) _ _ _ rfl (hown.alloc _) ⟨w2.heap.size, 0, none⟩ 1 1 [Value.string (f x)] rfl rfl (news_one _ _ rfl) (fun x hx => by rw [List.mem_singleton.1 hx]; rfl) (by unfold maxLen; omega) (by omega) (by simp; omega) ?_)
   intro x' w3 hown3 hg3 _
   have hB3 : Below w.heap.size w w3 := (hB.alloc hsz _).grown hg3 (by simp; omega) (fun g hg => (hown.lt g hg).1)
   rw [← HTK.out] at hown3
   have HO := Lib.hid hown3
   clear hown3 hg3 hown
   go_wp2
   go_roundw
   case rel => exact ⟨k + 1, by omega, by go_num, HO.out, hB3⟩
   case measure => simp [intOf]; omega
  ·obtain rfl : n = k := by omega
   rw [List.take_of_length_le (by rw [List.length_map, Hn.out]; exact Nat.le_refl _)] at hown
   have HO := Lib.hid hown
   clear hown
   go_wp2
   go_ret
   obtain ⟨A', cap', rfl, hr⟩ := Sl.of_own HO.out
   exact ⟨A', cap', rfl, by rw [Hm.out]; exact hr, hB⟩
theorem c134w (word : ByteArray) (A : Option Addr) (n cap : Nat) (l : List Int) (f : Int → ByteArray) (w : World) (hl : n ≤ 1000000) (H : RdI w A n l)
  (hcl : ∀ x ∈ l, ItoaF f w x)
  (hlen : (Lib.join ((word :: l.map f).map (·.data.toList)) [32]).length ≤ 1000000) :
  Calls Tryz.prog 134 #[.string word, .slice A n cap] w fun en w' => en = .returned (.string (lineB word (l.map f))) ∧ Below w.heap.size w w' := by
 obtain ⟨w0, hW⟩ : ∃ W, W = w.alloc (Obj.cells #[.string word] 9) := ⟨_, rfl⟩
 have hB0 : Below w.heap.size w w0 := by rw [hW]; exact (Below.refl _ _).alloc (Nat.le_refl _) _
 have hown : w0.ownsRow w.heap.size 9 1 (.slice (some ⟨w.heap.size, 0, none⟩) 1 1) 1 [.string word] := ⟨rfl, .inr ⟨w.heap.size, 1, #[.string word], rfl, Nat.le_refl _, by rw [hW]; exact heap_new rfl, Nat.le_refl _, by unfold maxLen; omega, rfl, rfl⟩⟩
 have Hcl := Lib.hid hcl
 have HLN := Lib.hid H.len
 have H0 := H.below hB0
 have HLE := Lib.hid hlen
 clear hcl hlen H
 go_enter Tryz.func134, Tryz.ntmps134
 go_wp2_with fail
 rw [← hW]
 clear hW
 refine (c161w A n cap l f _ hl H0 (fun x hx => (Hcl.out x hx).below hB0)).mono ?_
 rintro e w1 ⟨A1, cap1, rfl, hr1, hb1⟩
 have hown1 := own_below hown hb1
 have hB1 := hB0.call hb1 rfl
 have hsz := hB1.size
 have H140 := Tryz.underlying140
 clear hown hb1 H0 hB0
 go_wp2_with (at_builtin; refine wpList_plain rfl fun K hK => wp_app1 _ _ 140 rfl w.heap.size 9 (.string ByteArray.empty) 16 Tryz.underlying140 info9 rfl (by decide) _ 1 [.string word] (encS (l.map f)) rfl hown1 A1 n cap1 rfl hr1 (fun u hu => by simp [encS] at hu; obtain ⟨y, _, rfl⟩ := hu; rfl) (by omega) hsz (fun v' w2 h2 h3 => ?_); obtain ⟨A2, cap2, rfl, hr2, hc2, _⟩ := own_form h2; refine hK _ _ (stopq ?_))
 unfold StopQ
 obtain ⟨bk, off, rfl, hbk, hcs⟩ := hr2.2 (by omega)
 obtain ⟨xs, hxs⟩ : ∃ xs, xs = word :: l.map f := ⟨_, rfl⟩
 have hxl : xs.length = 1 + n := by rw [hxs]; simp [HLN.out]; omega
 have hen : encS xs = [.string word] ++ encS (l.map f) := by rw [hxs]; rfl
 have hcells : ∀ (j : Nat) x, xs[j]? = some x → w2.cell? ⟨bk, off + j, none⟩ = some (.string x) := fun j x hx => by
  have hj : j < xs.length := by
   by_cases h : j < xs.length
   ·exact h
   ·rw [List.getElem?_eq_none (by omega)] at hx; cases hx
  have h1 := hcs j (by rw [← hen]; simp [encS]; exact hj)
  rw [h1, ← hen]
  simp [encS, hx]
 have hbb := hB1.grown h3 hsz (fun g hg => by cases hg; exact Nat.le_refl _)
 have HJL := HLE.out
 have HXS := Lib.hid hxs
 rw [← hxs] at HJL
 have HBB := Lib.hid hbb
 rw [← hxl]
 rw [← hxl] at hc2
 have hN : xs.length ≤ 140737488355328 := by omega
 clear hr2 hcs hen h2 h3 hown1 hr1 hbb hxs hxl
 go_wp2_with fail
 refine (Tryz.strings_Join bk off cap2 xs ⟨#[32]⟩ _ hcells hbk hN hc2 (Nat.le_trans HJL (by decide))).mono ?_
 rintro e w3 ⟨rfl, hb3⟩
 have HB3 : Hid (Below w.heap.size w w3) := Lib.hid (HBB.out.call hb3 rfl)
 clear hb3 hcells
 go_wp2
 go_ret
 exact ⟨by unfold lineB; rw [← HXS.out]; rfl, HB3.out⟩
end Go.Proofs.YtdimmlljjmmdbaaGreatDoor
namespace Go.Proofs.YtdimmlljjmmdbaaGreatDoor
open Go.RowKit Go.Shelf
set_option maxHeartbeats 8000000
set_option maxRecDepth 100000
attribute [local go_sem] Oper.semAt_some
theorem c81w (c r b off n cap : Nat) (l : List Int) (f : Int → ByteArray) (w : World) (g : Im.Gr c r l) (hc : c ≤ 16) (hr : r ≤ 16) (hcap : n ≤ cap) (H : RdI w (some ⟨b, off, none⟩) n l)
  (hcl : ∀ x ∈ (c : Int) :: (r : Int) :: l, ItoaF f w x) (hf : ∀ x ∈ (c : Int) :: (r : Int) :: l, (f x).size ≤ 20) :
  Calls Tryz.prog 81 #[.agg #[.int .i64 c, .int .i64 r, .slice (some ⟨b, off, none⟩) n cap]] w fun en w' => en = .returned (.tuple #[.string (prT f c l (lineB { data := #[103, 114, 111, 117, 110, 100] } [f c, f r]) r), .int .i64 0]) ∧ Below w.heap.size w w' := by
 have hln := H.len
 have hcl1 := g.c1
 have hlr := g.len
 have h256 : c * r ≤ 256 := Nat.mul_le_mul hc hr
 have hz := Mo.ground_of g hc hr
 obtain ⟨T0, hT00⟩ : ∃ T, T = lineB { data := #[103, 114, 111, 117, 110, 100] } [f c, f r] := ⟨_, rfl⟩
 rw [← hT00]
 have HT00 := Lib.hid hT00
 clear hT00
 refine (callsIn_wide (n := 6)).1 ?_
 refine callsIn_of_wp_marks Tryz.func81 rfl trivial ?_ rfl
 refine wpIn_wide.2 ?_
 simp only [Tryz.ntmps81, List.size_toArray, List.length_cons, List.length_nil, Nat.reduceAdd, Nat.reduceSub, Array.replicate_succ, Array.replicate_zero, List.push_toArray, List.append_toArray, List.nil_append, List.cons_append]
 obtain ⟨w0, hW⟩ : ∃ W, W = w.alloc (Obj.cells #[.int .i64 c, .int .i64 r, .slice (some ⟨b, off, none⟩) n cap] 35) := ⟨_, rfl⟩
 have hT0 : w0.heap[w.heap.size]? = some (.cells #[.int .i64 c, .int .i64 r, .slice (some ⟨b, off, none⟩) n cap] 35 (0, 0)) := by rw [hW]; exact heap_new (by simp)
 have hB0 : Below w.heap.size w w0 := by rw [hW]; exact (Below.refl _ _).alloc (Nat.le_refl _) _
 have H0 := H.below hB0
 have HCL := Lib.hid hcl
 have HF := Lib.hid hf
 have HG := Lib.hid hlr
 have HLN := Lib.hid hln
 have HRD := Lib.hid H
 clear hcl hf hlr H hln
 go_wp2_with fail
 rw [← hW]
 clear hW
 refine (c64 c r (some ⟨b, off, none⟩) n cap l _ (by have := HG.out; have := HLN.out; omega) H0).mono ?_
 rintro e w1 ⟨rfl, hb1⟩
 rw [hz]
 have hB1 := hB0.call hb1 rfl
 have H1 := H0.below hb1
 replace hT0 := blkb hT0 hb1
 have q0 : w1.cell? ⟨w.heap.size, 0, none⟩ = some (.int .i64 c) := cell_at hT0 rfl
 have q1 : w1.cell? ⟨w.heap.size, 1, none⟩ = some (.int .i64 r) := cell_at hT0 rfl
 clear hb1 hB0 H0
 go_wp2_with fail
 obtain ⟨w2, hW⟩ : ∃ W, W = w1.alloc (Obj.cells #[.int .i64 c, .int .i64 r] 3) := ⟨_, rfl⟩
 have hTs : w2.heap[w1.heap.size]? = some (.cells #[.int .i64 c, .int .i64 r] 3 (0, 0)) := by rw [hW]; exact heap_new (by simp)
 have hb2 : Below w1.heap.size w1 w2 := by rw [hW]; exact (Below.refl _ _).alloc (Nat.le_refl _) _
 rw [← hW]
 clear hW
 have hB2 := hB1.call hb2 rfl
 have H2 := H1.below hb2
 replace hT0 := blkb hT0 hb2
 clear hb2 hB1 H1 q0 q1
 have HT := line_len { data := #[103, 114, 111, 117, 110, 100] } f [(c : Int), (r : Int)] (by decide) (by simp) (fun x hx => HF.out x (by simp at hx ⊢; omega))
 refine (c134w { data := #[103, 114, 111, 117, 110, 100] } (some ⟨w1.heap.size, 0, none⟩) 2 2 [(c : Int), (r : Int)] f _ (by omega) (RdS.of_block (cs := encI [(c : Int), (r : Int)]) hTs rfl) (fun x hx => (HCL.out x (by simp at hx ⊢; omega)).below hB2) HT).mono ?_
 rintro e w3 ⟨rfl, hb3⟩
 clear hTs
 have hB3 := hB2.call hb3 rfl
 have H3 := H2.below hb3
 replace hT0 := blkb hT0 hb3
 clear hb3 hB2 H2
 have HTS : Hid (T0.size ≤ 1000001) := Lib.hid (by rw [HT00.out, lineB_size]; exact Nat.succ_le_succ HT)
 rw [show lineB { data := #[103, 114, 111, 117, 110, 100] } ([(c : Int), (r : Int)].map f) = T0 from HT00.out.symm]
 clear HT
 have q0 : w3.cell? ⟨w.heap.size, 0, none⟩ = some (.int .i64 c) := cell_at hT0 rfl
 have q2 : w3.cell? ⟨w.heap.size, 2, none⟩ = some (.slice (some ⟨b, off, none⟩) n cap) := cell_at hT0 rfl
 have hlw := cell_lt q0
 go_wp2_with fail
 refine (c135 b off n cap c hcl1 _).mono ?_
 rintro e w4 ⟨rfl, hw4⟩
 obtain ⟨ob, hob⟩ : ∃ b, b = w3.heap.size := ⟨_, rfl⟩
 obtain ⟨p1, hp1⟩ : ∃ b, b = ob + 1 := ⟨_, rfl⟩
 obtain ⟨p2, hp2⟩ : ∃ b, b = ob + 1 + 1 := ⟨_, rfl⟩
 have hs1 : (w3.alloc (Obj.cells #[.string T0] 9)).heap.size = p1 := by simp; omega
 rw [hs1, show p1 + 1 = p2 by omega]
 have k0 : w4.heap[ob]? = some (.cells #[.string T0] 9 (0, 0)) := by rw [hw4]; exact heap_old (by simp; omega) (heap_old (by simp; omega) (heap_new hob))
 have k1 : w4.heap[p1]? = some (.cells #[.slice (some ⟨b, off, none⟩) n cap] 22 (0, 0)) := by rw [hw4]; exact heap_old (by simp; omega) (heap_new hs1.symm)
 have k2 : w4.heap[p2]? = some (.cells #[.int .i64 c] 3 (0, 0)) := by rw [hw4]; exact heap_new (by simp; omega)
 have hb4 : Below w3.heap.size w3 w4 := by rw [hw4]; exact (below2 _ _ _).alloc (by simp; omega) _
 have hB4 := hB3.call hb4 rfl
 have hsz := hB4.size
 have HWO : Hid (w.heap.size ≤ ob) := Lib.hid (by rw [hob]; exact hB3.size)
 obtain ⟨bs, hbs⟩ : ∃ bs : ByteArray → List (Nat × Array Value × TypeId), bs = fun T => [(ob, #[.string T], 9), (p1, #[.slice (some ⟨b, off, none⟩) n cap], 22), (p2, #[.int .i64 c], 3)] := ⟨_, rfl⟩
 have I0 : BI w [] (bs T0) True w4 := by
  refine ⟨Marks.nil _ _, fun x hx => ?_, hB4, trivial⟩
  rw [hbs] at hx
  simp only [List.mem_cons, List.not_mem_nil, or_false] at hx
  rcases hx with rfl | rfl | rfl
  ·exact k0
  ·exact k1
  ·exact k2
 rw [← hob]
 have HBS := Lib.hid hbs
 have HR0 : Hid (RdI w (some ⟨b, off, none⟩) n l) := HRD
 have hob2 := Lib.hid (⟨by omega, by omega⟩ : p1 ≠ ob ∧ p2 ≠ ob)
 have hord := Lib.hid hsz
 clear hw4 hs1 hp1 hp2 hob k0 k1 k2 hb4 hB4 hB3 H3 hT0 q0 q2 hbs
 go_wp2
 have HNR : Hid (n = r * c) := Lib.hid (by rw [← HLN.out, HG.out, Nat.mul_comm])
 refine (wpIn_wide (n := 6)).1 ?_
 refine wpIn_chunks (n := 6) (by omega) (p1 := p1) (p2 := p2) (b := b) (off := off) (cap := cap) (N := n) (c := c) (r := r) hcl1 (by omega) (by omega) HNR.out hcap rfl rfl (fun k W => BI w [] (bs (prT f c l T0 k)) True W)
  (fun k => BI.own hsz (fun _ h => by cases h))
  (fun k W h => ⟨cell_at (h.blk (p1, #[.slice (some ⟨b, off, none⟩) n cap], 22) (by rw [HBS.out]; simp)) rfl, cell_at (h.blk (p2, #[.int .i64 c], 3) (by rw [HBS.out]; simp)) rfl⟩) I0
  (fun k => { tmps := #[.agg #[.int .i64 c, .int .i64 r, .slice (some ⟨b, off, none⟩) n cap], .pointer (some ⟨w.heap.size, 0, none⟩), .string { data := #[] }, .int .i64 0, .int .i64 0, .pointer (some ⟨ob, 0, none⟩), .slice (some ⟨b, off + k * c, none⟩) c c, .agg #[.int .i64 c, .int .i64 r, .slice (some ⟨b, off, none⟩) n cap], .int .i64 0, .int .i64 0, .bool false, undef, .pointer (some ⟨w.heap.size, 0, none⟩), .int .i64 c, .pointer (some ⟨w.heap.size, 1, none⟩), .int .i64 r, .slice (some ⟨w1.heap.size, 0, none⟩) 2 2, .string T0, .pointer (some ⟨w.heap.size, 2, none⟩), .slice (some ⟨b, off, none⟩) n cap, .pointer (some ⟨w.heap.size, 0, none⟩), .int .i64 c, .func (.func 163) #[] #[.pointer (some ⟨p1, 0, none⟩), .pointer (some ⟨p2, 0, none⟩)], .slice (some ⟨b, off + k * c, none⟩) c c, undef, undef, undef, undef, undef], defers := [] }) ?assign ?body ?done
 case assign =>
  intro lr k W K hK
  have HK := Lib.hid hK
  clear hK
  gi_wp2
  exact HK.out
 case done =>
  intro D W hD hI hK
  have k0 : W.heap[ob]? = some (.cells #[.string (prT f c l T0 r)] 9 (0, 0)) := hI.blk (ob, _, _) (by rw [HBS.out]; simp)
  have c0 : W.cell? ⟨ob, 0, none⟩ = some (.string (prT f c l T0 r)) := cell_at k0 rfl
  have hM : Marks w.heap.size [D] W := (Marks.nil _ w).push (Marks.nil _ W) (Nat.le_refl _) (Nat.le_trans hord.out hD) hK
  have HM := Lib.hid hM
  have HI := Lib.hid hI
  clear hI hM hK
  go_wp2
  refine leaves_marks [D] W W HM.out (Aft.refl _ _) rfl (fun w' ha => ?_)
  refine ⟨.tuple #[.string (prT f c l T0 r), .int .i64 0], by simp [results, Tryz.results81, go_sem], ?_⟩
  exact ⟨rfl, ha.2 w HI.out.bel.size HI.out.bel⟩
 case body =>
  intro lr k W hk hsz2 hI
  have k0 : W.heap[ob]? = some (.cells #[.string (prT f c l T0 k)] 9 (0, 0)) := hI.blk (ob, _, _) (by rw [HBS.out]; simp)
  have c0 : W.cell? ⟨ob, 0, none⟩ = some (.string (prT f c l T0 k)) := cell_at k0 rfl
  have f0 := free_at k0 (i := 0)
  have l0 := cell_lt c0
  have HRW := HR0.out.below hI.bel
  have HI := Lib.hid hI
  have HK0 := Lib.hid k0
  obtain ⟨T1, hT1⟩ : ∃ T, T = prT f c l T0 k := ⟨_, rfl⟩
  rw [← hT1] at c0
  have HT1 := Lib.hid hT1
  have hkc : k * c + c ≤ n := by
   rw [HNR.out]
   have : (k + 1) * c ≤ r * c := Nat.mul_le_mul hk (Nat.le_refl _)
   rw [Nat.add_mul] at this
   omega
  have hseg : Hid (RdI W (some ⟨b, off + k * c, none⟩) c (Im.rowK c l k)) := Lib.hid (HRW.seg (k * c) c hkc)
  have hmem : Hid (∀ x ∈ Im.rowK c l k, x ∈ (c : Int) :: (r : Int) :: l) := Lib.hid (fun x hx => by
   have := List.mem_of_mem_drop (List.mem_of_mem_take hx)
   simp [this])
  have HLC : Hid ((Lib.join (({ data := #[114, 111, 119] } :: (Im.rowK c l k).map f).map (·.data.toList)) [32]).length ≤ 1000000) := Lib.hid (line_len _ f _ (by decide) (by have := hseg.out.len; omega) (fun x hx => HF.out x (hmem.out x hx)))
  clear hI k0 hT1 HRW
  gi_wp2
  refine wpIn_region_planL [(0, true), (1, true), (2, false), (3, false)] W.heap.size 4 (by kernel_rfl) (by kernel_rfl) (by kernel_rfl) (fun ⟨_, _, h⟩ => h) (Nat.le_refl _) (fun _ _ d _ _ h => by cases d <;> exact h) ?_
  have hC : Below W.heap.size W W := Below.refl _ _
  repeat (first | (refine wpPlanLA_skip _ rfl (by rfl) ?_; simp only [Act.put, List.setIfInBounds_toArray, List.set_cons_zero, List.set_cons_succ]) | (refine wpPlanLA_soft _ ?_ rfl (by rfl) ?_ ?_; rotate_left; (intro wq hq hcq; go_simp; first | exact rfl | exact ⟨rfl, rfl⟩); simp only [Act.put, List.setIfInBounds_toArray, List.set_cons_zero, List.set_cons_succ]))
  refine wpPlanLA_hard _ rfl (by rfl) (fun w5 hS K hK => ?_)
  replace hC := hC.call hS rfl
  clear hS
  go_simp
  refine (c134w { data := #[114, 111, 119] } (some ⟨b, off + k * c, none⟩) c c (Im.rowK c l k) f _ (by omega) (hseg.out.below hC) (fun x hx => (HCL.out x (hmem.out x hx)).below (HI.out.bel.call hC rfl)) HLC.out).mono ?_
  rintro e w6 ⟨rfl, hb⟩
  replace hC := hC.call hb rfl
  clear hb
  refine hK _ _ hC ?_
  clear hK K
  try simp only [Act.put, List.setIfInBounds_toArray, List.set_cons_zero, List.set_cons_succ]
  refine wpPlanLA_hard _ rfl (by rfl) (fun w5 hS K hK => ?_)
  replace hC := hC.call hS rfl
  clear hS
  go_simp
  obtain ⟨LN, hLN⟩ : ∃ L, L = lineB { data := #[114, 111, 119] } ((Im.rowK c l k).map f) := ⟨_, rfl⟩
  have hsz7 : ¬ (9223372036854775807 < T1.size + LN.size) := by
   have h1 := prT_size f c l T0 (fun x hx => HF.out x (by simp [hx])) (by omega) k
   have h2 := HLC.out
   have h3 := HTS.out
   rw [hLN, lineB_size, HT1.out]
   omega
  rw [← hLN, if_neg hsz7]
  have HLNE := Lib.hid hLN
  clear hLN hsz7
  dsimp only [Oper.upon]
  refine hK _ _ hC ?_
  clear hK K
  try simp only [Act.put, List.setIfInBounds_toArray, List.set_cons_zero, List.set_cons_succ]
  refine wpPlanLA_last _ rfl (by rfl) (fun w7 hS K hK => ?_)
  replace hC := hC.call hS rfl
  clear hS
  have k7 := blkb HK0.out hC
  have f7 := free_at k7 (i := 0)
  have l7 := cell_lt (cell_at k7 (i := 0) rfl)
  have c7 := cell_at k7 (i := 0) rfl
  have HC := Lib.hid hC
  clear hC
  go_simp
  try dsimp only [Oper.upon]
  refine hK _ _ (fun w8 hb8 => ?_)
  have hkk : KeepsFrom w4.heap.size W w8 := ((keepsF_below HC.out).trans (keepsF_set _ k7)).trans (keepsF_below hb8)
  have h7 := (HI.out.below HC.out).set (b := ob) (bs' := bs (prT f c l T0 (k + 1))) (.string (T1 ++ LN)) HWO.out k7 (fun x hx => by
   rw [HBS.out] at hx ⊢
   simp only [List.mem_cons, List.not_mem_nil, or_false] at hx
   obtain ⟨hn1, hn2⟩ := hob2.out
   rcases hx with rfl | rfl | rfl
   ·exact .inl ⟨rfl, by rw [HT1.out, HLNE.out]; rfl, rfl⟩
   ·exact .inr ⟨hn1, by simp⟩
   ·exact .inr ⟨hn2, by simp⟩)
  exact ⟨hkk, h7.below hb8⟩
end Go.Proofs.YtdimmlljjmmdbaaGreatDoor
namespace Go.Proofs.YtdimmlljjmmdbaaGreatDoor
open Go.RowKit
set_option maxHeartbeats 16000000
set_option maxRecDepth 100000
namespace Tx
open Lib
def pT (c r : Nat) (l : List Int) (k : Nat) : List UInt8 := txtL (rowL wG [(c : Int), (r : Int)] :: rws c k l)
def pI (c r : Nat) (l : List Int) (k j : Nat) : List UInt8 := pT c r l k ++ wR ++ rowX ((Im.rowK c l k).take j)
theorem pT_succ (c r : Nat) (l : List Int) (k : Nat) : pT c r l (k + 1) = pI c r l k c ++ [10] := by
 unfold pI pT
 rw [rws_snoc, List.take_of_length_le (by unfold Im.rowK; rw [List.length_take]; omega), ← List.cons_append, txtL_snoc]
 simp [rowL]
theorem tx_size {x : Int} (h : 0 ≤ x ∧ x < 1000) : (tx x).size ≤ 3 := by
 have := dec_len x.toNat 2 (by omega)
 show (decDigits x.toNat).toArray.size ≤ 3
 simpa using this
theorem ls_size (L : List UInt8) : (⟨L.toArray⟩ : ByteArray).size = L.length := by simp [ByteArray.size]
end Tx
end Go.Proofs.YtdimmlljjmmdbaaGreatDoor
namespace Go.Proofs.YtdimmlljjmmdbaaGreatDoor
open Go.RowKit Go.Shelf
set_option maxHeartbeats 8000000
set_option maxRecDepth 100000
theorem c70_eq (c r : Int) (A B : Option Addr) (n cap cap2 : Nat) (l : List Int) (w : World) (hl : n ≤ 1000000) (H : RdI w A n l) (G : RdI w B n l) :
  Calls Tryz.prog 70 #[.agg #[.int .i64 c, .int .i64 r, .slice A n cap], .agg #[.int .i64 c, .int .i64 r, .slice B n cap2]] w fun en w' => en = .returned (.bool true) ∧ Below w.heap.size w w' := by
 obtain ⟨w0, hW⟩ : ∃ W, W = (w.alloc (Obj.cells #[.int .i64 c, .int .i64 r, .slice A n cap] 24)).alloc (Obj.cells #[.int .i64 c, .int .i64 r, .slice B n cap2] 24) := ⟨_, rfl⟩
 have hT0 : w0.heap[w.heap.size]? = some (.cells #[.int .i64 c, .int .i64 r, .slice A n cap] 24 (0, 0)) := by rw [hW]; exact heap_old (by simp <;> omega) (heap_new (by simp))
 have hT1 : w0.heap[w.heap.size + 1]? = some (.cells #[.int .i64 c, .int .i64 r, .slice B n cap2] 24 (0, 0)) := by rw [hW]; exact heap_new (by simp)
 have hB0 : Below w.heap.size w w0 := by rw [hW]; exact (((Below.refl _ _).alloc (by first | omega | (simp <;> omega)) _).alloc (by first | omega | (simp <;> omega)) _)
 replace H := H.below hB0
 replace G := G.below hB0
 go_enter Tryz.func70, Tryz.ntmps70
 go_wp2_with fail
 rw [← hW]
 clear hW
 have qhT0_0 : w0.cell? ⟨w.heap.size, 0, none⟩ = some (.int .i64 c) := cell_at hT0 rfl
 have qhT0_1 : w0.cell? ⟨w.heap.size, 1, none⟩ = some (.int .i64 r) := cell_at hT0 rfl
 have qhT0_2 : w0.cell? ⟨w.heap.size, 2, none⟩ = some (.slice A n cap) := cell_at hT0 rfl
 have qhT1_0 : w0.cell? ⟨w.heap.size + 1, 0, none⟩ = some (.int .i64 c) := cell_at hT1 rfl
 have qhT1_1 : w0.cell? ⟨w.heap.size + 1, 1, none⟩ = some (.int .i64 r) := cell_at hT1 rfl
 have qhT1_2 : w0.cell? ⟨w.heap.size + 1, 2, none⟩ = some (.slice B n cap2) := cell_at hT1 rfl
 go_wp2_with fail
 refine (c30 A B n n cap cap2 l l _ hl hl H G).mono ?_
 rintro e w1 ⟨rfl, hb⟩
 clear qhT0_0 qhT0_1 qhT0_2 qhT1_0 qhT1_1 qhT1_2
 have hS := hb
 have hB1 := hB0.call hS rfl
 replace hT0 := blkb hT0 hS
 replace hT1 := blkb hT1 hS
 replace H := H.below hS
 replace G := G.below hS
 clear hS hB0
 have qhT0_0 : w1.cell? ⟨w.heap.size, 0, none⟩ = some (.int .i64 c) := cell_at hT0 rfl
 have qhT0_1 : w1.cell? ⟨w.heap.size, 1, none⟩ = some (.int .i64 r) := cell_at hT0 rfl
 have qhT0_2 : w1.cell? ⟨w.heap.size, 2, none⟩ = some (.slice A n cap) := cell_at hT0 rfl
 have qhT1_0 : w1.cell? ⟨w.heap.size + 1, 0, none⟩ = some (.int .i64 c) := cell_at hT1 rfl
 have qhT1_1 : w1.cell? ⟨w.heap.size + 1, 1, none⟩ = some (.int .i64 r) := cell_at hT1 rfl
 have qhT1_2 : w1.cell? ⟨w.heap.size + 1, 2, none⟩ = some (.slice B n cap2) := cell_at hT1 rfl
 clear hb
 have hd : decide (l = l) = true := by simp
 go_wp2
 go_ret
 exact ⟨by simp, hB1⟩
end Go.Proofs.YtdimmlljjmmdbaaGreatDoor
namespace Go.Proofs.YtdimmlljjmmdbaaGreatDoor
open Go.RowKit Go.Shelf
set_option maxHeartbeats 16000000
set_option maxRecDepth 100000
def Pow (w : World) : Prop := ∀ x : Int, 0 ≤ x → x ≤ 1000 → ItoaF tx w x
theorem Pow.below {w W : World} (h : Pow w) (hB : Below w.heap.size w W) : Pow W := fun x h0 h1 => (h x h0 h1).below hB
def MaxL (m : Int) (w : World) : Prop := w.cell? ⟨1, 0, none⟩ = some (.int .i64 m)
theorem MaxL.below {m : Int} {w W : World} (h : MaxL m w) (hB : Below w.heap.size w W) : MaxL m W := (hB.cell (p := ⟨1, 0, none⟩) (cell_lt h)).trans h
namespace Tx
theorem prs_len : ∀ (ls : List (List UInt8)) (st : Gd) (k : Nat), (prs st k ls).1 = zG ∨ (prs st k ls).2.2 = 0
 | [], _, _ => .inl rfl
 | [last], st, k => by
  unfold prs
  split
  ·exact .inl rfl
  ·split
   ·exact .inl rfl
   ·split
    ·exact .inl rfl
    ·exact .inr rfl
 | b :: b2 :: more, st, k => by
  cases h : stepG st k b with
  | none => rw [prs_none h]; exact .inl rfl
  | some st' => rw [prs_some h]; exact prs_len (b2 :: more) st' (k + 1)
theorem parse_len (s : List UInt8) : (parseG s).1.l.length ≤ 1000 := by
 have h : (parseG s).1 = zG ∨ (parseG s).2.2 = 0 := by
  unfold parseG
  split
  ·exact .inl rfl
  ·exact prs_len _ _ _
 rcases h with h | h
 ·rw [h]; decide
 ·obtain ⟨c, r, _, _, hc, hr, g, _, _⟩ := text_parse (s := s) (g := (parseG s).1) (i := (parseG s).2.1) (by rw [← h])
  rw [g.len]
  exact Nat.le_trans (Nat.mul_le_mul hc hr) (by decide)
end Tx
theorem rd_some {w : World} {A : Option Addr} {n : Nat} {l : List Int} (H : RdI w A n l) (h : 0 < n) : ∃ b off, A = some ⟨b, off, none⟩ := by
 obtain ⟨b, off, hA, _⟩ := H.2 h
 exact ⟨b, off, hA⟩
theorem c81g (c r : Nat) (A : Option Addr) (n cap : Nat) (l : List Int) (w : World) (g : Im.Gr c r l) (hc : c ≤ 16) (hr : r ≤ 16) (hcap : n ≤ cap) (H : RdI w A n l) (hp : Pow w) :
  Calls Tryz.prog 81 #[.agg #[.int .i64 c, .int .i64 r, .slice A n cap]] w fun en w' => en = .returned (.tuple #[.string ⟨(Tx.grT c r l).toArray⟩, .int .i64 0]) ∧ Below w.heap.size w w' := by
 have hn : n = c * r := by rw [← H.len, g.len]
 obtain ⟨b, off, rfl⟩ := rd_some H (by rw [hn]; exact Nat.mul_pos g.c1 g.r1)
 have hx : ∀ x ∈ (c : Int) :: (r : Int) :: l, 0 ≤ x ∧ x < 1000 := fun x hx => by
  simp only [List.mem_cons] at hx
  rcases hx with rfl | rfl | hx
  ·omega
  ·omega
  ·have := Tx.gr_range g x hx; omega
 have h := c81w c r b off n cap l tx w g hc hr hcap H (fun x h => hp x (hx x h).1 (by have := (hx x h).2; omega)) (fun x h => Nat.le_trans (Tx.tx_size (hx x h)) (by decide))
 rw [Tx.prT_text] at h
 exact h
theorem c71p (c r : Int) (A : Option Addr) (n cap : Nat) (l : List Int) (w : World) (hl : n ≤ 1000000) (H : RdI w A n l) :
  Calls Tryz.prog 71 #[.agg #[.int .i64 c, .int .i64 r, .slice A n cap]] w fun en w' => ∃ B cb, en = .returned (.agg #[.int .i64 c, .int .i64 r, .slice B n cb]) ∧ RdI w' B n l ∧ Below w.heap.size w w' := by
 refine (c71 c r A n cap l w hl H).mono ?_
 rintro e w' ⟨B, cb, h1, h2, _, _, h3⟩
 exact ⟨B, cb, h1, h2, h3⟩
theorem c20p (c r : Int) (A : Option Addr) (n cap : Nat) (l : List Int) (w : World) (hl : n ≤ 1000000) (H : RdI w A n l) :
  Calls Tryz.prog 20 #[.agg #[.int .i64 c, .int .i64 r, .slice A n cap]] w fun en w' => ∃ B cb, en = .returned (.agg #[.int .i64 c, .int .i64 r, .slice B n cb]) ∧ RdI w' B n l ∧ n ≤ cb ∧ Below w.heap.size w w' := by
 refine (c20 c r A n cap l w hl H).mono ?_
 rintro e w' ⟨B, cb, h1, h2, h4, _, h3⟩
 exact ⟨B, cb, h1, h2, h4, h3⟩
theorem PG.form {w : World} {p : Tx.Gd × Int × Int} {en : Ending} {w' : World} (h : PG w p en w') : ∃ A cap, en = .returned (.tuple #[.agg #[.int .i64 p.1.c, .int .i64 p.1.r, .slice A p.1.l.length cap], .int .i64 p.2.1, .int .i64 p.2.2]) ∧ RdI w' A p.1.l.length p.1.l ∧ p.1.l.length ≤ cap ∧ Below w.heap.size w w' := by
 obtain ⟨A, cap, h1, h2, h3, _, h4⟩ := h
 exact ⟨A, cap, h1, h2, h3, h4⟩
/-- the same for a valid ground: its text, parsed, and cut; what is parsed from s is printed as s -/
theorem back_calls (c r : Nat) (n : Nat) (l : List Int) (s : ByteArray) (m : Int) (g : Im.Gr c r l) (hc : c ≤ 16) (hr : r ≤ 16) (hl : l.length = n) :
  ∃ (T U : ByteArray) (N : Nat) (pc pr : Int) (pn : Nat) (pl : List Int) (pi pe : Int), pn ≤ 1000 ∧ T.size = N + 1 ∧ N ≤ 5000 ∧ U = T.extract 0 N ∧
   (∀ A cap W, n ≤ cap → RdI W A n l → Pow W → Calls Tryz.prog 81 #[.agg #[.int .i64 c, .int .i64 r, .slice A n cap]] W fun en w' => en = .returned (.tuple #[.string T, .int .i64 0]) ∧ Below W.heap.size W w') ∧
   (∀ W, MaxL m W → Calls Tryz.prog 82 #[.string T] W fun en w' => ∃ A cap, en = .returned (.tuple #[.agg #[.int .i64 c, .int .i64 r, .slice A n cap], .int .i64 0, .int .i64 0]) ∧ RdI w' A n l ∧ n ≤ cap ∧ Below W.heap.size W w') ∧
   (∀ W, Calls Tryz.prog 85 #[.string T, .int .u8 10] W fun en w' => ∃ A cap, en = .returned (.slice A (r + 2) cap) ∧ Below W.heap.size W w') ∧
   (s.size ≤ 1000000 → ∀ W, MaxL m W → Calls Tryz.prog 82 #[.string s] W fun en w' => ∃ A cap, en = .returned (.tuple #[.agg #[.int .i64 pc, .int .i64 pr, .slice A pn cap], .int .i64 pi, .int .i64 pe]) ∧ RdI w' A pn pl ∧ pn ≤ cap ∧ Below W.heap.size W w') ∧
   (pe = 0 → ∀ A cap W, pn ≤ cap → RdI W A pn pl → Pow W → Calls Tryz.prog 81 #[.agg #[.int .i64 pc, .int .i64 pr, .slice A pn cap]] W fun en w' => en = .returned (.tuple #[.string s, .int .i64 0]) ∧ Below W.heap.size W w') ∧
   (∀ W, MaxL m W → Calls Tryz.prog 82 #[.string U] W fun en w' => ∃ A cap, en = .returned (.tuple #[.agg #[.int .i64 0, .int .i64 0, .slice A 0 cap], .int .i64 r, .int .i64 25]) ∧ RdI w' A 0 [] ∧ 0 ≤ cap ∧ Below W.heap.size W w') := by
 have hT := Tx.grT_length g hc hr
 have hT1 : 1 ≤ (Tx.grT c r l).length := by
  have h := congrArg List.length (Tx.pT_succ c r l (r - 1))
  rw [show r - 1 + 1 = r by have := g.r1; omega] at h
  rw [show Tx.grT c r l = Tx.pT c r l r from rfl, h]
  simp
 obtain ⟨p, hp⟩ : ∃ p, p = Tx.parseG s.data.toList := ⟨_, rfl⟩
 have h82 := fun hs (W : World) (h : MaxL m W) => (c82 s m W hs h).mono (fun e w' => PG.form)
 have hpl := Tx.parse_len s.data.toList
 have hbk : p.2.2 = 0 → ∀ (A : Option Addr) (cap : Nat) (W : World), p.1.l.length ≤ cap → RdI W A p.1.l.length p.1.l → Pow W → Calls Tryz.prog 81 #[.agg #[.int .i64 p.1.c, .int .i64 p.1.r, .slice A p.1.l.length cap]] W fun en w' => en = .returned (.tuple #[.string s, .int .i64 0]) ∧ Below W.heap.size W w' := by
  intro h0 A cap W h1 h2 h3
  obtain ⟨c', r', e1, e2, hc', hr', g', e3, _⟩ := Tx.text_parse (s := s.data.toList) (g := p.1) (i := p.2.1) (by rw [← hp, ← h0])
  have h := c81g c' r' A p.1.l.length cap p.1.l W g' hc' hr' h1 h2 h3
  rw [e3] at h
  rw [e1, e2]
  exact h
 rw [← hp] at h82 hpl
 have hts : (⟨(Tx.grT c r l).toArray⟩ : ByteArray).data.toList = Tx.grT c r l := by simp
 have h1 := fun (W : World) (h : MaxL m W) => (c82 ⟨(Tx.grT c r l).toArray⟩ m W (by rw [Tx.ls_size]; omega) h).mono (fun e w' => PG.form)
 have h3 := fun (W : World) => c85_10 ⟨(Tx.grT c r l).toArray⟩ W (by rw [Tx.ls_size]; omega)
 rw [hts] at h1 h3
 rw [Tx.parse_ground g hc hr] at h1
 rw [Tx.grT_lines] at h3
 have hex : (⟨(Tx.grT c r l).toArray⟩ : ByteArray).extract 0 ((Tx.grT c r l).length - 1) = ⟨((Tx.grT c r l).take ((Tx.grT c r l).length - 1)).toArray⟩ := Tx.bs_pre (Tx.grT c r l) _
 have h5 := fun (W : World) (h : MaxL m W) => (c82 ⟨((Tx.grT c r l).take ((Tx.grT c r l).length - 1)).toArray⟩ m W (by rw [Tx.ls_size, List.length_take]; omega) h).mono (fun e w' => PG.form)
 have hts5 : (⟨((Tx.grT c r l).take ((Tx.grT c r l).length - 1)).toArray⟩ : ByteArray).data.toList = (Tx.grT c r l).take ((Tx.grT c r l).length - 1) := by simp
 rw [hts5, Tx.parse_cut g hc hr] at h5
 subst hl
 refine ⟨⟨(Tx.grT c r l).toArray⟩, _, (Tx.grT c r l).length - 1, p.1.c, p.1.r, p.1.l.length, p.1.l, p.2.1, p.2.2, hpl, by rw [Tx.ls_size]; omega, by omega, rfl, fun A cap W h1 h2 h3 => c81g c r A _ cap l W g hc hr h1 h2 h3, h1, fun W => (h3 W).mono ?_, h82, hbk, ?_⟩
 ·rintro e w' ⟨x, rfl, hown, hb⟩
  obtain ⟨A, cap, rfl, _⟩ := Sl.of_own hown
  exact ⟨A, cap, rfl, hb⟩
 ·rw [hex]; exact h5
end Go.Proofs.YtdimmlljjmmdbaaGreatDoor
/-
 DERIVED: THE SHELF's CONTRACTS AT THIS DUMP, IN PLAIN WORDS (tools/lay-plain.mjs out of 'TryzShelf.lean', which tools/lay-shelf.mjs wrote): THE SAME DECLARATIONS UNDER THE SAME NAMES: 'import', 'namespace', 'open', 'def', 'theorem' AND NOTHING ELSE: no command of the shelf's: FOR A HAND-IN. Each laying: the table of numbers ('.._ren') and one theorem, a field a fact of the dump's own or the kernel's comparison; each contract: ONE APPLICATION.
-/
namespace Go.Proofs
open Go.Shelf
/-- the name of the table of powers of ten -/
def powName : String := (Go.Proofs.YtdimmlljjmmdbaaGreatDoor.Rows.imageTextsRow.laid.map (·.1)).getD 2 default
def Tryz.laysM171_ren : Go.Shelf.Ren := ⟨fun | 171 => 162 | 243 => 178 | 246 => 190 | 283 => 198 | 284 => 199 | 285 => 200 | 286 => 201 | 129 => 207 | 317 => 206 | 318 => 208 | 319 => 209 | 320 => 210 | 337 => 215 | 338 => 216 | n => n, fun | 3 => 3 | 9 => 9 | 2 => 2 | 4 => 4 | 171 => 267 | 0 => 0 | 53 => 256 | 37 => 233 | 5 => 5 | 173 => 270 | 212 => 276 | 51 => 253 | 20 => 20 | 213 => 277 | 46 => 235 | 232 => 285 | 233 => 286 | n => n, fun | 17 => 2 | 18 => 5 | 19 => 6 | n => n⟩
theorem Tryz.laysM171 : Go.Proofs.LaysM.n171 Tryz.prog Tryz.laysM171_ren := {
 mixed := by kernel_rfl
 f129 := Tryz.func207.trans (congrArg some (by kernel_rfl))
 f171 := Tryz.func162.trans (congrArg some (by kernel_rfl))
 f243 := Tryz.func178.trans (congrArg some (by kernel_rfl))
 f246 := Tryz.func190.trans (congrArg some (by kernel_rfl))
 f283 := Tryz.func198.trans (congrArg some (by kernel_rfl))
 f284 := Tryz.func199.trans (congrArg some (by kernel_rfl))
 f285 := Tryz.func200.trans (congrArg some (by kernel_rfl))
 f286 := Tryz.func201.trans (congrArg some (by kernel_rfl))
 f317 := Tryz.func206.trans (congrArg some (by kernel_rfl))
 f318 := Tryz.func208.trans (congrArg some (by kernel_rfl))
 f319 := Tryz.func209.trans (congrArg some (by kernel_rfl))
 f320 := Tryz.func210.trans (congrArg some (by kernel_rfl))
 f337 := Tryz.func215.trans (congrArg some (by kernel_rfl))
 f338 := Tryz.func216.trans (congrArg some (by kernel_rfl))
 t0 := Tryz.underlying0
 a0 := Tryz.isAgg0
 z0 := Tryz.sizeOf0
 v0 := Tryz.zeroValue0
 t2 := Tryz.underlying2
 a2 := Tryz.isAgg2
 z2 := Tryz.sizeOf2
 v2 := Tryz.zeroValue2
 t3 := Tryz.underlying3
 a3 := Tryz.isAgg3
 z3 := Tryz.sizeOf3
 v3 := Tryz.zeroValue3
 t4 := Tryz.underlying4
 a4 := Tryz.isAgg4
 z4 := Tryz.sizeOf4
 v4 := Tryz.zeroValue4
 t5 := Tryz.underlying5
 a5 := Tryz.isAgg5
 z5 := Tryz.sizeOf5
 v5 := Tryz.zeroValue5
 t9 := Tryz.underlying9
 a9 := Tryz.isAgg9
 z9 := Tryz.sizeOf9
 v9 := Tryz.zeroValue9
 t20 := Tryz.underlying20
 a20 := Tryz.isAgg20
 z20 := Tryz.sizeOf20
 v20 := Tryz.zeroValue20
 t37 := Tryz.underlying233
 a37 := Tryz.isAgg233
 z37 := Tryz.sizeOf233
 v37 := Tryz.zeroValue233
 t46 := Tryz.underlying235
 a46 := Tryz.isAgg235
 z46 := Tryz.sizeOf235
 v46 := Tryz.zeroValue235
 t51 := Tryz.underlying253
 a51 := Tryz.isAgg253
 z51 := Tryz.sizeOf253
 v51 := Tryz.zeroValue253
 t53 := Tryz.underlying256
 a53 := Tryz.isAgg256
 z53 := Tryz.sizeOf256
 v53 := Tryz.zeroValue256
 t171 := Tryz.underlying267
 a171 := Tryz.isAgg267
 z171 := Tryz.sizeOf267
 v171 := Tryz.zeroValue267
 t173 := Tryz.underlying270
 a173 := Tryz.isAgg270
 z173 := Tryz.sizeOf270
 v173 := Tryz.zeroValue270
 t212 := Tryz.underlying276
 a212 := Tryz.isAgg276
 z212 := Tryz.sizeOf276
 v212 := Tryz.zeroValue276
 t213 := Tryz.underlying277
 a213 := Tryz.isAgg277
 z213 := Tryz.sizeOf277
 t232 := Tryz.underlying285
 a232 := Tryz.isAgg285
 z232 := Tryz.sizeOf285
 v232 := Tryz.zeroValue285
 t233 := Tryz.underlying286
 a233 := Tryz.isAgg286
 z233 := Tryz.sizeOf286
 v233 := Tryz.zeroValue286
 g17 := by kernel_rfl
 g18 := by kernel_rfl
 g19 := by kernel_rfl
 i0 := by kernel_rfl
 i2 := by kernel_rfl
 i3 := by kernel_rfl
 i4 := by kernel_rfl
 i5 := by kernel_rfl
 i9 := by kernel_rfl
 i20 := by kernel_rfl
 i37 := by kernel_rfl
 i46 := by kernel_rfl
 i51 := by kernel_rfl
 i53 := by kernel_rfl
 i171 := by kernel_rfl
 i173 := by kernel_rfl
 i212 := by kernel_rfl
 i232 := by kernel_rfl
 i233 := by kernel_rfl
 m17 := by kernel_rfl
 m18 := by kernel_rfl
 m19 := by kernel_rfl }
open Go.RowKit Go.Sort Go.Lib in
/-- strconv.Itoa: "Itoa is equivalent to FormatInt(int64(i), 10).": i's DECIMAL NUMERAL ('Lib.itoa': a '-' where i is negative, then the digits), FOR EVERY int. The world behind the call: the world before it, new blocks behind the heap (the library's 'var a [24]byte'), draws. (LAID: no walk: one application.) -/
theorem Tryz.strconv_Itoa (n : Int) (h0 : -9223372036854775808 ≤ n) (h1 : n ≤ 9223372036854775807) (w : World) (htab : Lib.TabIs Tryz.prog w powName .u64 Lib.pow10Tab) :
  Calls Tryz.prog 162 #[.int .i64 n] w fun e w' => e = .returned (.string ⟨(Lib.itoa n).toArray⟩) ∧ ∃ k os, w' = grow (w.drewN k) os := Any.strconv_Itoa Tryz.laysM171 n h0 h1 w htab
end Go.Proofs
/- From the row's tables to what the laws of texts want. -/
namespace Go.Proofs.YtdimmlljjmmdbaaGreatDoor
open Go.ChangeShapes Go.WideShapes Go.ChangeAt Go.RowKit Go.MakeChecks
set_option maxHeartbeats 1000000
set_option maxRecDepth 100000
def laidX : List (String × DataW Unit) := Rows.imageTextsRow.laid
theorem laid_plainX (w : World) (h : laidMetH Tryz.prog laidX w) : laidMet Tryz.prog laidX w := by
 rw [laidMetH_plain Tryz.prog laidX w (by kernel_rfl)] at h
 exact h
theorem steps_ofX (w : World) (h : laidMetH Tryz.prog laidX w) : Steps w := by
 have hl1 := laid_plainX w h
 have hl2 : laidMet Tryz.prog (laidX.drop 4) w := hl1.tail.tail.tail.tail
 obtain ⟨ps, ⟨g', t', cs, fuel, p, q, hg', ht', hvar, hd, _, _⟩, _⟩ := hl2
 have hg0 : some g' = some 0 := Eq.trans hg'.symm (by kernel_rfl)
 have hty : (Tryz.prog.globals[0]?).map (·.type) = some 222 := by kernel_rfl
 obtain rfl := Option.some.inj hg0
 obtain rfl := Option.some.inj (hty.symm.trans ht')
 obtain ⟨xs, m, rfl, hx, hl, hn, hf⟩ := DataW.trod_array Tryz.underlying222 hd
 have hc1 : Tryz.prog.cellsOf 222 = 16 := by kernel_rfl
 have hc2 : Tryz.prog.cellsOf 221 = 2 := by kernel_rfl
 have hc3 : Tryz.prog.cellsOf 3 = 1 := by kernel_rfl
 rw [hc1] at hl
 rw [hc2] at hf
 have hxs : Rows.laid_moveout_image_steps = DataW.agg (xs.map (·.1)) := congrArg Prod.fst hx
 have key : ∀ i, i < 8 → ∃ a b, (cs.toList.drop (i * 2)).take 2 = [.int .i64 a, .int .i64 b] ∧ (xs.map (·.1))[i]? = some (.agg [.lit (.int .i64 a), .lit (.int .i64 b)]) := by
  intro i hi
  have h1 := hf i hi
  have hix : i < xs.length := by omega
  rw [List.getElem?_eq_getElem hix] at h1
  obtain ⟨a, b, e1, e2⟩ := pair_cells Tryz.underlying221 hc3 hc2 h1
  exact ⟨a, b, e1, by rw [List.getElem?_map, List.getElem?_eq_getElem hix]; simp [e2]⟩
 have hlist : xs.map (·.1) = [.agg [.lit (.int .i64 (-1)), .lit (.int .i64 (-1))], .agg [.lit (.int .i64 0), .lit (.int .i64 (-1))], .agg [.lit (.int .i64 1), .lit (.int .i64 (-1))], .agg [.lit (.int .i64 (-1)), .lit (.int .i64 0)], .agg [.lit (.int .i64 1), .lit (.int .i64 0)], .agg [.lit (.int .i64 (-1)), .lit (.int .i64 1)], .agg [.lit (.int .i64 0), .lit (.int .i64 1)], .agg [.lit (.int .i64 1), .lit (.int .i64 1)]] := by
  have := hxs.symm
  unfold Rows.laid_moveout_image_steps at this
  simpa using this
 rw [hlist] at key
 have cell : ∀ i, i < 8 → ∀ j, j < 2 → cs.toList[i * 2 + j]? = (encI stepL)[i * 2 + j]? := by
  intro i hi j hj
  obtain ⟨a, b, e1, e2⟩ := key i hi
  have h1 : cs.toList[i * 2 + j]? = ((cs.toList.drop (i * 2)).take 2)[j]? := by
   rw [List.getElem?_take, if_pos hj, List.getElem?_drop]
  rw [h1, e1]
  have h8 : i = 0 ∨ i = 1 ∨ i = 2 ∨ i = 3 ∨ i = 4 ∨ i = 5 ∨ i = 6 ∨ i = 7 := by omega
  have h2 : j = 0 ∨ j = 1 := by omega
  rcases h8 with rfl | rfl | rfl | rfl | rfl | rfl | rfl | rfl <;> simp at e2 <;> obtain ⟨rfl, rfl⟩ := e2 <;> rcases h2 with rfl | rfl <;> rfl
 have hcell : ∀ k, k < 16 → w.cell? ⟨0, k, none⟩ = (encI stepL)[k]? := by
  intro k hk
  have h1 := World.var?_cell hg' hvar k
  rw [h1]
  have h2 := cell (k / 2) (by omega) (k % 2) (by omega)
  rw [show k / 2 * 2 + k % 2 = k by omega] at h2
  rw [← h2, Array.getElem?_toList]
 refine ⟨rfl, fun _ => ⟨0, 0, rfl, ?_, fun j hj => ?_⟩⟩
 ·have h0 := hcell 0 (by omega)
  have h1 : (encI stepL)[0]? = some (.int .i64 (-1)) := rfl
  rw [h1] at h0
  unfold World.cell? at h0
  by_cases hb : 0 < w.heap.size
  ·exact hb
  ·rw [Array.getElem?_eq_none (Nat.le_of_not_lt hb)] at h0
   simp at h0
 ·rw [Nat.zero_add]
  exact hcell j (by simpa [encI, stepL] using hj)
theorem pow_tab (w : World) (h : laidMetH Tryz.prog laidX w) : Lib.TabIs Tryz.prog w powName .u64 Lib.pow10Tab := by
 have h1 := laid_plainX w h
 have h2 : laidMet Tryz.prog ((powName, Lib.tabData .u64 Lib.pow10Tab) :: laidX.drop 3) w := h1.tail.tail
 exact Lib.tabIs_of_head (g := 2) (t := 276) (e := 256) (n := 20) (by kernel_rfl) (by kernel_rfl) (by kernel_rfl) (by kernel_rfl) (by kernel_rfl) (by kernel_rfl) h2
theorem pow_of (w : World) (h : laidMetH Tryz.prog laidX w) : Pow w := fun x h0 h1 W hW => (Tryz.strconv_Itoa x (by omega) (by omega) W (Lib.tabBelow_of_tabIs (pow_tab w h) W hW)).mono fun e w' ⟨he, k, os, hw⟩ =>
 ⟨by rw [he]; unfold tx Lib.itoa; rw [if_neg (by omega)], by rw [hw]; exact Go.Lib.below_grow _ _ (Nat.le_refl _) _ _⟩
theorem max_len (w : World) (h : w.ShapedOpen Tryz.prog) : ∃ m, MaxL m w :=
 Go.Proofs.cell_of_shapedOpen_int (zero := #[.int .i64 0]) (t := 3) h (of_decide_eq_true (by kernel_rfl)) (by kernel_rfl) rfl (by kernel_rfl) (by kernel_rfl) Tryz.underlying3
end Go.Proofs.YtdimmlljjmmdbaaGreatDoor
