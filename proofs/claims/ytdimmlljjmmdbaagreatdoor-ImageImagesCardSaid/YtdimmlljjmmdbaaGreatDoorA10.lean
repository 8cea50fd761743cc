/- A part of the proofs about chapter 7 (image): contracts of functions and plain laws (V50, V51, V52). -/
import Derived.Test.YtdimmlljjmmdbaaGreatDoorA08
import Derived.Test.YtdimmlljjmmdbaaGreatDoorA01
import Derived.Test.YtdimmlljjmmdbaaGreatDoorA09
set_option linter.all false
namespace Go.Proofs.YtdimmlljjmmdbaaGreatDoor
open Go.RowKit Go.Shelf
set_option maxHeartbeats 8000000
set_option maxRecDepth 100000
attribute [local go_sem] Oper.semAt_some
/-- the iterator of slices.Chunk over r rows of c -/
theorem chunk_in (n : Nat) (hn : 1 ≤ n) (lr ps pn b off cap N c r : Nat) (hc1 : 1 ≤ c) (hc : c ≤ 256) (hr : r ≤ 256) (hN : N = r * c) (hcap : N ≤ cap) (_hcm : cap ≤ 140737488355328) (J : Nat → World → Prop)
  (hK : ∀ k W, J k W → W.cell? ⟨ps, 0, none⟩ = some (.slice (some ⟨b, off, none⟩) N cap) ∧ W.cell? ⟨pn, 0, none⟩ = some (.int .i64 c))
  (hst : ∀ k W W1, J k W → Below W.heap.size W W1 → J k W1)
  (hY : ∀ k W, k < r → J k W → YieldAt Fence.wide (n - 1) Tryz.prog lr #[.slice (some ⟨b, off + k * c, none⟩) c c] W fun e W' => e = .returned (.bool true) ∧ J (k + 1) W')
  (W : World) (h0 : J 0 W) :
  CallsIn Fence.wide n Tryz.prog 163 #[.func (.yield lr) #[] #[], .pointer (some ⟨ps, 0, none⟩), .pointer (some ⟨pn, 0, none⟩)] W fun e W' => (∃ v, e = .returned v) ∧ J r W' := by
 have HY := Lib.hid hY
 have HST := Lib.hid hst
 have HK := Lib.hid hK
 have HN := Lib.hid hN
 clear hY hst hK hN
 refine callsIn_of_wp Tryz.func163 rfl trivial ?_ rfl
 simp only [Tryz.ntmps163, List.size_toArray, List.length_cons, List.length_nil, Nat.reduceAdd, Nat.reduceSub, Array.replicate_succ, Array.replicate_zero, List.push_toArray, List.append_toArray, List.nil_append, List.cons_append]
 gi_wp2
 gi_loopw [4] (fun x wr => ∃ k : Nat, k ≤ r ∧ x = .int .i64 (k * c : Nat) ∧ J k wr) (fun x _ => N - (intOf x).toNat)
 case atStart => exact ⟨0, by omega, by simp, h0⟩
 case round =>
  obtain ⟨k, hk, rfl, hJ⟩ := hrel
  obtain ⟨k1, k2⟩ := HK.out _ _ hJ
  have l1 := cell_lt k1
  have l2 := cell_lt k2
  have HJ := Lib.hid hJ
  clear hJ
  obtain ⟨i, hi⟩ : ∃ i, i = k * c := ⟨_, rfl⟩
  rw [← hi]
  have HI := Lib.hid hi
  have h256 : r * c ≤ 65536 := Nat.mul_le_mul hr hc
  by_cases hlt : k < r
  ·have hle : i + c ≤ N := by
    rw [hi, HN.out]
    have : (k + 1) * c ≤ r * c := Nat.mul_le_mul hlt (Nat.le_refl _)
    rw [Nat.add_mul] at this
    omega
   have hNs : N ≤ 65536 := by rw [HN.out]; exact h256
   clear hi h256
   have d1 : decide ((i : Int) < (N : Int)) = true := by simp; omega
   have HJ0 := HJ.out
   gi_wp2
   refine wpIn_wide.2 ?_
   refine wp_region_growG (by kernel_rfl) (by kernel_rfl) ?_
   repeat (go_big_quiet_step ((first | fail)))
   refine wpQuiet_nil (gw_out ?_)
   intro w1 hb1
   have hmin : min (c : Int) ((N - i : Nat) : Int) = (c : Int) := by omega
   rw [hmin]
   have k1 := (hb1.cell (p := ⟨ps, 0, none⟩) l1).trans k1
   have k2 := (hb1.cell (p := ⟨pn, 0, none⟩) l2).trans k2
   have HJ1 := Lib.hid (HST.out _ _ _ HJ0 hb1)
   have l1 := cell_lt k1
   have l2 := cell_lt k2
   have hwr : IntKind.i64.wrap ((i : Int) + (c : Int)) = ((i + c : Nat) : Int) := by rw [IntKind.wrap_i64]; omega
   have hle2 : i + c ≤ cap := by omega
   clear hmin hb1 HJ0
   have hdd : ¬ (i + c < i) := by omega
   obtain ⟨fn, tmps, assign, body, hy, hR⟩ := HY.out k _ hlt HJ1.out
   rw [← HI.out] at hy
   go_wp2
   gi_wp2
   refine hR.mono ?_
   rintro e W3 ⟨rfl, hJ3⟩
   obtain ⟨k1, k2⟩ := HK.out _ _ hJ3
   have l1 := cell_lt k1
   have l2 := cell_lt k2
   have HJ3 := Lib.hid hJ3
   clear hJ3 hy hR
   have hi2 : Hid (i + c = (k + 1) * c) := Lib.hid (by rw [HI.out, Nat.add_mul]; omega)
   gi_wp2
   go_roundw
   case rel => exact ⟨k + 1, by omega, by rw [← hi2.out]; first | rfl | go_num, HJ3.out⟩
   case measure => simp [intOf]; omega
  ·obtain rfl : r = k := by omega
   have d1 : ¬ (i < N) := by rw [HI.out, HN.out]; omega
   clear hi
   gi_wp2
   go_end0
   exact ⟨⟨_, rfl⟩, HJ.out⟩
/-- 'for row := range slices.Chunk(l, c)': an invariant of the rows that are done, and one walk of the body -/
theorem wpIn_chunks {ps : Array Tmp} {assign body : Code} {Q : Exit → Act → World → Prop} {a : Act} {w : World} {n : Nat} (hn : 2 ≤ n) {g : Operand} {p1 p2 b off cap N c r : Nat} (hc1 : 1 ≤ c) (hc : c ≤ 256) (hr : r ≤ 256) (hN : N = r * c) (hcap : N ≤ cap) (hcm : cap ≤ 140737488355328)
  (hg : a.eval g = .func (.func 163) #[] #[.pointer (some ⟨p1, 0, none⟩), .pointer (some ⟨p2, 0, none⟩)]) (hps : ps.size = 1)
  (I : Nat → World → Prop)
  (hI : ∀ k, OwnFrom w.heap.size (fun (_ : Unit) => I k))
  (hK : ∀ k W, I k W → W.cell? ⟨p1, 0, none⟩ = some (.slice (some ⟨b, off, none⟩) N cap) ∧ W.cell? ⟨p2, 0, none⟩ = some (.int .i64 c))
  (h0 : I 0 w) (a₁ : Nat → Act)
  (hassign : ∀ (l : Nat) (k : Nat) (W : World) (K : Act → World → Prop), K (a₁ k) W →
   assign.wpIn (Fence.wide.inRound l) (n - 1 - 1) Tryz.prog (Exit.then K (fun _ _ _ => False)) { tmps := (ps.zip #[.slice (some ⟨b, off + k * c, none⟩) c c]).foldl (fun t (p, v) => t.setIfInBounds p v) a.tmps, defers := [] } W)
  (hbody : ∀ (l : Nat) (k : Nat) (W : World), k < r → w.heap.size ≤ W.heap.size → I k W → body.wpIn (Fence.wide.inRound l) (n - 1 - 1) Tryz.prog (NbPost w.heap.size (I (k + 1)) (fun _ => False) .ret W) (a₁ k) W)
  (hdone : ∀ (D : Nat) (W : World), w.heap.size ≤ D → I r W → W.heap[D]? = some (.deferred (some [])) → Q .normal { a with defers := { target := .collected D, args := #[] } :: a.defers } W) :
  (Code.rangeFunc g ps assign body).wpIn Fence.wide n Tryz.prog Q a w := by
 refine wpIn_rangeFunc fun fn hfn => ?_
 obtain ⟨rc, hrc⟩ : ∃ rc : LoopState → Option Code → Loop, rc = fun st pe => { state := st, pending := pe, fn, tmps := a.tmps, params := ps, assign, body, defers := w.heap.size } := ⟨_, rfl⟩
 obtain ⟨W1, hW1⟩ : ∃ W1, W1 = (w.alloc (.deferred (some []))).alloc (.loop (rc .ready none)) := ⟨_, rfl⟩
 have hb1 : Below w.heap.size w W1 := by rw [hW1]; exact below2 _ _ _
 have hrec : LineRec w W1 (rc .ready none) := by
  rw [hW1]
  exact ⟨heap_new (by simp), heap_old (by simp) (heap_new rfl)⟩
 have hgo := chunk_in (n - 1) (by omega) (w.heap.size + 1) p1 p2 b off cap N c r hc1 hc hr hN hcap hcm (fun k W => I k W ∧ LineRec w W (rc .ready none))
  (fun k W h => hK k W h.1)
  (fun k W W2 h hb => ⟨own_grow (hI k) h.1 hb, h.2.grow hb⟩)
  ?hY W1 ⟨own_grow (hI 0) h0 hb1, hrec⟩
 case hY =>
  rintro k W hk ⟨hi1, hr1⟩
  have hy := run_yield (P := Tryz.prog) (args := #[.slice (some ⟨b, off + k * c, none⟩) c c]) hr1.lp (by rw [hrc]; simpa using hps.symm)
  rw [hrc] at hy
  refine ⟨fn, _, assign, body, hy, roundIn_of_wpIn hfn (hassign _ k W _ ⟨_, run_beginRound hr1.lp (by rw [hrc]), ?_⟩)⟩
  have hr2 := hr1.put { rc .ready none with state := .busy }
  have hsz : w.heap.size ≤ (W.putObj (w.heap.size + 1) (.loop { rc .ready none with state := .busy })).heap.size := by
   have := (Array.getElem?_eq_some_iff.1 hr2.lp).1
   omega
  refine wpIn_mono (hbody (w.heap.size + 1) k _ hk hsz (own_put (hI k) hi1 hr1)) ?_
  rintro e a3 W3 hp
  have fin : ∀ (jump : Option Code), KeepsFrom w.heap.size (W.putObj (w.heap.size + 1) (.loop { rc .ready none with state := .busy })) W3 →
    (Instr.endRound (w.heap.size + 1) jump).run Tryz.prog W3 = .ok (.bool jump.isNone) (W3.putObj (w.heap.size + 1) (.loop (rc (if jump.isNone then .ready else .done) jump))) := fun jump hk => by
   have hl3 := (hr2.kept hk).lp
   rw [hrc] at hl3
   have := run_endRound (P := Tryz.prog) jump hl3
   rw [hrc]
   exact this
  cases e with
  | normal =>
   obtain ⟨hk, hi3⟩ := hp
   exact ⟨_, _, fin none hk, rfl, own_put (hI _) hi3 (hr2.kept hk), (hr2.kept hk).put _⟩
  | ret => exact hp.2.2.elim
  | exit id => exact hp.2.2.elim
  | goto t => exact hp.elim
  | panic ch => exact hp.elim
  | outgrown => exact hp.elim
 have hen : (Instr.enterLoop fn a.tmps ps assign body Fence.wide.round).run Tryz.prog w = .ok (w.heap.size + 1, [{ target := .collected w.heap.size, args := #[] }]) W1 := by
  rw [hW1, hrc]; exact run_enterLoop_outer _ _ _ _ _
 refine ⟨w.heap.size + 1, [{ target := .collected w.heap.size, args := #[] }], W1, { target := .fn (.func 163) #[.pointer (some ⟨p1, 0, none⟩), .pointer (some ⟨p2, 0, none⟩)], args := #[.func (.yield (w.heap.size + 1)) #[] #[]] }, W1, 163,
  #[.func (.yield (w.heap.size + 1)) #[] #[]] ++ #[.pointer (some ⟨p1, 0, none⟩), .pointer (some ⟨p2, 0, none⟩)], W1, hen, ?_, fun _ _ => trivial, ?_, fun _ => by omega, ?_⟩
 ·simp only [resolve, hg]
  simp [go_sem]
 ·simp [invoke, go_sem, enters_of Tryz.func163 (by kernel_rfl) rfl]
 refine hgo.mono ?_
 rintro e W2 ⟨⟨v, rfl⟩, hi2, hr2⟩
 exact ⟨none, _, by have := run_endLoop (P := Tryz.prog) hr2.lp (by rw [hrc]; simp); rw [hrc] at this; exact this, hdone _ _ (Nat.le_refl _) (own_put (hI _) hi2 hr2) (hr2.put _).defd⟩
theorem c135 (b off N cap c : Nat) (h1 : 1 ≤ c) (w : World) :
  Calls Tryz.prog 135 #[.slice (some ⟨b, off, none⟩) N cap, .int .i64 c] w fun en w' => en = .returned (.func (.func 163) #[] #[.pointer (some ⟨w.heap.size, 0, none⟩), .pointer (some ⟨w.heap.size + 1, 0, none⟩)]) ∧ w' = (w.alloc (Obj.cells #[.slice (some ⟨b, off, none⟩) N cap] 22)).alloc (Obj.cells #[.int .i64 c] 3) := by
 have hd : decide ((c : Int) < 1) = false := by simp; omega
 go_enter Tryz.func135, Tryz.ntmps135
 go_wp2
 go_ret
 exact ⟨rfl, rfl⟩
end Go.Proofs.YtdimmlljjmmdbaaGreatDoor
namespace Go.Proofs.YtdimmlljjmmdbaaGreatDoor
open Go.RowKit Go.Shelf
set_option maxHeartbeats 8000000
set_option maxRecDepth 100000
attribute [local go_sem] Oper.semAt_some
/-- a part of a slice -/
theorem RdI.seg {w : World} {b off n : Nat} {l : List Int} (h : RdI w (some ⟨b, off, none⟩) n l) (k m : Nat) (hk : k + m ≤ n) : RdI w (some ⟨b, off + k, none⟩) m ((l.drop k).take m) := by
 have hl := h.len
 refine ⟨by simp [encI]; omega, fun hm => ?_⟩
 obtain ⟨b', off', e, hb, hc⟩ := h.2 (by omega)
 cases e
 refine ⟨b, off + k, rfl, hb, fun j hj => ?_⟩
 have hj2 : j < m := Nat.lt_of_lt_of_le (show j < min m (l.length - k) by simpa [encI] using hj) (Nat.min_le_left _ _)
 have := hc (k + j) (by simp [encI]; omega)
 rw [show off + k + j = off + (k + j) by omega, this]
 simp [encI, hj2]
namespace Im
def rowK (c : Nat) (l : List Int) (k : Nat) : List Int := (l.drop (k * c)).take c
end Im
def prT (f : Int → ByteArray) (c : Nat) (l : List Int) (h : ByteArray) : Nat → ByteArray
 | 0 => h
 | k + 1 => prT f c l h k ++ lineB { data := #[114, 111, 119] } ((Im.rowK c l k).map f)
theorem lens_le (m : Nat) : ∀ (xs : List (List UInt8)), (∀ x ∈ xs, x.length ≤ m) → Lib.lens xs ≤ m * xs.length
 | [], _ => by simp [Lib.lens]
 | x :: xs, h => by
  have h1 := lens_le m xs (fun y hy => h y (List.mem_cons_of_mem _ hy))
  have h2 := h x (List.mem_cons_self ..)
  simp only [Lib.lens, List.map_cons, List.sum_cons, List.length_cons] at h1 ⊢
  rw [Nat.mul_add]; omega
theorem line_len (word : ByteArray) (f : Int → ByteArray) (l : List Int) (hw : word.size ≤ 20) (hl : l.length ≤ 1000) (hf : ∀ x ∈ l, (f x).size ≤ 20) : (Lib.join ((word :: l.map f).map (·.data.toList)) [32]).length ≤ 1000000 := by
 rw [List.map_cons, Lib.join_length]
 have := lens_le 20 (word.data.toList :: (l.map f).map (·.data.toList)) (fun x hx => by
  rcases List.mem_cons.1 hx with rfl | hx
  ·exact hw
  ·simp only [List.map_map, List.mem_map] at hx
   obtain ⟨y, hy, rfl⟩ := hx
   exact hf y hy)
 simp only [List.length_cons, List.length_map, List.length_nil] at this ⊢
 omega
theorem lineB_size (word : ByteArray) (xs : List ByteArray) : (lineB word xs).size = (Lib.join ((word :: xs).map (·.data.toList)) [32]).length + 1 := by
 unfold lineB
 rw [ByteArray.size_append]
 rfl
theorem prT_size (f : Int → ByteArray) (c : Nat) (l : List Int) (h : ByteArray) (hf : ∀ x ∈ l, (f x).size ≤ 20) (hc : c ≤ 1000) : ∀ k, (prT f c l h k).size ≤ h.size + k * 1000001
 | 0 => by simp [prT]
 | k + 1 => by
  have h1 := prT_size f c l h hf hc k
  have h2 := line_len { data := #[114, 111, 119] } f (Im.rowK c l k) (by decide) (by unfold Im.rowK; rw [List.length_take]; omega) (fun x hx => hf x (List.mem_of_mem_drop (List.mem_of_mem_take hx)))
  unfold prT
  rw [ByteArray.size_append, lineB_size]
  omega
theorem c81_bad (c r : Int) (A : Option Addr) (n cap : Nat) (l : List Int) (w : World) (hl : n ≤ 1000000) (H : RdI w A n l) (hE : Mo.ground c r l ≠ 0) :
  Calls Tryz.prog 81 #[.agg #[.int .i64 c, .int .i64 r, .slice A n cap]] w fun en w' => en = .returned (.tuple #[.string { data := #[] }, .int .i64 (Mo.ground c r l)]) ∧ Below w.heap.size w w' := by
 obtain ⟨E, hE0⟩ : ∃ E, E = Mo.ground c r l := ⟨_, rfl⟩
 have hEd : (E != 0) = true := by simpa [hE0] using hE
 obtain ⟨w0, hW⟩ : ∃ W, W = w.alloc (Obj.cells #[.int .i64 c, .int .i64 r, .slice A n cap] 35) := ⟨_, rfl⟩
 have hT0 : w0.heap[w.heap.size]? = some (.cells #[.int .i64 c, .int .i64 r, .slice A n cap] 35 (0, 0)) := by rw [hW]; exact heap_new (by simp)
 have hB0 : Below w.heap.size w w0 := by rw [hW]; exact (Below.refl _ _).alloc (Nat.le_refl _) _
 have H0 := H.below hB0
 go_enter Tryz.func81, Tryz.ntmps81
 go_wp2_with fail
 rw [← hW]
 clear hW
 have q0 : w0.cell? ⟨w.heap.size, 0, none⟩ = some (.int .i64 c) := cell_at hT0 rfl
 have q1 : w0.cell? ⟨w.heap.size, 1, none⟩ = some (.int .i64 r) := cell_at hT0 rfl
 have q2 : w0.cell? ⟨w.heap.size, 2, none⟩ = some (.slice A n cap) := cell_at hT0 rfl
 go_wp2_with fail
 refine (c64 c r A n cap l _ hl H0).mono ?_
 rintro e w1 ⟨rfl, hb1⟩
 rw [← hE0]
 have hB1 := hB0.call hb1 rfl
 go_wp2
 rw [← hE0]
 clear hE0
 go_ret2
 exact ⟨rfl, hB1⟩

theorem c81_ok (c r b off n cap : Nat) (l : List Int) (f : Int → ByteArray) (w : World) (g : Im.Gr c r l) (hc : c ≤ 16) (hr : r ≤ 16) (hcap : n ≤ cap) (hcm : cap ≤ 140737488355328) (H : RdI w (some ⟨b, off, none⟩) n l)
  (hcl : ∀ (W : World) (x : Int), x ∈ (c : Int) :: (r : Int) :: l → Calls Tryz.prog 162 #[.int .i64 x] W fun e w' => e = .returned (.string (f x)) ∧ w' = W) (hf : ∀ x ∈ (c : Int) :: (r : Int) :: l, (f x).size ≤ 20) :
  Calls Tryz.prog 81 #[.agg #[.int .i64 c, .int .i64 r, .slice (some ⟨b, off, none⟩) n cap]] w fun en w' => en = .returned (.tuple #[.string (prT f c l (lineB { data := #[103, 114, 111, 117, 110, 100] } [f c, f r]) r), .int .i64 0]) ∧ Below w.heap.size w w' := by
 have hln := H.len
 have hcl1 := g.c1
 have hlr := g.len
 have h256 : c * r ≤ 256 := Nat.mul_le_mul hc hr
 have hz := Mo.ground_of g hc hr
 obtain ⟨T0, hT00⟩ : ∃ T, T = lineB { data := #[103, 114, 111, 117, 110, 100] } [f c, f r] := ⟨_, rfl⟩
 rw [← hT00]
 have HT00 := Lib.hid hT00
 clear hT00
 refine (callsIn_wide (n := 6)).1 ?_
 refine callsIn_of_wp_marks Tryz.func81 rfl trivial ?_ rfl
 refine wpIn_wide.2 ?_
 simp only [Tryz.ntmps81, List.size_toArray, List.length_cons, List.length_nil, Nat.reduceAdd, Nat.reduceSub, Array.replicate_succ, Array.replicate_zero, List.push_toArray, List.append_toArray, List.nil_append, List.cons_append]
 obtain ⟨w0, hW⟩ : ∃ W, W = w.alloc (Obj.cells #[.int .i64 c, .int .i64 r, .slice (some ⟨b, off, none⟩) n cap] 35) := ⟨_, rfl⟩
 have hT0 : w0.heap[w.heap.size]? = some (.cells #[.int .i64 c, .int .i64 r, .slice (some ⟨b, off, none⟩) n cap] 35 (0, 0)) := by rw [hW]; exact heap_new (by simp)
 have hB0 : Below w.heap.size w w0 := by rw [hW]; exact (Below.refl _ _).alloc (Nat.le_refl _) _
 have H0 := H.below hB0
 have HCL := Lib.hid hcl
 have HF := Lib.hid hf
 have HG := Lib.hid hlr
 have HLN := Lib.hid hln
 have HRD := Lib.hid H
 clear hcl hf hlr H hln
 go_wp2_with fail
 rw [← hW]
 clear hW
 refine (c64 c r (some ⟨b, off, none⟩) n cap l _ (by have := HG.out; have := HLN.out; omega) H0).mono ?_
 rintro e w1 ⟨rfl, hb1⟩
 rw [hz]
 have hB1 := hB0.call hb1 rfl
 have H1 := H0.below hb1
 replace hT0 := blkb hT0 hb1
 have q0 : w1.cell? ⟨w.heap.size, 0, none⟩ = some (.int .i64 c) := cell_at hT0 rfl
 have q1 : w1.cell? ⟨w.heap.size, 1, none⟩ = some (.int .i64 r) := cell_at hT0 rfl
 clear hb1 hB0 H0
 go_wp2_with fail
 obtain ⟨w2, hW⟩ : ∃ W, W = w1.alloc (Obj.cells #[.int .i64 c, .int .i64 r] 3) := ⟨_, rfl⟩
 have hTs : w2.heap[w1.heap.size]? = some (.cells #[.int .i64 c, .int .i64 r] 3 (0, 0)) := by rw [hW]; exact heap_new (by simp)
 have hb2 : Below w1.heap.size w1 w2 := by rw [hW]; exact (Below.refl _ _).alloc (Nat.le_refl _) _
 rw [← hW]
 clear hW
 have hB2 := hB1.call hb2 rfl
 have H2 := H1.below hb2
 replace hT0 := blkb hT0 hb2
 clear hb2 hB1 H1 q0 q1
 have HT := line_len { data := #[103, 114, 111, 117, 110, 100] } f [(c : Int), (r : Int)] (by decide) (by simp) (fun x hx => HF.out x (by simp at hx ⊢; omega))
 refine (c134 { data := #[103, 114, 111, 117, 110, 100] } (some ⟨w1.heap.size, 0, none⟩) 2 2 [(c : Int), (r : Int)] f _ (by omega) (RdS.of_block (cs := encI [(c : Int), (r : Int)]) hTs rfl) (fun W x hx => HCL.out W x (by simp at hx ⊢; omega)) HT).mono ?_
 rintro e w3 ⟨rfl, hb3⟩
 clear hTs
 have hB3 := hB2.call hb3 rfl
 have H3 := H2.below hb3
 replace hT0 := blkb hT0 hb3
 clear hb3 hB2 H2
 have HTS : Hid (T0.size ≤ 1000001) := Lib.hid (by rw [HT00.out, lineB_size]; exact Nat.succ_le_succ HT)
 rw [show lineB { data := #[103, 114, 111, 117, 110, 100] } ([(c : Int), (r : Int)].map f) = T0 from HT00.out.symm]
 clear HT
 have q0 : w3.cell? ⟨w.heap.size, 0, none⟩ = some (.int .i64 c) := cell_at hT0 rfl
 have q2 : w3.cell? ⟨w.heap.size, 2, none⟩ = some (.slice (some ⟨b, off, none⟩) n cap) := cell_at hT0 rfl
 have hlw := cell_lt q0
 go_wp2_with fail
 refine (c135 b off n cap c hcl1 _).mono ?_
 rintro e w4 ⟨rfl, hw4⟩
 obtain ⟨ob, hob⟩ : ∃ b, b = w3.heap.size := ⟨_, rfl⟩
 obtain ⟨p1, hp1⟩ : ∃ b, b = ob + 1 := ⟨_, rfl⟩
 obtain ⟨p2, hp2⟩ : ∃ b, b = ob + 1 + 1 := ⟨_, rfl⟩
 have hs1 : (w3.alloc (Obj.cells #[.string T0] 9)).heap.size = p1 := by simp; omega
 rw [hs1, show p1 + 1 = p2 by omega]
 have k0 : w4.heap[ob]? = some (.cells #[.string T0] 9 (0, 0)) := by rw [hw4]; exact heap_old (by simp; omega) (heap_old (by simp; omega) (heap_new hob))
 have k1 : w4.heap[p1]? = some (.cells #[.slice (some ⟨b, off, none⟩) n cap] 22 (0, 0)) := by rw [hw4]; exact heap_old (by simp; omega) (heap_new hs1.symm)
 have k2 : w4.heap[p2]? = some (.cells #[.int .i64 c] 3 (0, 0)) := by rw [hw4]; exact heap_new (by simp; omega)
 have hb4 : Below w3.heap.size w3 w4 := by rw [hw4]; exact (below2 _ _ _).alloc (by simp; omega) _
 have hB4 := hB3.call hb4 rfl
 have hsz := hB4.size
 have HWO : Hid (w.heap.size ≤ ob) := Lib.hid (by rw [hob]; exact hB3.size)
 obtain ⟨bs, hbs⟩ : ∃ bs : ByteArray → List (Nat × Array Value × TypeId), bs = fun T => [(ob, #[.string T], 9), (p1, #[.slice (some ⟨b, off, none⟩) n cap], 22), (p2, #[.int .i64 c], 3)] := ⟨_, rfl⟩
 have I0 : BI w [] (bs T0) True w4 := by
  refine ⟨Marks.nil _ _, fun x hx => ?_, hB4, trivial⟩
  rw [hbs] at hx
  simp only [List.mem_cons, List.not_mem_nil, or_false] at hx
  rcases hx with rfl | rfl | rfl
  ·exact k0
  ·exact k1
  ·exact k2
 rw [← hob]
 have HBS := Lib.hid hbs
 have HR0 : Hid (RdI w (some ⟨b, off, none⟩) n l) := HRD
 have hob2 := Lib.hid (⟨by omega, by omega⟩ : p1 ≠ ob ∧ p2 ≠ ob)
 have hord := Lib.hid hsz
 clear hw4 hs1 hp1 hp2 hob k0 k1 k2 hb4 hB4 hB3 H3 hT0 q0 q2 hbs
 go_wp2
 have HNR : Hid (n = r * c) := Lib.hid (by rw [← HLN.out, HG.out, Nat.mul_comm])
 refine (wpIn_wide (n := 6)).1 ?_
 refine wpIn_chunks (n := 6) (by omega) (p1 := p1) (p2 := p2) (b := b) (off := off) (cap := cap) (N := n) (c := c) (r := r) hcl1 (by omega) (by omega) HNR.out hcap hcm rfl rfl (fun k W => BI w [] (bs (prT f c l T0 k)) True W)
  (fun k => BI.own hsz (fun _ h => by cases h))
  (fun k W h => ⟨cell_at (h.blk (p1, #[.slice (some ⟨b, off, none⟩) n cap], 22) (by rw [HBS.out]; simp)) rfl, cell_at (h.blk (p2, #[.int .i64 c], 3) (by rw [HBS.out]; simp)) rfl⟩) I0
  (fun k => { tmps := #[.agg #[.int .i64 c, .int .i64 r, .slice (some ⟨b, off, none⟩) n cap], .pointer (some ⟨w.heap.size, 0, none⟩), .string { data := #[] }, .int .i64 0, .int .i64 0, .pointer (some ⟨ob, 0, none⟩), .slice (some ⟨b, off + k * c, none⟩) c c, .agg #[.int .i64 c, .int .i64 r, .slice (some ⟨b, off, none⟩) n cap], .int .i64 0, .int .i64 0, .bool false, undef, .pointer (some ⟨w.heap.size, 0, none⟩), .int .i64 c, .pointer (some ⟨w.heap.size, 1, none⟩), .int .i64 r, .slice (some ⟨w1.heap.size, 0, none⟩) 2 2, .string T0, .pointer (some ⟨w.heap.size, 2, none⟩), .slice (some ⟨b, off, none⟩) n cap, .pointer (some ⟨w.heap.size, 0, none⟩), .int .i64 c, .func (.func 163) #[] #[.pointer (some ⟨p1, 0, none⟩), .pointer (some ⟨p2, 0, none⟩)], .slice (some ⟨b, off + k * c, none⟩) c c, undef, undef, undef, undef, undef], defers := [] }) ?assign ?body ?done
 case assign =>
  intro lr k W K hK
  have HK := Lib.hid hK
  clear hK
  gi_wp2
  exact HK.out
 case done =>
  intro D W hD hI hK
  have k0 : W.heap[ob]? = some (.cells #[.string (prT f c l T0 r)] 9 (0, 0)) := hI.blk (ob, _, _) (by rw [HBS.out]; simp)
  have c0 : W.cell? ⟨ob, 0, none⟩ = some (.string (prT f c l T0 r)) := cell_at k0 rfl
  have hM : Marks w.heap.size [D] W := (Marks.nil _ w).push (Marks.nil _ W) (Nat.le_refl _) (Nat.le_trans hord.out hD) hK
  have HM := Lib.hid hM
  have HI := Lib.hid hI
  clear hI hM hK
  go_wp2
  refine leaves_marks [D] W W HM.out (Aft.refl _ _) rfl (fun w' ha => ?_)
  refine ⟨.tuple #[.string (prT f c l T0 r), .int .i64 0], by simp [results, Tryz.results81, go_sem], ?_⟩
  exact ⟨rfl, ha.2 w HI.out.bel.size HI.out.bel⟩
 case body =>
  intro lr k W hk hsz2 hI
  have k0 : W.heap[ob]? = some (.cells #[.string (prT f c l T0 k)] 9 (0, 0)) := hI.blk (ob, _, _) (by rw [HBS.out]; simp)
  have c0 : W.cell? ⟨ob, 0, none⟩ = some (.string (prT f c l T0 k)) := cell_at k0 rfl
  have f0 := free_at k0 (i := 0)
  have l0 := cell_lt c0
  have HRW := HR0.out.below hI.bel
  have HI := Lib.hid hI
  have HK0 := Lib.hid k0
  obtain ⟨T1, hT1⟩ : ∃ T, T = prT f c l T0 k := ⟨_, rfl⟩
  rw [← hT1] at c0
  have HT1 := Lib.hid hT1
  have hkc : k * c + c ≤ n := by
   rw [HNR.out]
   have : (k + 1) * c ≤ r * c := Nat.mul_le_mul hk (Nat.le_refl _)
   rw [Nat.add_mul] at this
   omega
  have hseg : Hid (RdI W (some ⟨b, off + k * c, none⟩) c (Im.rowK c l k)) := Lib.hid (HRW.seg (k * c) c hkc)
  have hmem : Hid (∀ x ∈ Im.rowK c l k, x ∈ (c : Int) :: (r : Int) :: l) := Lib.hid (fun x hx => by
   have := List.mem_of_mem_drop (List.mem_of_mem_take hx)
   simp [this])
  have HLC : Hid ((Lib.join (({ data := #[114, 111, 119] } :: (Im.rowK c l k).map f).map (·.data.toList)) [32]).length ≤ 1000000) := Lib.hid (line_len _ f _ (by decide) (by have := hseg.out.len; omega) (fun x hx => HF.out x (hmem.out x hx)))
  clear hI k0 hT1 HRW
  gi_wp2
  refine wpIn_region_planL [(0, true), (1, true), (2, false), (3, false)] W.heap.size 4 (by kernel_rfl) (by kernel_rfl) (by kernel_rfl) (fun ⟨_, _, h⟩ => h) (Nat.le_refl _) (fun _ _ d _ _ h => by cases d <;> exact h) ?_
  have hC : Below W.heap.size W W := Below.refl _ _
  repeat (first | (refine wpPlanLA_skip _ rfl (by rfl) ?_; simp only [Act.put, List.setIfInBounds_toArray, List.set_cons_zero, List.set_cons_succ]) | (refine wpPlanLA_soft _ ?_ rfl (by rfl) ?_ ?_; rotate_left; (intro wq hq hcq; go_simp; first | exact rfl | exact ⟨rfl, rfl⟩); simp only [Act.put, List.setIfInBounds_toArray, List.set_cons_zero, List.set_cons_succ]))
  refine wpPlanLA_hard _ rfl (by rfl) (fun w5 hS K hK => ?_)
  replace hC := hC.call hS rfl
  clear hS
  go_simp
  refine (c134 { data := #[114, 111, 119] } (some ⟨b, off + k * c, none⟩) c c (Im.rowK c l k) f _ (by omega) (hseg.out.below hC) (fun W x hx => HCL.out W x (hmem.out x hx)) HLC.out).mono ?_
  rintro e w6 ⟨rfl, hb⟩
  replace hC := hC.call hb rfl
  clear hb
  refine hK _ _ hC ?_
  clear hK K
  try simp only [Act.put, List.setIfInBounds_toArray, List.set_cons_zero, List.set_cons_succ]
  refine wpPlanLA_hard _ rfl (by rfl) (fun w5 hS K hK => ?_)
  replace hC := hC.call hS rfl
  clear hS
  go_simp
  obtain ⟨LN, hLN⟩ : ∃ L, L = lineB { data := #[114, 111, 119] } ((Im.rowK c l k).map f) := ⟨_, rfl⟩
  have hsz7 : ¬ (9223372036854775807 < T1.size + LN.size) := by
   have h1 := prT_size f c l T0 (fun x hx => HF.out x (by simp [hx])) (by omega) k
   have h2 := HLC.out
   have h3 := HTS.out
   rw [hLN, lineB_size, HT1.out]
   omega
  rw [← hLN, if_neg hsz7]
  have HLNE := Lib.hid hLN
  clear hLN hsz7
  dsimp only [Oper.upon]
  refine hK _ _ hC ?_
  clear hK K
  try simp only [Act.put, List.setIfInBounds_toArray, List.set_cons_zero, List.set_cons_succ]
  refine wpPlanLA_last _ rfl (by rfl) (fun w7 hS K hK => ?_)
  replace hC := hC.call hS rfl
  clear hS
  have k7 := blkb HK0.out hC
  have f7 := free_at k7 (i := 0)
  have l7 := cell_lt (cell_at k7 (i := 0) rfl)
  have c7 := cell_at k7 (i := 0) rfl
  have HC := Lib.hid hC
  clear hC
  go_simp
  try dsimp only [Oper.upon]
  refine hK _ _ (fun w8 hb8 => ?_)
  have hkk : KeepsFrom w4.heap.size W w8 := ((keepsF_below HC.out).trans (keepsF_set _ k7)).trans (keepsF_below hb8)
  have h7 := (HI.out.below HC.out).set (b := ob) (bs' := bs (prT f c l T0 (k + 1))) (.string (T1 ++ LN)) HWO.out k7 (fun x hx => by
   rw [HBS.out] at hx ⊢
   simp only [List.mem_cons, List.not_mem_nil, or_false] at hx
   obtain ⟨hn1, hn2⟩ := hob2.out
   rcases hx with rfl | rfl | rfl
   ·exact .inl ⟨rfl, by rw [HT1.out, HLNE.out]; rfl, rfl⟩
   ·exact .inr ⟨hn1, by simp⟩
   ·exact .inr ⟨hn2, by simp⟩)
  exact ⟨hkk, h7.below hb8⟩
end Go.Proofs.YtdimmlljjmmdbaaGreatDoor
namespace Go.Proofs.YtdimmlljjmmdbaaGreatDoor
open Go.RowKit Go.Shelf
set_option maxHeartbeats 8000000
set_option maxRecDepth 100000
theorem gr1234 : Im.Gr 2 2 [1, 2, 3, 4] := by
 refine ⟨by omega, by omega, by decide, fun i hi => ?_, fun i hi => ?_⟩
 ·match i, hi with
  | 0, _ => decide
  | 1, _ => decide
  | 2, _ => decide
  | 3, _ => decide
 ·match i, hi with
  | 0, _ => decide
  | 1, _ => decide
  | 2, _ => decide
  | 3, _ => decide
theorem prints : PrintS := by
 intro g W H
 have := c81_ok 2 2 g 0 4 4 [1, 2, 3, 4] (fun x => ⟨(Lib.decDigits x.toNat).toArray⟩) W gr1234 (by omega) (by omega) (by omega) (by omega) H (fun W x hx => ?_) (fun x hx => ?_)
 ·refine this.mono (fun e w' h => ⟨?_, h.2⟩)
  rw [h.1]
  congr 5
  decide +kernel
 ·have hx2 : x ∈ ([2, 2, 1, 2, 3, 4] : List Int) := hx
  obtain ⟨i, rfl⟩ : ∃ i : Nat, x = i := ⟨x.toNat, by simp at hx2; omega⟩
  have hi : i < 100 := by simp at hx2; omega
  exact Tryz.strconv_Itoa_small i hi W
 ·have hx2 : x ∈ ([2, 2, 1, 2, 3, 4] : List Int) := hx
  simp at hx2
  rcases hx2 with rfl | rfl | rfl | rfl | rfl <;> exact (by decide +kernel)
theorem c18 (w : World) (hst : Steps w) :
  Calls Tryz.prog 18 #[] w fun en w' => en = .returned (.bool true) ∧ Below w.heap.size w w' := c18_of prints w hst
end Go.Proofs.YtdimmlljjmmdbaaGreatDoor
