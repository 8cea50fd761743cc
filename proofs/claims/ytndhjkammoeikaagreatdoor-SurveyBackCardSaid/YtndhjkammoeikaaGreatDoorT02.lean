/- A part of the proofs about chapter 9: contracts of functions and plain laws (W86, W87, ShelfB, W88, W89, W90, W91, W92). -/
import Derived.Shelf.Strings.Builder1
import Derived.Shelf.Strings.Builder2
import Derived.Shelf.Strings.OnBuilder
import Derived.Shelf.Small.Strs
import Derived.Shelf.Small.Wraps
import Derived.Shelf.Strings.BuilderF
import Derived.Shelf.Strings.BuilderK
import Derived.Shelf.Utf8.RuneCount
import Derived.Shelf.Strings.Builder2Cap
import Derived.Shelf.Strconv.Itoa0
import Derived.Shelf.Strconv.Itoa1
import Derived.Shelf.LaysM
import Derived.Shelf.Strconv.Itoa2
import Derived.Shelf.Strconv.Itoa3
import Derived.Shelf.Strings.Search1
import Derived.Shelf.Strings.Search2
import Derived.Shelf.Strings.Search3
import Derived.Shelf.Strings.Count
import Derived.Shelf.Strings.Shaped
import Derived.Shelf.Strings.Prefix
import Derived.Shelf.Strings.Split
import Derived.Shelf.Strings.SplitShaped
import Derived.Shelf.Unicode.Decode
import Derived.Shelf.Strings.RuneCount
import Derived.Shelf.Strings.Explode
import Derived.Shelf.Unicode.DecodeSlow
import Derived.Shelf.Unicode.DecodeAny
import Derived.Shelf.Strings.BuilderCap
import Derived.Test.YtndhjkammoeikaaGreatDoorProg
import Derived.RangeFuncNested
import Derived.RangeFuncBound
import Derived.RangeFuncCalls
import Derived.RangeFuncLeaves
import Derived.Shelf.Abstract
import Derived.Shelf.RegionOpen
import Derived.OwnWalkIn
import Derived.TacticsInMore
import Derived.LoopNIn
import Derived.LoopIn
import Derived.BigRegion
import Derived.Test.YtndhjkammoeikaaGreatDoorT01
set_option linter.all false
namespace Go.Proofs.YtndhjkammoeikaaGreatDoor
open Go.RowKit
set_option maxHeartbeats 4000000
set_option maxRecDepth 20000

/-- the taker's block, and the words that are left (they lie below it) -/
structure Tkr (w : World) (b : Nat) (ws : List (List UInt8)) (wr : Bool) (A : Option Addr) : Prop where
  blk : w.heap[b]? = some (.cells #[.slice A ws.length ws.length, .bool wr] 232 (0, 0))
  rd : ∀ x r, ws = x :: r → ∃ g off, A = some ⟨g, off, none⟩ ∧ g < b ∧ ∀ j, j < ws.length → w.cell? ⟨g, off + j, none⟩ = (Tx.cells ws)[j]?
theorem Tkr.below {w w' : World} {b : Nat} {ws : List (List UInt8)} {wr : Bool} {A : Option Addr} (h : Tkr w b ws wr A) (hb : Below w.heap.size w w') : Tkr w' b ws wr A := by
  have hlt := (Array.getElem?_eq_some_iff.1 h.blk).1
  refine ⟨(hb.block b hlt).trans h.blk, fun x r e => ?_⟩
  obtain ⟨g, off, hA, hg, hc⟩ := h.rd x r e
  exact ⟨g, off, hA, hg, fun j hj => (hb.cell (p := ⟨g, off + j, none⟩) (Nat.lt_trans hg hlt)).trans (hc j hj)⟩
theorem heap_set {w : World} {b i : Nat} {cs : Array Value} {t : TypeId} {f : Nat × Nat} (v : Value) (h : w.heap[b]? = some (.cells cs t f)) : (w.setCell ⟨b, i, none⟩ v).heap[b]? = some (.cells (cs.setIfInBounds i v) t f) := by
  simp [World.setCell, Array.getElem?_modify, h]
theorem below_set {w : World} {b i : Nat} (v : Value) : Below b w (w.setCell ⟨b, i, none⟩ v) := (Below.refl b w).setCell (p := ⟨b, i, none⟩) (Nat.le_refl _) v
/-- all blocks but one stay -/
structure Only (b : Nat) (w w' : World) : Prop where
  bel : Below b w w'
  size : w.heap.size ≤ w'.heap.size
  same : ∀ i o, w.heap[i]? = some o → i ≠ b → w'.heap[i]? = some o
theorem Only.trans {b : Nat} {a c d : World} (h : Only b a c) (k : Only b c d) : Only b a d := ⟨h.bel.trans k.bel, Nat.le_trans h.size k.size, fun i o ho hb => k.same i o (h.same i o ho hb) hb⟩
theorem Only.of_below {b : Nat} {w w' : World} (h : Below w.heap.size w w') (hb : b < w.heap.size) : Only b w w' := ⟨h.mono (Nat.le_of_lt hb), h.size, fun i o ho _ => (h.block i (Array.getElem?_eq_some_iff.1 ho).1).trans ho⟩
theorem Only.set (b i : Nat) (w : World) (v : Value) : Only b w (w.setCell ⟨b, i, none⟩ v) := ⟨below_set v, by simp, fun j o ho hj => (Below.heap_setCell w ⟨b, i, none⟩ v j (by simpa using hj)).trans ho⟩
/-- what a taking leaves -/
def TkPost (w : World) (b : Nat) (ws : List (List UInt8)) (wr : Bool) (v : Value) (e : Ending) (w' : World) : Prop := ∃ A, e = .returned v ∧ Tkr w' b ws wr A ∧ Only b w w'
theorem TkPost.nil {w w' : World} {b : Nat} {v : Value} (h : w'.heap[b]? = some (.cells #[.slice none 0 0, .bool true] 232 (0, 0))) (hb : Only b w w') : TkPost w b [] true v (.returned v) w' :=
  ⟨none, rfl, ⟨h, fun x r e => by cases e⟩, hb⟩
theorem c142 (b : Nat) (ws : List (List UInt8)) (wr : Bool) (A : Option Addr) (w : World) (hl : ws.length ≤ 1000000) (h : Tkr w b ws wr A) :
    Calls Tryz.prog 142 #[.pointer (some ⟨b, 0, none⟩)] w (TkPost w b (Tx.tl ws) (wr || Tx.bad ws) (.string (Tx.bs (Tx.wd ws)))) := by
  have hblk := h.blk
  have k0 := cell_at (i := 0) hblk rfl
  have k1 := cell_at (i := 1) hblk rfl
  have f0 : ∀ o, w.frozen? ⟨b, o, none⟩ = false := fun o => free_at hblk
  match ws with
  | [] =>
    have HT : Hid (∀ w', w'.heap[b]? = some (.cells #[.slice none 0 0, .bool true] 232 (0, 0)) → Only b w w' → TkPost w b (Tx.tl []) (wr || Tx.bad []) (.string (Tx.bs (Tx.wd []))) (.returned (.string { data := #[] })) w') := Lib.hid (fun w' h1 h2 => by
      rw [show (wr || Tx.bad []) = true by cases wr <;> rfl]
      exact TkPost.nil h1 h2)
    have HS : Hid (((w.setCell ⟨b, 0, none⟩ (.slice none 0 0)).setCell ⟨b, 1, none⟩ (.bool true)).heap[b]? = some (.cells #[.slice none 0 0, .bool true] 232 (0, 0))) := Lib.hid (heap_set _ (heap_set _ hblk))
    obtain ⟨wd0, hwd⟩ : ∃ v, v = Value.string (Tx.bs (Tx.wd [])) := ⟨_, rfl⟩
    rw [← hwd] at HT ⊢
    clear hwd hblk h
    obtain ⟨P, hP⟩ : ∃ P, P = TkPost w b (Tx.tl []) (wr || Tx.bad []) wd0 := ⟨_, rfl⟩
    rw [← hP] at HT ⊢
    clear hP
    simp only [List.length_nil] at k0
    go_enter Tryz.func142, Tryz.ntmps142
    go_wp2
    exact HT.out _ HS.out ((Only.set _ _ _ _).trans (Only.set _ _ _ _))
  | x :: r =>
    obtain ⟨g, off, rfl, hg, hc⟩ := h.rd x r rfl
    have c0 : w.cell? ⟨g, off, none⟩ = some (.string (Tx.bs x)) := hc 0 (by simp)
    have hgb : ¬ g = b := by omega
    have hez := empty_bs x
    obtain ⟨N, hN⟩ : ∃ N, N = (x :: r).length := ⟨_, rfl⟩
    rw [← hN] at k0
    have hN1 : N = r.length + 1 := by simp [hN]
    have hn0 : ((N : Int) == 0) = false := by simp; omega
    have hn1 : (N == 0) = false := by simp; omega
    have hNp : (0 : Int) < (N : Int) := by omega
    cases hx : x.isEmpty
    · rw [hx] at hez
      have htl : Tx.tl (x :: r) = r := by show (if x.isEmpty then [] else r) = r; rw [hx]; rfl
      have hbd : (wr || Tx.bad (x :: r)) = wr := by show (wr || x.isEmpty) = wr; rw [hx]; simp
      have hwd : Tx.wd (x :: r) = x := rfl
      rw [htl, hbd, hwd]
      obtain ⟨M, hM⟩ : ∃ M, M = r.length := ⟨_, rfl⟩
      have hNM : N = M + 1 := by omega
      subst hNM
      have hsl : ∃ A', (∀ W : World, (Instr.slice 88 (.slice (some ⟨g, off, none⟩) (M + 1) (M + 1)) (some (.int .i64 1)) none none).run Tryz.prog W = .ok (.slice (some A') M M) W) ∧ (0 < M → A' = ⟨g, off + 1, none⟩) := by
        refine ⟨if M = 0 then ⟨g, off, none⟩ else ⟨g, off + 1, none⟩, fun W => ?_, fun h => by rw [if_neg (by omega)]⟩
        rw [run_slice_l (P := Tryz.prog) W 88 (some ⟨g, off, none⟩) (M + 1) (M + 1) (by kernel_rfl) .i64 1 (by omega) (by omega)]
        have hse : (sizeOf (Tryz.prog.elem 88)).run Tryz.prog W = .ok 1 W := by
          have : Tryz.prog.elem 88 = 9 := by kernel_rfl
          rw [this]
          go_simp
        rw [hse]
        simp only [Result.andThen_ok, sliced, Nat.add_sub_cancel, Int.toNat_one]
        by_cases h0 : M = 0
        · subst h0; simp
        · rw [if_neg (by omega), if_neg h0]
          simp [Addr.add]
      obtain ⟨A', hsl, hA'⟩ := hsl
      have HT : Hid (∀ w', w'.heap[b]? = some (.cells #[.slice (some A') M M, .bool wr] 232 (0, 0)) → Only b w w' → TkPost w b r wr (.string (Tx.bs x)) (.returned (.string (Tx.bs x))) w') := Lib.hid (fun w' h1 h2 => by
        refine ⟨some A', rfl, ⟨by rw [← hM]; exact h1, fun y t e => ?_⟩, h2⟩
        have hM0 : 0 < M := by rw [hM, e]; simp
        refine ⟨g, off + 1, by rw [hA' hM0], hg, fun j hj => ?_⟩
        have := hc (j + 1) (by simp; omega)
        rw [show off + 1 + j = off + (j + 1) by omega]
        exact (h2.bel.cell (p := ⟨g, off + (j + 1), none⟩) hg).trans (this.trans (by simp [Tx.cells])))
      have HS : Hid ((w.setCell ⟨b, 0, none⟩ (.slice (some A') M M)).heap[b]? = some (.cells #[.slice (some A') M M, .bool wr] 232 (0, 0))) := Lib.hid (heap_set _ hblk)
      obtain ⟨X, hX⟩ : ∃ L, L = Tx.bs x := ⟨_, rfl⟩
      rw [← hX] at c0 hez HT ⊢
      obtain ⟨P, hP⟩ : ∃ P, P = TkPost w b r wr (.string X) := ⟨_, rfl⟩
      rw [← hP] at HT ⊢
      clear hP hblk h hX hx hc hM htl hbd hwd hA' hN hN1
      go_enter Tryz.func142, Tryz.ntmps142
      go_wp2
      exact HT.out _ HS.out (Only.set _ _ _ _)
    · rw [hx] at hez
      have HT : Hid (∀ w', w'.heap[b]? = some (.cells #[.slice none 0 0, .bool true] 232 (0, 0)) → Only b w w' → TkPost w b (Tx.tl (x :: r)) (wr || Tx.bad (x :: r)) (.string (Tx.bs (Tx.wd (x :: r)))) (.returned (.string { data := #[] })) w') := Lib.hid (fun w' h1 h2 => by
        obtain rfl : x = [] := by simpa using hx
        rw [show (wr || Tx.bad ([] :: r)) = true by cases wr <;> rfl]
        exact TkPost.nil h1 h2)
      have HS : Hid (((w.setCell ⟨b, 0, none⟩ (.slice none 0 0)).setCell ⟨b, 1, none⟩ (.bool true)).heap[b]? = some (.cells #[.slice none 0 0, .bool true] 232 (0, 0))) := Lib.hid (heap_set _ (heap_set _ hblk))
      obtain ⟨P, hP⟩ : ∃ P, P = TkPost w b (Tx.tl (x :: r)) (wr || Tx.bad (x :: r)) (.string (Tx.bs (Tx.wd (x :: r)))) := ⟨_, rfl⟩
      rw [← hP] at HT ⊢
      obtain ⟨X, hX⟩ : ∃ L, L = Tx.bs x := ⟨_, rfl⟩
      rw [← hX] at c0 hez
      clear hP hblk h hX hx hc hN hN1
      go_enter Tryz.func142, Tryz.ntmps142
      go_wp2
      exact HT.out _ HS.out ((Only.set _ _ _ _).trans (Only.set _ _ _ _))

end Go.Proofs.YtndhjkammoeikaaGreatDoor
namespace Go.Proofs.YtndhjkammoeikaaGreatDoor
open Go.RowKit
set_option maxHeartbeats 4000000
set_option maxRecDepth 20000

theorem Tkr.set {w : World} {b : Nat} {ws : List (List UInt8)} {wr : Bool} {A : Option Addr} (h : Tkr w b ws wr A) (wr' : Bool) : Tkr (w.setCell ⟨b, 1, none⟩ (.bool wr')) b ws wr' A := by
  refine ⟨heap_set _ h.blk, fun x r e => ?_⟩
  obtain ⟨g, off, hA, hg, hc⟩ := h.rd x r e
  exact ⟨g, off, hA, hg, fun j hj => ((below_set (w := w) (b := b) (i := 1) (.bool wr')).cell (p := ⟨g, off + j, none⟩) hg).trans (hc j hj)⟩
theorem bad_or (wr : Bool) (ws : List (List UInt8)) : ((wr || Tx.bad ws) || !Tx.num (Tx.wd ws)) = (wr || !Tx.num (Tx.wd ws)) := by
  cases h : Tx.bad ws
  · simp
  · rw [Tx.bad_num h]; simp
theorem c141 (b : Nat) (ws : List (List UInt8)) (wr : Bool) (A : Option Addr) (w : World) (hl : ws.length ≤ 1000000) (hp : (Tx.wd ws).length ≤ 1000000) (h : Tkr w b ws wr A) :
    Calls Tryz.prog 141 #[.pointer (some ⟨b, 0, none⟩)] w (TkPost w b (Tx.tl ws) (wr || !Tx.num (Tx.wd ws)) (.int .i64 (Tx.iv (Tx.wd ws)))) := by
  have h142 := c142 b ws wr A w hl h
  have h172 := fun W => c172 (Tx.bs (Tx.wd ws)) W (by rw [Tx.bs_size]; exact hp)
  rw [Tx.bs_toList] at h172
  have hbo := bad_or wr ws
  obtain ⟨q, hq⟩ : ∃ q, q = (wr || Tx.bad ws) := ⟨_, rfl⟩
  obtain ⟨n, hn⟩ : ∃ n, n = Tx.num (Tx.wd ws) := ⟨_, rfl⟩
  obtain ⟨v, hv⟩ : ∃ v, v = Tx.iv (Tx.wd ws) := ⟨_, rfl⟩
  obtain ⟨X, hX⟩ : ∃ X, X = Tx.bs (Tx.wd ws) := ⟨_, rfl⟩
  obtain ⟨T, hT⟩ : ∃ T, T = Tx.tl ws := ⟨_, rfl⟩
  rw [← hq, ← hX, ← hT] at h142
  rw [← hn, ← hX, ← hv] at h172
  rw [← hq, ← hn] at hbo
  rw [← hn, ← hv, ← hT, ← hbo]
  have H142 := Lib.hid h142
  have H172 := Lib.hid h172
  have hlt : b < w.heap.size := (Array.getElem?_eq_some_iff.1 h.blk).1
  clear h142 h172 hbo hq hn hv hX hT h hl hp
  go_enter Tryz.func141, Tryz.ntmps141
  go_wp2_with fail
  refine H142.out.mono ?_
  rintro e w1 ⟨A1, rfl, h1, hb1⟩
  go_wp2_with fail
  refine (H172.out _).mono ?_
  rintro e w2 ⟨rfl, hb2⟩
  have h2 := h1.below hb2
  have hbb : Only b w w2 := hb1.trans (Only.of_below hb2 (Nat.lt_of_lt_of_le hlt hb1.size))
  have k1 := cell_at (i := 1) h2.blk rfl
  have f0 : ∀ o, w2.frozen? ⟨b, o, none⟩ = false := fun o => free_at h2.blk
  have HT : Hid (∀ q', TkPost w b T q' (.int .i64 v) (.returned (.int .i64 v)) (w2.setCell ⟨b, 1, none⟩ (.bool q'))) := Lib.hid (fun q' => ⟨A1, rfl, h2.set q', hbb.trans (Only.set _ _ _ _)⟩)
  clear h1 hb1 hb2 h2
  cases q <;> cases n
  all_goals
    go_wp2
    go_ret
    exact HT.out _

end Go.Proofs.YtndhjkammoeikaaGreatDoor
/-
  DERIVED: THE SHELF's CONTRACTS AT THIS DUMP, IN PLAIN WORDS (tools/lay-plain.mjs out of 'TryzShelf.lean', which tools/lay-shelf.mjs wrote): THE SAME DECLARATIONS UNDER THE SAME NAMES: 'import', 'namespace', 'open', 'def', 'theorem' AND NOTHING ELSE: no command of the shelf's: FOR A HAND-IN. Each laying: the table of numbers ('.._ren') and one theorem, a field a fact of the dump's own or the kernel's comparison; each contract: ONE APPLICATION.
-/
namespace Go.Proofs
open Go.Shelf
def Tryz.lays137_ren : Go.Shelf.Ren := ⟨fun | 137 => 169 | 217 => 181 | 266 => 192 | n => n, fun | 9 => 9 | 5 => 5 | 3 => 3 | n => n, fun | n => n⟩
theorem Tryz.lays137 : Go.Proofs.Lays.n137 Tryz.prog Tryz.lays137_ren := {
  mixed := by kernel_rfl
  f137 := Tryz.func169.trans (congrArg some (by kernel_rfl))
  f217 := Tryz.func181.trans (congrArg some (by kernel_rfl))
  f266 := Tryz.func192.trans (congrArg some (by kernel_rfl))
  t3 := Tryz.underlying3
  a3 := Tryz.isAgg3
  z3 := Tryz.sizeOf3
  v3 := Tryz.zeroValue3
  t5 := Tryz.underlying5
  a5 := Tryz.isAgg5
  z5 := Tryz.sizeOf5
  v5 := Tryz.zeroValue5
  t9 := Tryz.underlying9
  a9 := Tryz.isAgg9
  z9 := Tryz.sizeOf9
  v9 := Tryz.zeroValue9 }
open Go.RowKit in
/-- strings.IndexByte: "IndexByte returns the index of the first instance of c in s, or -1 if c is not present in s.": IT RETURNS 'Lib.indexByte s c'; the world is as it was. (LAID: no walk: one application.) -/
theorem Tryz.strings_IndexByte (s : ByteArray) (c : Int) (w : World) :
    Calls Tryz.prog 169 #[.string s, .int .u8 c] w fun e w' => e = .returned (.int .i64 (Lib.indexByte s.data.toList c.toNat.toUInt8)) ∧ w' = w := Any.strings_IndexByte Tryz.lays137 s c w
def Tryz.lays104_ren : Go.Shelf.Ren := ⟨fun | 104 => 139 | 211 => 170 | 207 => 182 | n => n, fun | 9 => 9 | 4 => 4 | 24 => 227 | 3 => 3 | n => n, fun | n => n⟩
theorem Tryz.lays104 : Go.Proofs.Lays.n104 Tryz.prog Tryz.lays104_ren := {
  mixed := by kernel_rfl
  f104 := Tryz.func139.trans (congrArg some (by kernel_rfl))
  f207 := Tryz.func182.trans (congrArg some (by kernel_rfl))
  f211 := Tryz.func170.trans (congrArg some (by kernel_rfl))
  t3 := Tryz.underlying3
  a3 := Tryz.isAgg3
  z3 := Tryz.sizeOf3
  v3 := Tryz.zeroValue3
  t4 := Tryz.underlying4
  a4 := Tryz.isAgg4
  z4 := Tryz.sizeOf4
  v4 := Tryz.zeroValue4
  t9 := Tryz.underlying9
  a9 := Tryz.isAgg9
  z9 := Tryz.sizeOf9
  v9 := Tryz.zeroValue9
  t24 := Tryz.underlying227
  a24 := Tryz.isAgg227
  z24 := Tryz.sizeOf227
  v24 := Tryz.zeroValue227 }
open Go.RowKit in
/-- strings.CutSuffix: "CutSuffix returns s without the provided ending suffix string and reports whether it found the suffix. If s doesn't end with suffix, CutSuffix returns s, false. If suffix is the empty string, CutSuffix returns s, true.": IT RETURNS '(Lib.trimSuffix s p, Lib.hasSuffix s p)'; the world is as it was. (LAID: no walk: one application.) -/
theorem Tryz.strings_CutSuffix (s p : ByteArray) (w : World) (hs : s.size ≤ 9223372036854775807) :
    Calls Tryz.prog 139 #[.string s, .string p] w fun e w' => e = .returned (.tuple #[.string ⟨(Lib.trimSuffix s.data.toList p.data.toList).toArray⟩, .bool (Lib.hasSuffix s.data.toList p.data.toList)]) ∧ w' = w := Any.strings_CutSuffix Tryz.lays104 s p w hs
def Tryz.lays146_ren : Go.Shelf.Ren := ⟨fun | 146 => 140 | 221 => 171 | 268 => 183 | 138 => 184 | 143 => 185 | 195 => 193 | 197 => 194 | 218 => 195 | 219 => 196 | 260 => 202 | 217 => 181 | 225 => 203 | 224 => 204 | 267 => 205 | 266 => 192 | 314 => 208 | n => n, fun | 9 => 9 | 31 => 88 | 3 => 3 | 4 => 4 | 0 => 0 | 105 => 275 | 21 => 21 | 5 => 5 | 46 => 282 | 119 => 285 | 139 => 288 | 138 => 287 | 146 => 289 | 51 => 280 | n => n, fun | 1 => 0 | 3 => 2 | 4 => 3 | n => n⟩
theorem Tryz.lays146 : Go.Proofs.Lays.n146 Tryz.prog Tryz.lays146_ren := {
  mixed := by kernel_rfl
  f138 := Tryz.func184.trans (congrArg some (by kernel_rfl))
  f143 := Tryz.func185.trans (congrArg some (by kernel_rfl))
  f146 := Tryz.func140.trans (congrArg some (by kernel_rfl))
  f195 := Tryz.func193.trans (congrArg some (by kernel_rfl))
  f197 := Tryz.func194.trans (congrArg some (by kernel_rfl))
  f217 := Tryz.func181.trans (congrArg some (by kernel_rfl))
  f218 := Tryz.func195.trans (congrArg some (by kernel_rfl))
  f219 := Tryz.func196.trans (congrArg some (by kernel_rfl))
  f221 := Tryz.func171.trans (congrArg some (by kernel_rfl))
  f224 := Tryz.func204.trans (congrArg some (by kernel_rfl))
  f225 := Tryz.func203.trans (congrArg some (by kernel_rfl))
  f260 := Tryz.func202.trans (congrArg some (by kernel_rfl))
  f266 := Tryz.func192.trans (congrArg some (by kernel_rfl))
  f267 := Tryz.func205.trans (congrArg some (by kernel_rfl))
  f268 := Tryz.func183.trans (congrArg some (by kernel_rfl))
  f314 := Tryz.func208.trans (congrArg some (by kernel_rfl))
  t0 := Tryz.underlying0
  a0 := Tryz.isAgg0
  z0 := Tryz.sizeOf0
  v0 := Tryz.zeroValue0
  t3 := Tryz.underlying3
  a3 := Tryz.isAgg3
  z3 := Tryz.sizeOf3
  v3 := Tryz.zeroValue3
  t4 := Tryz.underlying4
  a4 := Tryz.isAgg4
  z4 := Tryz.sizeOf4
  v4 := Tryz.zeroValue4
  t5 := Tryz.underlying5
  a5 := Tryz.isAgg5
  z5 := Tryz.sizeOf5
  v5 := Tryz.zeroValue5
  t9 := Tryz.underlying9
  a9 := Tryz.isAgg9
  z9 := Tryz.sizeOf9
  v9 := Tryz.zeroValue9
  t21 := Tryz.underlying21
  a21 := Tryz.isAgg21
  z21 := Tryz.sizeOf21
  v21 := Tryz.zeroValue21
  t31 := Tryz.underlying88
  a31 := Tryz.isAgg88
  z31 := Tryz.sizeOf88
  v31 := Tryz.zeroValue88
  t46 := Tryz.underlying282
  a46 := Tryz.isAgg282
  z46 := Tryz.sizeOf282
  v46 := Tryz.zeroValue282
  t51 := Tryz.underlying280
  a51 := Tryz.isAgg280
  z51 := Tryz.sizeOf280
  v51 := Tryz.zeroValue280
  t105 := Tryz.underlying275
  a105 := Tryz.isAgg275
  z105 := Tryz.sizeOf275
  v105 := Tryz.zeroValue275
  t119 := Tryz.underlying285
  a119 := Tryz.isAgg285
  z119 := Tryz.sizeOf285
  t138 := Tryz.underlying287
  a138 := Tryz.isAgg287
  z138 := Tryz.sizeOf287
  v138 := Tryz.zeroValue287
  t139 := Tryz.underlying288
  a139 := Tryz.isAgg288
  z139 := Tryz.sizeOf288
  v139 := Tryz.zeroValue288
  t146 := Tryz.underlying289
  a146 := Tryz.isAgg289
  z146 := Tryz.sizeOf289
  v146 := Tryz.zeroValue289
  g1 := by kernel_rfl
  g3 := by kernel_rfl
  g4 := by kernel_rfl }
open Go.RowKit Go.Lib in
/-- strings.Split. (LAID: no walk: one application.) -/
theorem Tryz.strings_Split (s sep : ByteArray) (m : Int) (w : World) (hs : s.size < 4294967281) (hm : w.cell? ⟨0, 0, none⟩ = some (.int .i64 m)) (h1 : 1 ≤ sep.size) :
    Calls Tryz.prog 140 #[.string s, .string sep] w fun e w' =>
      e = .returned (.slice (some ⟨w.heap.size, 0, none⟩) (Lib.countB s sep + 1) (Lib.countB s sep + 1)) ∧ w' = w.alloc (.cells ((Lib.splitB sep 0 (Lib.countB s sep) s).map Value.string).toArray 9) := Any.strings_Split Tryz.lays146 (by kernel_rfl) s sep m w hs hm h1
end Go.Proofs
namespace Go.Proofs.YtndhjkammoeikaaGreatDoor
open Go.RowKit Go.Shelf
set_option maxHeartbeats 4000000
set_option maxRecDepth 100000
attribute [local go_sem] Oper.semAt_some
namespace Tx
/-- the first line of a text, with its end; what is left behind it -/
def lineOf (s : List UInt8) : List UInt8 := if Lib.indexByte s 10 = -1 then s else s.take ((Lib.indexByte s 10).toNat + 1)
def restOf (s : List UInt8) : List UInt8 := if Lib.indexByte s 10 = -1 then [] else s.drop ((Lib.indexByte s 10).toNat + 1)
theorem line_miss {s : List UInt8} (h : Lib.indexByte s 10 = -1) : lineOf s = s ∧ restOf s = [] := by unfold lineOf restOf; rw [if_pos h, if_pos h]; exact ⟨rfl, rfl⟩
theorem line_hit {s : List UInt8} {i : Nat} (h : Lib.indexByte s 10 = i) : lineOf s = s.take (i + 1) ∧ restOf s = s.drop (i + 1) := by
  unfold lineOf restOf
  rw [if_neg (by omega), if_neg (by omega), h]; exact ⟨rfl, rfl⟩
theorem bs_pre (l : List UInt8) (i : Nat) : (bs l).extract 0 i = bs (l.take i) := by
  rw [Go.Lib.extract_eq, bs_toList]; simp [bs]
theorem bs_suf (l : List UInt8) (i n : Nat) (hn : n = l.length) : (bs l).extract i n = bs (l.drop i) := by
  subst hn
  rw [Go.Lib.extract_eq, bs_toList, List.take_of_length_le (by simp)]; rfl
end Tx
def cellLen (p : Nat) (w : World) : Nat := match w.cell? ⟨p, 0, none⟩ with | some (.string b) => b.size | _ => 0
theorem cell_lt {w : World} {p o : Nat} {v : Value} (h : w.cell? ⟨p, o, none⟩ = some v) : p < w.heap.size := by
  unfold World.cell? at h
  cases hh : w.heap[p]? with
  | none => rw [hh] at h; simp at h
  | some o => exact (Array.getElem?_eq_some_iff.1 hh).1
theorem cellLen_eq {p : Nat} {w : World} {l : List UInt8} (h : w.cell? ⟨p, 0, none⟩ = some (.string (Tx.bs l))) : cellLen p w = l.length := by unfold cellLen; rw [h]; exact Tx.bs_size l
/-- the iterator of strings.Lines; its text lies in a cell that it turns itself -/
theorem lines_in (n : Nat) (hn : 1 ≤ n) (lr p : Nat) (J J1 : List UInt8 → World → Prop) (Jx : World → Prop)
    (hc : ∀ s W, J s W → W.cell? ⟨p, 0, none⟩ = some (.string (Tx.bs s)) ∧ W.frozen? ⟨p, 0, none⟩ = false)
    (hst : ∀ s W W1, s ≠ [] → J s W → Below W.heap.size W W1 → J1 s (W1.setCell ⟨p, 0, none⟩ (.string (Tx.bs (Tx.restOf s)))))
    (hY : ∀ s W, s ≠ [] → J1 s W → YieldAt Fence.wide (n - 1) Tryz.prog lr #[.string (Tx.bs (Tx.lineOf s))] W fun e W' => (e = .returned (.bool true) ∧ J (Tx.restOf s) W') ∨ (e = .returned (.bool false) ∧ Jx W'))
    (s0 : List UInt8) (hs : s0.length ≤ 1000000) (W : World) (h0 : J s0 W) :
    CallsIn Fence.wide n Tryz.prog 168 #[.func (.yield lr) #[] #[], .pointer (some ⟨p, 0, none⟩)] W fun e W' => (∃ v, e = .returned v) ∧ (J [] W' ∨ Jx W') := by
  have HY := Lib.hid hY
  have HST := Lib.hid hst
  clear hY hst
  refine callsIn_of_wp Tryz.func168 rfl trivial ?_ rfl
  simp only [Tryz.ntmps168, List.size_toArray, List.length_cons, List.length_nil, Nat.reduceAdd, Nat.reduceSub, Array.replicate_succ, Array.replicate_zero, List.push_toArray, List.append_toArray, List.nil_append, List.cons_append]
  gi_wp2
  gi_loopw [] (fun wr => ∃ s : List UInt8, s.length ≤ 1000000 ∧ J s wr) (fun wr => cellLen p wr)
  case atStart => exact ⟨s0, hs, h0⟩
  case round =>
    obtain ⟨s, hsl, hJ⟩ := hrel
    obtain ⟨k0, f0⟩ := hc s wr hJ
    have hsz := Tx.bs_size s
    have HCL := Lib.hid (cellLen_eq k0)
    by_cases hs0 : s = []
    · subst hs0
      have hz : (Tx.bs []).size = 0 := rfl
      gi_wp2
      go_end0
      exact ⟨⟨_, rfl⟩, .inl hJ⟩
    · have hpos : 0 < s.length := List.length_pos_iff.2 hs0
      obtain ⟨S, hS⟩ : ∃ S, S = Tx.bs s := ⟨_, rfl⟩
      rw [← hS] at k0 hsz
      have hp2 : (0 : Int) < (S.size : Int) := by omega
      rcases Tx.indexByte_cases s 10 with hi | ⟨i, hi⟩
      · have H169 : Hid (∀ W, Calls Tryz.prog 169 #[.string S, .int .u8 10] W fun e w' => e = .returned (.int .i64 (-1)) ∧ W = w') := Lib.hid (fun W => by
          have := (Tryz.strings_IndexByte S 10 W).mono (fun e w' h => (⟨h.1, h.2.symm⟩ : _ ∧ W = w'))
          rw [hS] at this ⊢
          rw [show (Lib.indexByte (Tx.bs s).data.toList (10 : Int).toNat.toUInt8) = -1 from hi] at this
          exact this)
        obtain ⟨hl, hr⟩ := Tx.line_miss hi
        have hJ1 := HST.out s wr wr hs0 hJ (Below.refl _ _)
        rw [hr] at hJ1
        obtain ⟨fn, tmps, assign, body, hy, hR⟩ := HY.out s _ hs0 hJ1
        rw [hl, ← hS] at hy
        rw [hr] at hR
        have HJr : Hid (∀ W', J [] W' → cellLen p W' < cellLen p wr) := Lib.hid (fun W' hW' => by
          rw [cellLen_eq (hc _ _ hW').1, HCL.out]; simpa using hpos)
        have he : Tx.bs [] = { data := #[] } := rfl
        rw [he] at hy hR
        clear hJ1 hi hl hr hS hc hJ hs0 he
        gi_wp2_with (refine ⟨trivial, ?_⟩; gi_at_call 169; refine (callsIn_wide.2 (H169.out _)).mono ?_; rintro e w' ⟨rfl, rfl⟩)
        refine hR.mono ?_
        rintro e W3 (⟨rfl, hJ3⟩ | ⟨rfl, hJx3⟩)
        · have HJ3 := Lib.hid hJ3
          clear hJ3 hy hR
          gi_wp2
          go_roundw
          case rel => exact ⟨[], by simp, HJ3.out⟩
          case measure => exact HJr.out _ HJ3.out
        · gi_wp2
          refine bodyPost_ret (results_none rfl _ _ _) rfl ?_
          exact ⟨⟨_, rfl⟩, .inr hJx3⟩
      · obtain ⟨hil, _, _⟩ := Tx.indexByte_some hi
        have H169 : Hid (∀ W, Calls Tryz.prog 169 #[.string S, .int .u8 10] W fun e w' => e = .returned (.int .i64 i) ∧ W = w') := Lib.hid (fun W => by
          have := (Tryz.strings_IndexByte S 10 W).mono (fun e w' h => (⟨h.1, h.2.symm⟩ : _ ∧ W = w'))
          rw [hS] at this ⊢
          rw [show (Lib.indexByte (Tx.bs s).data.toList (10 : Int).toNat.toUInt8) = i from hi] at this
          exact this)
        obtain ⟨hl, hr⟩ := Tx.line_hit hi
        have hi1 : (i : Int) + 1 ≤ (S.size : Int) := by omega
        have hi0 : (0 : Int) ≤ (i : Int) := by omega
        have hiw : IntKind.i64.wrap ((i : Int) + 1) = (i : Int) + 1 := by rw [IntKind.wrap_i64]; omega
        have hit : ((i : Int) + 1).toNat = i + 1 := by omega
        have hx1 : S.extract 0 (i + 1) = Tx.bs (Tx.lineOf s) := by rw [hS, hl]; exact Tx.bs_pre _ _
        have hx2 : S.extract (i + 1) S.size = Tx.bs (Tx.restOf s) := by rw [hsz, hS, hr]; exact Tx.bs_suf _ _ _ rfl
        obtain ⟨LN, hLN⟩ : ∃ L, L = Tx.bs (Tx.lineOf s) := ⟨_, rfl⟩
        obtain ⟨RS, hRS⟩ : ∃ L, L = Tx.bs (Tx.restOf s) := ⟨_, rfl⟩
        have HRL : Hid ((Tx.restOf s).length < s.length ∧ (Tx.restOf s).length ≤ 1000000) := Lib.hid (by rw [hr, List.length_drop]; omega)
        have HST2 : Hid (∀ W1, Below wr.heap.size wr W1 → YieldAt Fence.wide (n - 1) Tryz.prog lr #[.string LN] (W1.setCell ⟨p, 0, none⟩ (.string RS)) fun e W' => (e = .returned (.bool true) ∧ J (Tx.restOf s) W') ∨ (e = .returned (.bool false) ∧ Jx W')) := Lib.hid (fun W1 hb => by
          rw [hLN, hRS]
          exact HY.out s _ hs0 (HST.out s wr W1 hs0 hJ hb))
        have HJr : Hid (∀ W', J (Tx.restOf s) W' → cellLen p W' < cellLen p wr) := Lib.hid (fun W' hW' => by
          rw [cellLen_eq (hc _ _ hW').1, HCL.out]; exact HRL.out.1)
        have hpl : p < wr.heap.size := cell_lt k0
        rw [← hLN] at hx1
        rw [← hRS] at hx2
        have HX1 := Lib.hid hx1
        have HX2 := Lib.hid hx2
        clear hi hil hl hr hx1 hx2 hLN hRS hS hc hJ hs0 hsz
        gi_wp2_with (refine ⟨trivial, ?_⟩; gi_at_call 169; refine (callsIn_wide.2 (H169.out _)).mono ?_; rintro e w' ⟨rfl, rfl⟩)
        refine wpIn_wide.2 ?_
        refine wp_region_splitG 9 (by kernel_rfl) (by kernel_rfl) ?_
        simp only [List.take_succ_cons, List.take_zero, List.drop_succ_cons, List.drop_zero]
        repeat (go_big_quiet_step ((first | ((rw [if_neg (by omega)]; exact ⟨rfl, rfl⟩)))))
        refine wpQuiet_nil (gw_out ?_)
        intro w1 hb1
        rw [HX1.out, HX2.out]
        have k1 := (hb1.cell (p := ⟨p, 0, none⟩) hpl).trans k0
        have f1 := (hb1.frozen (p := ⟨p, 0, none⟩) hpl).trans f0
        obtain ⟨fn, tmps, assign, body, hy, hR⟩ := HST2.out w1 hb1
        clear HX1 HX2 hb1
        go_wp2
        gi_wp2
        refine hR.mono ?_
        rintro e W3 (⟨rfl, hJ3⟩ | ⟨rfl, hJx3⟩)
        · have HJ3 := Lib.hid hJ3
          clear hJ3 hy hR
          gi_wp2
          go_roundw
          case rel => exact ⟨Tx.restOf s, HRL.out.2, HJ3.out⟩
          case measure => exact HJr.out _ HJ3.out
        · gi_wp2
          refine bodyPost_ret (results_none rfl _ _ _) rfl ?_
          exact ⟨⟨_, rfl⟩, .inr hJx3⟩
end Go.Proofs.YtndhjkammoeikaaGreatDoor
namespace Go.Proofs.YtndhjkammoeikaaGreatDoor
open Go.RowKit Go.Shelf
set_option maxHeartbeats 4000000
set_option maxRecDepth 100000
/-- how a round over the lines may be left -/
def LinePost (B : Nat) (I Ix : World → Prop) (W : World) : Exit → Act → World → Prop
  | .normal, _, W' => KeepsFrom B W W' ∧ I W'
  | .ret, _, W' => KeepsFrom B W W' ∧ Ix W'
  | .exit _, _, _ => False
  | .goto _, _, _ => False
  | .panic _, _, _ => False
  | .outgrown, _, _ => False
/-- the loop's record, ready or done, and the block of what is deferred -/
structure LineRec (w W : World) (r : Loop) : Prop where
  lp : W.heap[w.heap.size + 1]? = some (.loop r)
  defd : W.heap[w.heap.size]? = some (.deferred (some []))
theorem LineRec.grow {w W W' : World} {r : Loop} (h : LineRec w W r) (hb : Below W.heap.size W W') : LineRec w W' r := ⟨blkb h.lp hb, blkb h.defd hb⟩
theorem LineRec.set {w W : World} {r : Loop} (h : LineRec w W r) (a : Addr) (v : Value) (ha : a.block < w.heap.size) : LineRec w (W.setCell a v) r :=
  ⟨(Below.heap_setCell W a v _ (by omega)).trans h.lp, (Below.heap_setCell W a v _ (by omega)).trans h.defd⟩
theorem LineRec.put {w W : World} {r : Loop} (h : LineRec w W r) (r' : Loop) : LineRec w (W.putObj (w.heap.size + 1) (.loop r')) r' :=
  ⟨World.putObj_heap_same (Array.getElem?_eq_some_iff.1 h.lp).1, (World.putObj_heap_other (by omega)).trans h.defd⟩
theorem LineRec.kept {w W W' : World} {r : Loop} (h : LineRec w W r) (hk : KeepsFrom w.heap.size W W') : LineRec w W' r := ⟨hk.same _ _ (by omega) h.lp rfl, hk.same _ _ (Nat.le_refl _) h.defd rfl⟩
theorem own_put {w W : World} {I : World → Prop} {r r' : Loop} (hI : OwnFrom w.heap.size (fun (_ : Unit) => I)) (h : I W) (hr : LineRec w W r) : I (W.putObj (w.heap.size + 1) (.loop r')) :=
  hI.putObj (s := ()) (.loop r') h (by omega) hr.lp rfl
theorem own_grow {B : Nat} {W W' : World} {I : World → Prop} (hI : OwnFrom B (fun (_ : Unit) => I)) (h : I W) (hb : Below W.heap.size W W') : I W' :=
  hI () W W' none h (grownBy_of_below hb none) (fun r e => by cases e)
theorem below2 (w : World) (o o2 : Obj) : Below w.heap.size w ((w.alloc o).alloc o2) := ((Below.refl _ w).alloc (Nat.le_refl _) _).alloc (by simp) _
/-- 'for text := range strings.Lines(s)': an invariant of what is left of s, and one walk of the body -/
theorem wpIn_lines {ps : Array Tmp} {assign body : Code} {Q : Exit → Act → World → Prop} {a : Act} {w : World} {n : Nat} (hn : 2 ≤ n) {g : Operand} {p : Nat}
    (hg : a.eval g = .func (.func 168) #[] #[.pointer (some ⟨p, 0, none⟩)]) (hps : ps.size = 1) (hpw : p < w.heap.size)
    (I I1 : List UInt8 → World → Prop) (Ix : World → Prop)
    (hI : ∀ s, OwnFrom w.heap.size (fun (_ : Unit) => I s)) (hI1 : ∀ s, OwnFrom w.heap.size (fun (_ : Unit) => I1 s)) (hIx : OwnFrom w.heap.size (fun (_ : Unit) => Ix))
    (hcell : ∀ s W, I s W → W.cell? ⟨p, 0, none⟩ = some (.string (Tx.bs s)) ∧ W.frozen? ⟨p, 0, none⟩ = false)
    (hset : ∀ s W, s ≠ [] → I s W → I1 s (W.setCell ⟨p, 0, none⟩ (.string (Tx.bs (Tx.restOf s)))))
    (s0 : List UInt8) (hs : s0.length ≤ 1000000) (h0 : I s0 w) (a₁ : List UInt8 → Act)
    (hassign : ∀ (l : Nat) (x : List UInt8) (W : World) (K : Act → World → Prop), K (a₁ x) W →
      assign.wpIn (Fence.wide.inRound l) (n - 1 - 1) Tryz.prog (Exit.then K (fun _ _ _ => False)) { tmps := (ps.zip #[.string (Tx.bs x)]).foldl (fun t (p, v) => t.setIfInBounds p v) a.tmps, defers := [] } W)
    (hbody : ∀ (l : Nat) (s : List UInt8) (W : World), s ≠ [] → I1 s W → body.wpIn (Fence.wide.inRound l) (n - 1 - 1) Tryz.prog (LinePost w.heap.size (I (Tx.restOf s)) Ix W) (a₁ (Tx.lineOf s)) W)
    (hdone : ∀ (D : Nat) (W : World), w.heap.size ≤ D → I [] W → W.heap[D]? = some (.deferred (some [])) → Q .normal { a with defers := { target := .collected D, args := #[] } :: a.defers } W)
    (hstop : ∀ (D : Nat) (W : World), w.heap.size ≤ D → Ix W → W.heap[D]? = some (.deferred (some [])) → Code.ret.wpIn Fence.wide n Tryz.prog Q { a with defers := { target := .collected D, args := #[] } :: a.defers } W) :
    (Code.rangeFunc g ps assign body).wpIn Fence.wide n Tryz.prog Q a w := by
  refine wpIn_rangeFunc fun fn hfn => ?_
  obtain ⟨rc, hrc⟩ : ∃ rc : LoopState → Option Code → Loop, rc = fun st pe => { state := st, pending := pe, fn, tmps := a.tmps, params := ps, assign, body, defers := w.heap.size } := ⟨_, rfl⟩
  obtain ⟨W1, hW1⟩ : ∃ W1, W1 = (w.alloc (.deferred (some []))).alloc (.loop (rc .ready none)) := ⟨_, rfl⟩
  have hb1 : Below w.heap.size w W1 := by rw [hW1]; exact below2 _ _ _
  have hrec : LineRec w W1 (rc .ready none) := by
    rw [hW1]
    exact ⟨heap_new (by simp), heap_old (by simp) (heap_new rfl)⟩
  have hgo := lines_in (n - 1) (by omega) (w.heap.size + 1) p (fun s W => I s W ∧ LineRec w W (rc .ready none)) (fun s W => I1 s W ∧ LineRec w W (rc .ready none)) (fun W => Ix W ∧ LineRec w W (rc .done (some .ret)))
    (fun s W h => hcell s W h.1)
    (fun s W W2 hne h hb => ⟨hset s W2 hne (own_grow (hI s) h.1 hb), (h.2.grow hb).set _ _ hpw⟩)
    ?hY s0 hs W1 ⟨own_grow (hI s0) h0 hb1, hrec⟩
  case hY =>
    rintro s W hne ⟨hi, hr⟩
    have hy := run_yield (P := Tryz.prog) (args := #[.string (Tx.bs (Tx.lineOf s))]) hr.lp (by rw [hrc]; simpa using hps.symm)
    rw [hrc] at hy
    refine ⟨fn, _, assign, body, hy, roundIn_of_wpIn hfn (hassign _ (Tx.lineOf s) W _ ⟨_, run_beginRound hr.lp (by rw [hrc]), ?_⟩)⟩
    have hr2 := hr.put { rc .ready none with state := .busy }
    refine wpIn_mono (hbody (w.heap.size + 1) s _ hne (own_put (hI1 s) hi hr)) ?_
    rintro e a3 W3 hp
    have fin : ∀ (jump : Option Code), KeepsFrom w.heap.size (W.putObj (w.heap.size + 1) (.loop { rc .ready none with state := .busy })) W3 →
        (Instr.endRound (w.heap.size + 1) jump).run Tryz.prog W3 = .ok (.bool jump.isNone) (W3.putObj (w.heap.size + 1) (.loop (rc (if jump.isNone then .ready else .done) jump))) := fun jump hk => by
      have hl3 := (hr2.kept hk).lp
      rw [hrc] at hl3
      have := run_endRound (P := Tryz.prog) jump hl3
      rw [hrc]
      exact this
    cases e with
    | normal =>
      obtain ⟨hk, hi3⟩ := hp
      exact ⟨_, _, fin none hk, .inl ⟨rfl, own_put (hI _) hi3 (hr2.kept hk), (hr2.kept hk).put _⟩⟩
    | ret =>
      obtain ⟨hk, hi3⟩ := hp
      exact ⟨_, _, fin (some .ret) hk, .inr ⟨rfl, own_put hIx hi3 (hr2.kept hk), (hr2.kept hk).put _⟩⟩
    | exit id => exact hp.elim
    | goto t => exact hp.elim
    | panic ch => exact hp.elim
    | outgrown => exact hp.elim
  have hen : (Instr.enterLoop fn a.tmps ps assign body Fence.wide.round).run Tryz.prog w = .ok (w.heap.size + 1, [{ target := .collected w.heap.size, args := #[] }]) W1 := by
    rw [hW1, hrc]; exact run_enterLoop_outer _ _ _ _ _
  refine ⟨w.heap.size + 1, [{ target := .collected w.heap.size, args := #[] }], W1, { target := .fn (.func 168) #[.pointer (some ⟨p, 0, none⟩)], args := #[.func (.yield (w.heap.size + 1)) #[] #[]] }, W1, 168,
    #[.func (.yield (w.heap.size + 1)) #[] #[]] ++ #[.pointer (some ⟨p, 0, none⟩)], W1, hen, ?_, fun _ _ => trivial, ?_, fun _ => by omega, ?_⟩
  · simp only [resolve, hg]
    simp [go_sem]
  · simp [invoke, go_sem, enters_of Tryz.func168 (by kernel_rfl) rfl]
  refine hgo.mono ?_
  rintro e W2 ⟨⟨v, rfl⟩, (⟨hi, hr⟩ | ⟨hx, hr⟩)⟩
  · exact ⟨none, _, by have := run_endLoop (P := Tryz.prog) hr.lp (by rw [hrc]; simp); rw [hrc] at this; exact this, hdone _ _ (Nat.le_refl _) (own_put (hI _) hi hr) (hr.put _).defd⟩
  · exact ⟨some .ret, _, by have := run_endLoop (P := Tryz.prog) hr.lp (by rw [hrc]; simp); rw [hrc] at this; exact this, hstop _ _ (Nat.le_refl _) (own_put hIx hx hr) (hr.put _).defd⟩
end Go.Proofs.YtndhjkammoeikaaGreatDoor
namespace Go.Proofs.YtndhjkammoeikaaGreatDoor
open Go.RowKit Go.Shelf
set_option maxHeartbeats 8000000
set_option maxRecDepth 100000
attribute [local go_sem] Oper.semAt_some
theorem c138 (s : ByteArray) (w : World) : Calls Tryz.prog 138 #[.string s] w fun en w' => en = .returned (.func (.func 168) #[] #[.pointer (some ⟨w.heap.size, 0, none⟩)]) ∧ w' = w.alloc (.cells #[.string s] 9) := by
  go_enter Tryz.func138, Tryz.ntmps138
  go_wp2
  go_ret
  exact ⟨rfl, rfl⟩
theorem Tx.count_one (c : UInt8) : ∀ (n : Nat) (l : List UInt8), l.length ≤ n → Lib.count l [c] = l.count c := by
  intro n
  induction n with
  | zero =>
    intro l h
    obtain rfl : l = [] := List.length_eq_zero_iff.1 (by omega)
    rw [Lib.count_miss (by rw [Tx.index_one]; rfl)]; rfl
  | succ n ih =>
    intro l h
    rcases Tx.indexByte_cases l c with hi | ⟨i, hi⟩
    · rw [Lib.count_miss (by rw [Tx.index_one]; exact hi), List.count_eq_zero.2 (Tx.indexByte_none hi)]
    · obtain ⟨h1, h2, h3⟩ := Tx.indexByte_some hi
      rw [Lib.count_hit (by simp) (by rw [Tx.index_one]; exact hi), ih _ (by simp; omega)]
      conv => rhs; rw [h3]
      rw [List.count_append, List.count_eq_zero.2 h2, List.count_cons_self]
      simp [Nat.add_comm]
/-- the words of a line -/
theorem c140 (b : List UInt8) (m : Int) (w : World) (hb : b.length ≤ 1000000) (hm : w.cell? ⟨0, 0, none⟩ = some (.int .i64 m)) :
    Calls Tryz.prog 140 #[.string (Tx.bs b), .string { data := #[32] }] w fun e w' => e = .returned (.slice (some ⟨w.heap.size, 0, none⟩) (Tx.split 32 b).length (Tx.split 32 b).length) ∧ w' = w.alloc (.cells (Tx.cells (Tx.split 32 b)).toArray 9) := by
  have h := Tryz.strings_Split (Tx.bs b) { data := #[32] } m w (by rw [Tx.bs_size]; omega) hm (by decide)
  have hs := Tx.splitB_split 32 (Tx.bs b)
  rw [Tx.bs_toList] at hs
  have hl : Lib.countB (Tx.bs b) { data := #[32] } + 1 = (Tx.split 32 b).length := by
    rw [Tx.split_len, ← Tx.count_one 32 _ b (Nat.le_refl _)]; rfl
  have hc : (Lib.splitB { data := #[32] } 0 (Lib.countB (Tx.bs b) { data := #[32] }) (Tx.bs b)).map Value.string = Tx.cells (Tx.split 32 b) := by
    unfold Tx.cells
    rw [← hs, List.map_map]
    apply List.map_congr_left
    intro x _
    show Value.string x = Value.string (Tx.bs x.data.toList)
    rw [Tx.bs_data]
  rw [hl, hc] at h
  exact h
/-- a line's body, and whether it has its end -/
def Tx.bodyOf (s : List UInt8) : List UInt8 := if Lib.indexByte s 10 = -1 then s else s.take (Lib.indexByte s 10).toNat
def Tx.whole (s : List UInt8) : Bool := decide (Lib.indexByte s 10 ≠ -1)
theorem c139 (s : List UInt8) (w : World) (hs : s.length ≤ 1000000) :
    Calls Tryz.prog 139 #[.string (Tx.bs (Tx.lineOf s)), .string { data := #[10] }] w fun e w' => e = .returned (.tuple #[.string (Tx.bs (Tx.bodyOf s)), .bool (Tx.whole s)]) ∧ w = w' := by
  have hl : (Tx.lineOf s).length ≤ 1000000 := by
    unfold Tx.lineOf
    split
    · exact hs
    · rw [List.length_take]; omega
  have h := (Tryz.strings_CutSuffix (Tx.bs (Tx.lineOf s)) { data := #[10] } w (by rw [Tx.bs_size]; omega)).mono (fun e w' h => (⟨h.1, h.2.symm⟩ : _ ∧ w = w'))
  rw [Tx.bs_toList] at h
  have h2 : Lib.hasSuffix (Tx.lineOf s) [10] = Tx.whole s ∧ Lib.trimSuffix (Tx.lineOf s) [10] = Tx.bodyOf s := by
    rcases Tx.indexByte_cases s 10 with hi | ⟨i, hi⟩
    · have hw : Tx.whole s = false := by unfold Tx.whole; rw [hi]; rfl
      have hb : Tx.bodyOf s = s := by unfold Tx.bodyOf; rw [if_pos hi]
      rw [(Tx.line_miss hi).1, hw, hb]
      have hn : Lib.hasSuffix s [10] = false := by
        unfold Lib.hasSuffix
        rw [Bool.eq_false_iff]
        intro h
        have hsuf := List.isSuffixOf_iff_suffix.1 h
        exact Tx.indexByte_none hi (hsuf.subset (by simp))
      exact ⟨hn, by unfold Lib.trimSuffix; rw [hn]; rfl⟩
    · have hw : Tx.whole s = true := by unfold Tx.whole; rw [hi]; simp
      have hb : Tx.bodyOf s = s.take i := by unfold Tx.bodyOf; rw [if_neg (by omega), hi]; rfl
      obtain ⟨h1, h2, h3⟩ := Tx.indexByte_some hi
      have hl : Tx.lineOf s = s.take i ++ [10] := by
        rw [(Tx.line_hit hi).1]
        conv => lhs; rw [h3]
        rw [show i + 1 = (s.take i).length + 1 by rw [List.length_take]; omega, List.take_append, List.take_of_length_le (by omega)]
        simp
      rw [hl, hw, hb]
      have hy : Lib.hasSuffix (s.take i ++ [10]) [10] = true := by
        unfold Lib.hasSuffix
        exact List.isSuffixOf_iff_suffix.2 (List.suffix_append _ _)
      exact ⟨hy, by unfold Lib.trimSuffix; rw [hy]; simp⟩
  rw [show ([10] : List UInt8) = ({ data := #[10] } : ByteArray).data.toList from rfl] at h2
  rw [h2.1, h2.2] at h
  exact h
end Go.Proofs.YtndhjkammoeikaaGreatDoor
namespace Go.Proofs.YtndhjkammoeikaaGreatDoor
open Go.RowKit Go.Shelf
set_option maxHeartbeats 8000000
set_option maxRecDepth 100000
attribute [local go_sem] Oper.semAt_some
theorem own_keep {B0 : Nat} {W W' : World} {row : Option Nat} {base : Nat} {e : TypeId} {size : Nat} {v : Value} {n : Nat} {xs : List Value} (h : W.ownsRow base e size v n xs) (hg : W.grownBy W' row)
    (hr : ∀ r, row = some r → B0 ≤ r ∧ ∃ o : Obj, W.heap[r]? = some o ∧ o.isCells = false) : W'.ownsRow base e size v n xs := by
  rcases h.2 with ⟨rfl, _⟩ | ⟨g, cap, cur, rfl, hb, hgg, _⟩
  · exact h.kept hg (.inl rfl)
  · refine h.kept hg (.inr (fun e => ?_))
    obtain ⟨_, o, ho, hc⟩ := hr g e.symm
    rw [hgg] at ho
    cases ho
    simp [Obj.isCells] at hc
def Ord (w : World) (r2 r3 r4 o p b : Nat) : Prop := w.heap.size = r2 ∧ r2 < r3 ∧ r3 < r4 ∧ r4 < o ∧ o < p ∧ p < b
/-- between two lines: what lies in the blocks of Parse; cur: what the iterator holds -/
structure PBlk (w : World) (r2 r3 r4 o p b : Nat) (cur : List UInt8) (x : Value) (pre : List (List UInt8)) (W : World) : Prop where
  k2 : W.heap[r2]? = some (.cells #[.slice none 0 0] 74 (0, 0))
  k3 : W.heap[r3]? = some (.cells #[.int .i64 0] 3 (0, 0))
  k4 : W.heap[r4]? = some (.cells #[.int .i64 0] 32 (0, 0))
  ko : W.heap[o]? = some (.cells #[x] 74 (0, 0))
  kp : W.heap[p]? = some (.cells #[.string (Tx.bs cur)] 9 (0, 0))
  row : W.ownsRow b 134 3 x pre.length ((Tx.good pre).flatMap Ent.enc)
  bel : Below r2 w W
  sz : b ≤ W.heap.size
theorem PBlk.own {w : World} {r2 r3 r4 o p b : Nat} (h : Ord w r2 r3 r4 o p b) (cur : List UInt8) (x : Value) (pre : List (List UInt8)) : OwnFrom b (fun (_ : Unit) W => PBlk w r2 r3 r4 o p b cur x pre W) := fun _ W W' row hs hg hr =>
  ⟨blk_keep hs.k2 hg hr, blk_keep hs.k3 hg hr, blk_keep hs.k4 hg hr, blk_keep hs.ko hg hr, blk_keep hs.kp hg hr, own_keep hs.row hg hr, ownFrom_below (β := Unit) (by have := h.1; omega) (by obtain ⟨_, _, _, _, _, _⟩ := h; omega) () W W' row hs.bel hg hr, Nat.le_trans hs.sz hg.size⟩
/-- the same where the world has only grown -/
theorem PBlk.grow {w : World} {r2 r3 r4 o p b : Nat} {cur : List UInt8} {x : Value} {pre : List (List UInt8)} {W W' : World} (h : PBlk w r2 r3 r4 o p b cur x pre W) (hr : r2 < b) (hb : Below W.heap.size W W') : PBlk w r2 r3 r4 o p b cur x pre W' :=
  ⟨blkb h.k2 hb, blkb h.k3 hb, blkb h.k4 hb, blkb h.ko hb, blkb h.kp hb, own_below h.row hb, h.bel.trans (hb.mono (by have := h.sz; omega)), Nat.le_trans h.sz hb.size⟩
theorem Only.set_grown (b i : Nat) (w : World) (v : Value) : w.grownBy (w.setCell ⟨b, i, none⟩ v) (some b) := ⟨rfl, rfl, rfl, by simp, fun k _ hk => Below.heap_setCell w ⟨b, i, none⟩ v k (fun e => hk (by rw [e]))⟩
theorem set_other {w : World} {b i g : Nat} {o : Obj} (v : Value) (h : w.heap[g]? = some o) (hne : g ≠ b) : (w.setCell ⟨b, i, none⟩ v).heap[g]? = some o := (Below.heap_setCell w ⟨b, i, none⟩ v g hne).trans h
theorem own_ne {w : World} {base : Nat} {e : TypeId} {size : Nat} {v : Value} {n b : Nat} {xs : List Value} (h : w.ownsRow base e size v n xs) (hb : b < base) : v.ownBlock = none ∨ v.ownBlock ≠ some b := by
  rcases h.2 with ⟨rfl, _⟩ | ⟨g, cap, cur, rfl, hg, _⟩
  · exact .inl rfl
  · refine .inr (fun e => ?_)
    have : g = b := by simpa [Value.ownBlock] using e
    omega
theorem own_lt {w : World} {base : Nat} {e : TypeId} {size : Nat} {v : Value} {n b : Nat} {xs : List Value} (h : w.ownsRow base e size v n xs) (hb : w.heap.size ≤ b) : v.ownBlock = none ∨ v.ownBlock ≠ some b := by
  rcases h.2 with ⟨rfl, _⟩ | ⟨g, cap, cur, rfl, hg, hh, _⟩
  · exact .inl rfl
  · refine .inr (fun e => ?_)
    have : g = b := by simpa [Value.ownBlock] using e
    have := (Array.getElem?_eq_some_iff.1 hh).1
    omega
/-- the same where one block above has turned, in which the row does not lie -/
theorem PBlk.only {w : World} {r2 r3 r4 o p b t : Nat} {cur : List UInt8} {x : Value} {pre : List (List UInt8)} {W W' : World} (ho : Ord w r2 r3 r4 o p b) (h : PBlk w r2 r3 r4 o p b cur x pre W) (hk : Only t W W') (ht : b ≤ t) (hn : x.ownBlock = none ∨ x.ownBlock ≠ some t) : PBlk w r2 r3 r4 o p b cur x pre W' := by
  obtain ⟨a1, a2, a3, a4, a5, a6⟩ := ho
  refine ⟨hk.same _ _ h.k2 (by omega), hk.same _ _ h.k3 (by omega), hk.same _ _ h.k4 (by omega), hk.same _ _ h.ko (by omega), hk.same _ _ h.kp (by omega), ?_, h.bel.trans (hk.bel.mono (by omega)), Nat.le_trans h.sz hk.size⟩
  refine h.row.kept (row := some t) ⟨hk.bel.os, hk.bel.tape, hk.bel.output, hk.size, fun i hi hne => ?_⟩ hn
  rw [Array.getElem?_eq_getElem hi]
  exact hk.same i _ (Array.getElem?_eq_getElem hi) (fun e => hne (by rw [e]))
theorem PBlk.step {w : World} {r2 r3 r4 o p b : Nat} {s : List UInt8} {x : Value} {pre : List (List UInt8)} {W : World} (ho : Ord w r2 r3 r4 o p b) (c : List UInt8) (h : PBlk w r2 r3 r4 o p b s x pre W) : PBlk w r2 r3 r4 o p b c x pre (W.setCell ⟨p, 0, none⟩ (.string (Tx.bs c))) := by
  obtain ⟨a1, a2, a3, a4, a5, a6⟩ := ho
  exact ⟨set_other _ h.k2 (by omega), set_other _ h.k3 (by omega), set_other _ h.k4 (by omega), set_other _ h.ko (by omega), heap_set _ h.kp, h.row.kept (Only.set_grown _ _ _ _) (own_ne h.row (by omega)), h.bel.setCell (p := ⟨p, 0, none⟩) (by show r2 ≤ p; omega) _, by simp; exact h.sz⟩
def PI (T : List UInt8) (w : World) (r2 r3 r4 o p b : Nat) (rest cur : List UInt8) (W : World) : Prop := ∃ pre x, Tx.split 10 T = pre ++ Tx.split 10 rest ∧ (Tx.good pre).length = pre.length ∧ rest.length ≤ T.length ∧ PBlk w r2 r3 r4 o p b cur x pre W
theorem PI.own {T : List UInt8} {w : World} {r2 r3 r4 o p b : Nat} (ho : Ord w r2 r3 r4 o p b) (rest cur : List UInt8) : OwnFrom b (fun (_ : Unit) W => PI T w r2 r3 r4 o p b rest cur W) := fun u W W' row hs hg hr => by
  obtain ⟨pre, x, h1, h2, h3, h4⟩ := hs
  exact ⟨pre, x, h1, h2, h3, PBlk.own ho cur x pre u W W' row h4 hg hr⟩
/-- a line was wrong: the results lie -/
structure PX (T : List UInt8) (w : World) (r2 r3 r4 : Nat) (W : World) : Prop where
  ex : ∃ i : Int, Tx.parse T = ([], i, 25) ∧ W.heap[r2]? = some (.cells #[.slice none 0 0] 74 (0, 0)) ∧ W.heap[r3]? = some (.cells #[.int .i64 i] 3 (0, 0)) ∧ W.heap[r4]? = some (.cells #[.int .i64 25] 32 (0, 0))
  bel : Below r2 w W
theorem PX.own {T : List UInt8} {w : World} {r2 r3 r4 o p b : Nat} (ho : Ord w r2 r3 r4 o p b) : OwnFrom b (fun (_ : Unit) W => PX T w r2 r3 r4 W) := fun _ W W' row hs hg hr => by
  obtain ⟨i, h1, h2, h3, h4⟩ := hs.ex
  obtain ⟨a1, a2, a3, a4, a5, a6⟩ := ho
  exact ⟨⟨i, h1, blk_keep h2 hg hr, blk_keep h3 hg hr, blk_keep h4 hg hr⟩, ownFrom_below (β := Unit) (by omega) (by omega) () W W' row hs.bel hg hr⟩
theorem c77_long (s : ByteArray) (w : World) (hl : 4096 < s.size) : Calls Tryz.prog 77 #[.string s] w (PR w (Tx.parseS s.data.toList)) := by
  have hsl := Tx.size_len s
  have HP : Hid (Tx.parseS s.data.toList = ([], 0, 26)) := Lib.hid (by unfold Tx.parseS; rw [if_pos (by omega)])
  rw [HP.out]
  have hl2 : (4096 : Int) < (s.size : Int) := by omega
  clear hsl hl
  go_enter Tryz.func77, Tryz.ntmps77
  go_wp2
  exact bodyPost_ret (v := .tuple #[.slice none 0 0, .int .i64 0, .int .i64 26]) (by simp [results, Tryz.results77, go_sem]) rfl (PR.nil _ _ ((below2 _ _ _).trans ((Below.refl _ _).alloc (by simp <;> omega) _)))
end Go.Proofs.YtndhjkammoeikaaGreatDoor
namespace Go.Proofs.YtndhjkammoeikaaGreatDoor
open Go.RowKit Go.Shelf
set_option maxHeartbeats 8000000
set_option maxRecDepth 100000
attribute [local go_sem] Oper.semAt_some
theorem pline_size {b : List UInt8} {e : Ent} (h : Tx.pline b = some e) : e.c.size ≤ b.length := by
  unfold Tx.pline at h
  split at h
  · rename_i x y z hs
    split at h
    · simp at h
      subst h
      have := Tx.piece_le (c := 32) (l := b) z (by rw [hs]; simp)
      exact Nat.le_trans (Nat.le_of_eq (mk_size z)) this
    · cases h
  · cases h
theorem good_size {n : Nat} : ∀ (pre : List (List UInt8)), (∀ b ∈ pre, b.length ≤ n) → ∀ e ∈ Tx.good pre, e.c.size ≤ n
  | [], _, e, he => by simp [Tx.good] at he
  | b :: r, hb, e, he => by
    unfold Tx.good at he
    cases hp : Tx.pline b with
    | none => rw [hp] at he; simp at he
    | some x =>
      rw [hp] at he
      rcases List.mem_cons.1 he with rfl | he
      · exact Nat.le_trans (pline_size hp) (hb b (by simp))
      · exact good_size r (fun c hc => hb c (by simp [hc])) e he
theorem body_le (s : List UInt8) : (Tx.bodyOf s).length ≤ s.length := by
  unfold Tx.bodyOf
  split
  · exact Nat.le_refl _
  · rw [List.length_take]; omega
theorem rest_le (s : List UInt8) : (Tx.restOf s).length ≤ s.length := by
  unfold Tx.restOf
  split
  · exact Nat.zero_le _
  · rw [List.length_drop]; omega
theorem wd_le {ws : List (List UInt8)} {n : Nat} (h : ∀ q ∈ ws, q.length ≤ n) : (Tx.wd ws).length ≤ n := by
  cases ws with
  | nil => exact Nat.zero_le _
  | cons x r => exact h x (by simp)
theorem tl_mem {ws : List (List UInt8)} {P : List UInt8 → Prop} (h : ∀ q ∈ ws, P q) : ∀ q ∈ Tx.tl ws, P q := by
  intro q hq
  cases ws with
  | nil => simp [Tx.tl] at hq
  | cons x r =>
    unfold Tx.tl at hq
    simp only at hq
    split at hq
    · simp at hq
    · exact h q (by simp [hq])
theorem tl_len (ws : List (List UInt8)) : (Tx.tl ws).length ≤ ws.length := by
  cases ws with
  | nil => simp [Tx.tl]
  | cons x r =>
    unfold Tx.tl
    simp only
    split
    · simp
    · simp
theorem Tkr.setO {w : World} {b e i : Nat} {ws : List (List UInt8)} {wr : Bool} {A : Option Addr} (v : Value) (h : Tkr w b ws wr A) (hlt : b < e) : Tkr (w.setCell ⟨e, i, none⟩ v) b ws wr A := by
  refine ⟨set_other _ h.blk (by omega), fun x r e' => ?_⟩
  obtain ⟨g, off, hA, hg, hc⟩ := h.rd x r e'
  exact ⟨g, off, hA, hg, fun j hj => ((below_set (w := w) (b := e) (i := i) v).cell (p := ⟨g, off + j, none⟩) (Nat.lt_trans hg hlt)).trans (hc j hj)⟩
theorem tk_one {pre ws : List (List UInt8)} {T st : List UInt8} (hsp : Tx.split 10 T = pre ++ Tx.split 10 st) (hws : ws = Tx.split 32 (Tx.bodyOf st)) {wh : Bool} (hwh : wh = Tx.whole st) :
    (wh = true → Tx.split 10 T = pre ++ Tx.bodyOf st :: Tx.split 10 (Tx.restOf st)) ∧ (wh = false → Tx.split 10 T = pre ++ [st]) := by
  rcases Tx.indexByte_cases st 10 with hi | ⟨i, hi⟩
  · have hw : Tx.whole st = false := by unfold Tx.whole; rw [hi]; rfl
    rw [hwh, hw]
    exact ⟨fun h => (by cases h), fun _ => by rw [hsp, Tx.split_miss hi]⟩
  · have hw : Tx.whole st = true := by unfold Tx.whole; rw [hi]; simp
    rw [hwh, hw]
    refine ⟨fun _ => ?_, fun h => (by cases h)⟩
    have hb : Tx.bodyOf st = st.take i := by unfold Tx.bodyOf; rw [if_neg (by omega), hi]; rfl
    rw [hsp, Tx.split_hit hi, hb, (Tx.line_hit hi).2]
theorem tk_fail {pre ws ws1 ws2 ws3 : List (List UInt8)} {T st : List UInt8} {wh q1 q2 q3 : Bool} (hsp : Tx.split 10 T = pre ++ Tx.split 10 st) (hg : (Tx.good pre).length = pre.length) (hne : st ≠ []) (hws : ws = Tx.split 32 (Tx.bodyOf st)) (hwh : wh = Tx.whole st)
    (hq1 : q1 = (false || !Tx.num (Tx.wd ws))) (h1 : ws1 = Tx.tl ws) (hq2 : q2 = (q1 || !Tx.num (Tx.wd ws1))) (h2 : ws2 = Tx.tl ws1) (hq3 : q3 = (q2 || Tx.bad ws2)) (h3 : ws3 = Tx.tl ws2) :
    (!wh || q3 || decide (0 < ws3.length)) = true → Tx.parse T = ([], (pre.length : Int), 25) := by
  intro hb
  obtain ⟨o1, o2⟩ := tk_one hsp hws hwh
  cases hw : wh
  · exact Tx.parse_last (o2 hw) hne hg
  · refine Tx.parse_bad (o1 hw) (Tx.split_ne _ _) hg (Tx.tk_none rfl rfl ?_)
    subst hws h1 h2 h3 hq1 hq2 hq3
    rw [hw] at hb
    generalize Tx.num (Tx.wd (Tx.split 32 (Tx.bodyOf st))) = f at hb ⊢
    generalize Tx.num (Tx.wd (Tx.tl (Tx.split 32 (Tx.bodyOf st)))) = t at hb ⊢
    generalize Tx.bad (Tx.tl (Tx.tl (Tx.split 32 (Tx.bodyOf st)))) = u at hb ⊢
    generalize Tx.tl (Tx.tl (Tx.tl (Tx.split 32 (Tx.bodyOf st)))) = v at hb ⊢
    cases f <;> cases t <;> cases u <;> cases v <;> simp at hb ⊢
theorem tk_good {pre ws ws1 ws2 ws3 : List (List UInt8)} {T st : List UInt8} {wh q1 q2 q3 : Bool} (hsp : Tx.split 10 T = pre ++ Tx.split 10 st) (hg : (Tx.good pre).length = pre.length) (hne : st ≠ []) (hws : ws = Tx.split 32 (Tx.bodyOf st)) (hwh : wh = Tx.whole st)
    (hq1 : q1 = (false || !Tx.num (Tx.wd ws))) (h1 : ws1 = Tx.tl ws) (hq2 : q2 = (q1 || !Tx.num (Tx.wd ws1))) (h2 : ws2 = Tx.tl ws1) (hq3 : q3 = (q2 || Tx.bad ws2)) (h3 : ws3 = Tx.tl ws2) :
    (!wh || q3 || decide (0 < ws3.length)) = false → Tx.split 10 T = (pre ++ [Tx.bodyOf st]) ++ Tx.split 10 (Tx.restOf st) ∧ Tx.good (pre ++ [Tx.bodyOf st]) = Tx.good pre ++ [⟨Tx.iv (Tx.wd ws), Tx.iv (Tx.wd ws1), Tx.bs (Tx.wd ws2)⟩] ∧ (Tx.good (pre ++ [Tx.bodyOf st])).length = (pre ++ [Tx.bodyOf st]).length := by
  intro hb
  obtain ⟨o1, _⟩ := tk_one hsp hws hwh
  simp only [Bool.or_eq_false_iff, Bool.not_eq_false'] at hb
  obtain ⟨⟨hw, hq⟩, hl⟩ := hb
  have hp : Tx.pline (Tx.bodyOf st) = some ⟨Tx.iv (Tx.wd ws), Tx.iv (Tx.wd ws1), Tx.bs (Tx.wd ws2)⟩ := by
    subst hws h1 h2 h3 hq1 hq2 hq3
    simp only [Bool.or_eq_false_iff, Bool.not_eq_false', Bool.false_or] at hq
    obtain ⟨⟨hf, ht⟩, hu⟩ := hq
    rw [Tx.iv_num hf, Tx.iv_num ht]
    refine Tx.tk_some hf ht hu ?_
    cases hv : Tx.tl (Tx.tl (Tx.tl (Tx.split 32 (Tx.bodyOf st)))) with
    | nil => rfl
    | cons a t => rw [hv] at hl; simp at hl
  obtain ⟨g1, g2⟩ := Tx.good_next hg hp
  exact ⟨by rw [o1 hw]; simp, g1, g2⟩
theorem bad_fin {TX : List UInt8} {w : World} {r2 r3 r4 o p : Nat} {cur : List UInt8} {x : Value} {pre : List (List UInt8)} {W W9 : World} {L : Nat} (ho : Ord w r2 r3 r4 o p (p + 1)) (h : PBlk w r2 r3 r4 o p (p + 1) cur x pre W9) (hB : Below W.heap.size W W9) (hb : p + 1 ≤ W.heap.size) (hp : Tx.parse TX = ([], (L : Int), 25)) :
    KeepsFrom (p + 1) W ((((W9.setCell ⟨r2, 0, none⟩ (.slice none 0 0)).setCell ⟨r3, 0, none⟩ (.int .i64 L)).setCell ⟨r4, 0, none⟩ (.int .i64 25)).drew) ∧
    PX TX w r2 r3 r4 ((((W9.setCell ⟨r2, 0, none⟩ (.slice none 0 0)).setCell ⟨r3, 0, none⟩ (.int .i64 L)).setCell ⟨r4, 0, none⟩ (.int .i64 25)).drew) := by
  obtain ⟨a1, a2, a3, a4, a5, a6⟩ := ho
  have f2 := set_other (i := 0) (.int .i64 25) (set_other (i := 0) (b := r3) (.int .i64 L) (heap_set (i := 0) (.slice none 0 0) h.k2) (by omega)) (show r2 ≠ r4 by omega)
  have f3 := set_other (i := 0) (.int .i64 25) (heap_set (i := 0) (.int .i64 L) (set_other (i := 0) (.slice none 0 0) h.k3 (show r3 ≠ r2 by omega))) (show r3 ≠ r4 by omega)
  have f4 := heap_set (i := 0) (.int .i64 25) (set_other (i := 0) (.int .i64 L) (set_other (i := 0) (.slice none 0 0) h.k4 (show r4 ≠ r2 by omega)) (show r4 ≠ r3 by omega))
  refine ⟨⟨?_, fun k ob hk hko _ => ?_⟩, ⟨L, hp, f2, f3, f4⟩, ?_⟩
  · show W.heap.size ≤ _
    simp
    exact hB.size
  · have := blkb hko hB
    exact set_other _ (set_other _ (set_other _ this (by omega)) (by omega)) (by omega)
  · exact (((h.bel.setCell (p := ⟨r2, 0, none⟩) (Nat.le_refl _) _).setCell (p := ⟨r3, 0, none⟩) (by show r2 ≤ r3; omega) _).setCell (p := ⟨r4, 0, none⟩) (by show r2 ≤ r4; omega) _).drew
theorem good_fin {w : World} {r2 r3 r4 o p : Nat} {cur bd : List UInt8} {x x' : Value} {pre : List (List UInt8)} {W W9 W10 : World} {ob : Obj} {e : Ent} (ho : Ord w r2 r3 r4 o p (p + 1)) (h : PBlk w r2 r3 r4 o p (p + 1) cur x pre W9) (hB : Below W.heap.size W W9) (hb : p + 1 ≤ W.heap.size)
    (hown : W10.ownsRow (p + 1) 134 3 x' (pre.length + 1) ((Tx.good pre).flatMap Ent.enc ++ Ent.enc e)) (hg : (W9.alloc ob).grownBy W10 x.ownBlock) (hpre : Tx.good (pre ++ [bd]) = Tx.good pre ++ [e]) :
    KeepsFrom (p + 1) W (W10.setCell ⟨o, 0, none⟩ x') ∧ PBlk w r2 r3 r4 o p (p + 1) cur x' (pre ++ [bd]) (W10.setCell ⟨o, 0, none⟩ x') := by
  obtain ⟨a1, a2, a3, a4, a5, a6⟩ := ho
  have hsz : W9.heap.size < W10.heap.size := by have := hg.size; simp at this; omega
  have hbn : ∀ b, b < p + 1 → some b ≠ x.ownBlock := fun b hlt e => by
    have := own_ne h.row hlt
    rcases this with h0 | h0
    · rw [h0] at e; cases e
    · exact h0 e.symm
  have hk : ∀ b ob', b < p + 1 → W9.heap[b]? = some ob' → W10.heap[b]? = some ob' := fun b ob' hlt hbk =>
    (hg.block b (by have := (Array.getElem?_eq_some_iff.1 hbk).1; simp; omega) (fun e => hbn b hlt (by rw [e]))).trans (heap_old (Array.getElem?_eq_some_iff.1 hbk).1 hbk)
  have s9 := h.sz
  refine ⟨⟨?_, fun k ob' hk1 hko hnc => ?_⟩, ⟨set_other _ (hk _ _ (by omega) h.k2) (by omega), set_other _ (hk _ _ (by omega) h.k3) (by omega), set_other _ (hk _ _ (by omega) h.k4) (by omega), heap_set _ (hk _ _ (by omega) h.ko), set_other _ (hk _ _ (by omega) h.kp) (by omega), ?_, ?_, ?_⟩⟩
  · have := hB.size; simp; omega
  · have h9 := blkb hko hB
    have hlt9 := (Array.getElem?_eq_some_iff.1 h9).1
    have hne : some k ≠ x.ownBlock := fun e => by
      rcases h.row.2 with ⟨rfl, _⟩ | ⟨g, cap, cu, rfl, hgb, hgg, _⟩
      · cases e
      · have : k = g := by simpa [Value.ownBlock] using e
        subst this
        rw [h9] at hgg
        cases hgg
        simp [Obj.isCells] at hnc
    exact set_other _ ((hg.block k (by simp; omega) (fun e => hne (by rw [e]))).trans (heap_old hlt9 h9)) (by omega)
  · rw [hpre, List.flatMap_append, List.length_append]
    have := hown.kept (Only.set_grown o 0 W10 x') (own_ne hown (by omega))
    simpa using this
  · exact ((h.bel.alloc (by omega) ob).grown hg (by simp; omega) (fun g hgo => by have := h.row.lt g hgo; omega)).setCell (p := ⟨o, 0, none⟩) (by show r2 ≤ o; omega) _
  · simp; omega
/-- the walk stands still here -/
def StopQ (P : Prop) : Prop := P
theorem stopq {P : Prop} (h : StopQ P) : P := h
theorem c77 (s : ByteArray) (m : Int) (w : World) (hs : s.size ≤ 1000000) (hm : w.cell? ⟨0, 0, none⟩ = some (.int .i64 m)) : Calls Tryz.prog 77 #[.string s] w (PR w (Tx.parseS s.data.toList)) := by
  by_cases hlong : 4096 < s.size
  · exact c77_long s w hlong
  have hsl := Tx.size_len s
  have HPS : Hid (Tx.parseS s.data.toList = Tx.parse s.data.toList) := Lib.hid (by unfold Tx.parseS; rw [if_neg (by omega)])
  have hl2 : (s.size : Int) ≤ 4096 := by omega
  have hm0 : 0 < w.heap.size := cell_lt hm
  rw [HPS.out]
  obtain ⟨TX, hTX⟩ : ∃ T, T = s.data.toList := ⟨_, rfl⟩
  have hTXl : TX.length ≤ 4096 := by rw [hTX, hsl]; omega
  rw [← hTX]
  have HTX := Lib.hid hTX
  have hdl : decide (4096 < (s.size : Int)) = false := by simp; omega
  refine (callsIn_wide (n := 8)).1 ?_
  refine callsIn_of_wp_marks Tryz.func77 rfl trivial ?_ rfl
  refine wpIn_wide.2 ?_
  simp only [Tryz.ntmps77, List.size_toArray, List.length_cons, List.length_nil, Nat.reduceAdd, Nat.reduceSub, Array.replicate_succ, Array.replicate_zero, List.push_toArray, List.append_toArray, List.nil_append, List.cons_append]
  clear hsl hlong hs hTX HPS
  go_wp2_with fail
  refine (c138 _ _).mono ?_
  rintro e w1 ⟨rfl, hw1⟩
  simp only [World.size_alloc] at hw1 ⊢
  obtain ⟨r2, hr2⟩ : ∃ r2, r2 = w.heap.size := ⟨_, rfl⟩
  obtain ⟨p, hp⟩ : ∃ p, p = w.heap.size + 1 + 1 + 1 + 1 := ⟨_, rfl⟩
  obtain ⟨o, ho⟩ : ∃ o, o = w.heap.size + 1 + 1 + 1 := ⟨_, rfl⟩
  obtain ⟨r4, hr4⟩ : ∃ r4, r4 = w.heap.size + 1 + 1 := ⟨_, rfl⟩
  obtain ⟨r3, hr3⟩ : ∃ r3, r3 = w.heap.size + 1 := ⟨_, rfl⟩
  have hb1 : w1.heap.size = p + 1 := by rw [hw1]; simp; omega
  have hord : Ord w r2 r3 r4 o p (p + 1) := ⟨by omega, by omega, by omega, by omega, by omega, by omega⟩
  have hblk : PBlk w r2 r3 r4 o p (p + 1) TX (.slice none 0 0) [] w1 := by
    rw [hw1]
    refine ⟨?_, ?_, ?_, ?_, ?_, World.ownsRow_nil _ _ _ _, ?_, by simp; omega⟩
    · exact heap_old (by simp; omega) (heap_old (by simp; omega) (heap_old (by simp; omega) (heap_old (by simp; omega) (heap_new (by omega)))))
    · exact heap_old (by simp; omega) (heap_old (by simp; omega) (heap_old (by simp; omega) (heap_new (by simp; omega))))
    · exact heap_old (by simp; omega) (heap_old (by simp; omega) (heap_new (by simp; omega)))
    · exact heap_old (by simp; omega) (heap_new (by simp; omega))
    · rw [HTX.out, Tx.bs_data]; exact heap_new (by simp; omega)
    · rw [hr2]
      exact (((below2 _ _ _).alloc (by simp; omega) _).alloc (by simp; omega) _).alloc (by simp; omega) _
  rw [← hp, ← ho, ← hr4, ← hr3, ← hr2]
  have hz : 0 < r2 := by omega
  have hm1 : Hid (∀ W, Below r2 w W → W.cell? ⟨0, 0, none⟩ = some (.int .i64 m)) := Lib.hid (fun W hW => (hW.cell (p := ⟨0, 0, none⟩) hz).trans hm)
  clear hw1 hr2 hp ho hr4 hr3 hm hm0
  go_wp2
  refine (wpIn_wide (n := 6)).1 ?_
  refine wpIn_lines (n := 6) (by omega) (p := p) rfl rfl (by omega) (fun s W => PI TX w r2 r3 r4 o p (p + 1) s s W) (fun s W => PI TX w r2 r3 r4 o p (p + 1) s (Tx.restOf s) W) (fun W => PX TX w r2 r3 r4 W)
    (fun s => by rw [hb1]; exact PI.own hord s s) (fun s => by rw [hb1]; exact PI.own hord s (Tx.restOf s)) (by rw [hb1]; exact PX.own hord)
    (fun s W h => by obtain ⟨pre, x, _, _, _, h⟩ := h; exact ⟨cell_at h.kp rfl, free_at h.kp⟩)
    (fun s W _ h => by obtain ⟨pre, x, h1, h2, h3, h⟩ := h; exact ⟨pre, x, h1, h2, h3, h.step hord _⟩)
    TX (by omega) ⟨[], _, rfl, rfl, Nat.le_refl _, hblk⟩
    (fun x => { tmps := #[.string s, undef, .pointer (some ⟨r2, 0, none⟩), .pointer (some ⟨r3, 0, none⟩), .pointer (some ⟨r4, 0, none⟩), .pointer (some ⟨o, 0, none⟩), .string (Tx.bs x), undef, undef, undef, undef, undef, undef, .string s, .int .i64 (s.size : Int), .bool false, .string s, .func (.func 168) #[] #[.pointer (some ⟨p, 0, none⟩)], .string (Tx.bs x), undef, undef, undef, undef, undef, undef, undef, undef, undef, undef, undef, undef, undef, undef, undef, undef, undef, undef, undef, undef, undef, undef, undef, undef, undef, undef, undef, undef, undef, undef, undef, undef, undef, undef, undef, undef, undef, undef, undef, undef, undef, undef, undef, undef, undef, undef, undef, undef, undef, undef, undef, undef], defers := [] }) ?assign ?body ?done ?stop
  case assign =>
    intro l x W K hK
    gi_wp2
    exact hK
  case body =>
    intro l st W hne hI
    obtain ⟨pre, x, h1, h2, h3, h⟩ := hI
    have hord2 := hord
    obtain ⟨a1, a2, a3, a4, a5, a6⟩ := hord2
    have hl1 : 1 ≤ 6 - 1 - 1 := by omega
    have hbd := body_le st
    obtain ⟨ws, hws⟩ : ∃ ws, ws = Tx.split 32 (Tx.bodyOf st) := ⟨_, rfl⟩
    have h140 := c140 (Tx.bodyOf st) m W (by omega) (hm1.out W h.bel)
    have hwl := Tx.split_len_le 32 (Tx.bodyOf st)
    have hwp := Tx.piece_le (c := 32) (l := Tx.bodyOf st)
    have h139 := fun W => c139 st W (by omega)
    rw [← hws] at h140 hwl hwp
    obtain ⟨N, hN⟩ : ∃ N, N = ws.length := ⟨_, rfl⟩
    obtain ⟨LN, hLN⟩ : ∃ L, L = Tx.bs (Tx.lineOf st) := ⟨_, rfl⟩
    obtain ⟨BD, hBD⟩ : ∃ L, L = Tx.bs (Tx.bodyOf st) := ⟨_, rfl⟩
    obtain ⟨wh, hwh⟩ : ∃ b, b = Tx.whole st := ⟨_, rfl⟩
    obtain ⟨ROW, hROW⟩ : ∃ R, R = Obj.cells (Tx.cells ws).toArray 9 := ⟨_, rfl⟩
    rw [← hN, ← hBD, ← hROW] at h140
    rw [← hLN, ← hBD, ← hwh] at h139
    rw [← hLN]
    have H140 := Lib.hid h140
    have H139 := Lib.hid h139
    have HBLK := Lib.hid h
    have HWS := Lib.hid hws
    have HN := Lib.hid hN
    have HROW := Lib.hid hROW
    have HWH := Lib.hid hwh
    have HSP := Lib.hid h1
    have HG := Lib.hid h2
    have HWL : Hid (ws.length ≤ 4097) := Lib.hid (by omega)
    have HWP : Hid (∀ q ∈ ws, q.length ≤ 4096) := Lib.hid (fun q hq => by have := hwp q hq; omega)
    have HREST : Hid ((Tx.restOf st).length ≤ TX.length) := Lib.hid (Nat.le_trans (rest_le st) h3)
    have HNE := Lib.hid hne
    clear h h1 h2 h3 h140 h139 hws hN hROW hwh hwl hwp hLN hBD hbd hne
    gi_wp2_with (first
      | (refine ⟨trivial, ?_⟩; gi_at_call 139; refine (CallsIn.inRound l (callsIn_wide.2 (H139.out _))).mono ?_; rintro e w' ⟨rfl, rfl⟩)
      | (refine ⟨trivial, ?_⟩; gi_at_call 140; refine (CallsIn.inRound l (callsIn_wide.2 H140.out)).mono ?_; rintro e w' ⟨rfl, rfl⟩))
    obtain ⟨W3, hW3⟩ : ∃ W3, W3 = ((W.alloc ROW).alloc (Obj.cells #[.slice (some ⟨W.heap.size, 0, none⟩) N N, .bool false] 232)).alloc (Obj.cells #[.int .i64 0, .int .i64 0, .string { data := #[] }] 134) := ⟨_, rfl⟩
    obtain ⟨eb, heb⟩ : ∃ e, e = W.heap.size + 1 + 1 := ⟨_, rfl⟩
    obtain ⟨tb, htb⟩ : ∃ e, e = W.heap.size + 1 := ⟨_, rfl⟩
    have hB3 : Below W.heap.size W W3 := by rw [hW3]; exact (below2 _ _ _).alloc (by simp; omega) _
    have hbw : p + 1 ≤ W.heap.size := HBLK.out.sz
    have hte : tb < eb := by omega
    have hwt : W.heap.size < tb := by omega
    have T3 : Tkr W3 tb ws false (some ⟨W.heap.size, 0, none⟩) := by
      refine ⟨?_, fun y t e => ⟨_, 0, rfl, hwt, fun j hj => ?_⟩⟩
      · rw [hW3, ← HN.out]
        exact heap_old (by simp; omega) (heap_new (by simp; omega))
      · have hr : W3.heap[W.heap.size]? = some (Obj.cells (Tx.cells ws).toArray 9) := by
          rw [hW3, HROW.out]
          exact heap_old (by simp; omega) (heap_old (by simp) (heap_new rfl))
        rw [Nat.zero_add]
        simp [World.cell?, hr]
    have E3 : W3.heap[eb]? = some (Obj.cells #[.int .i64 0, .int .i64 0, .string { data := #[] }] 134) := by
      rw [hW3]
      exact heap_new (by simp; omega)
    rw [← hW3, ← heb, ← htb]
    clear hW3 heb htb
    have hl0 := HWL.out
    have hp0 := wd_le HWP.out
    have hp1 := wd_le (tl_mem HWP.out)
    have hlt1 := tl_len ws
    have hlt2 := tl_len (Tx.tl ws)
    have hlt3 := tl_len (Tx.tl (Tx.tl ws))
    refine ⟨trivial, ?_⟩
    refine (CallsIn.inRound l (callsIn_wide.2 (c141 tb ws false _ W3 (by omega) (by omega) T3))).mono ?_
    rintro e W4 ⟨A1, rfl, T4, O4⟩
    have E4 := O4.same _ _ E3 (by omega)
    have hB4 := hB3.trans (O4.bel.mono (by omega))
    clear T3 E3 O4 hB3
    obtain ⟨n1, hn1⟩ : ∃ n : Int, n = (Tx.iv (Tx.wd ws) : Int) := ⟨_, rfl⟩
    obtain ⟨q1, hq1⟩ : ∃ q, q = (false || !Tx.num (Tx.wd ws)) := ⟨_, rfl⟩
    obtain ⟨ws1, hws1⟩ : ∃ q, q = Tx.tl ws := ⟨_, rfl⟩
    rw [← hq1, ← hws1] at T4
    rw [← hws1] at hlt1 hlt2 hlt3 hp1
    rw [← hn1]
    have HN1 := Lib.hid hn1
    have HQ1 := Lib.hid hq1
    have HWS1 := Lib.hid hws1
    clear hn1 hq1 hws1
    have s0 := cell_at E4 (i := 0) rfl
    have s1 := cell_at E4 (i := 1) rfl
    have s2 := cell_at E4 (i := 2) rfl
    have sf := fun o => free_at E4 (i := o)
    gi_wp2_with fail
    have T5 := T4.setO (i := 0) (.int .i64 n1) hte
    have E5 := heap_set (i := 0) (.int .i64 n1) E4
    have hB5 := hB4.setCell (p := ⟨eb, 0, none⟩) (by show W.heap.size ≤ eb; omega) (.int .i64 n1)
    obtain ⟨W5, hW5⟩ : ∃ W5, W5 = W4.setCell ⟨eb, 0, none⟩ (.int .i64 n1) := ⟨_, rfl⟩
    rw [← hW5] at T5 E5 hB5 ⊢
    clear hW5 T4 E4 hB4 s0 s1 s2 sf
    refine ⟨trivial, ?_⟩
    refine (CallsIn.inRound l (callsIn_wide.2 (c141 tb ws1 q1 _ W5 (by omega) (by omega) T5))).mono ?_
    rintro e W6 ⟨A2, rfl, T6, O6⟩
    have E6 := O6.same _ _ E5 (by omega)
    have hB6 := hB5.trans (O6.bel.mono (by omega))
    clear T5 E5 O6 hB5
    obtain ⟨n2, hn2⟩ : ∃ n : Int, n = (Tx.iv (Tx.wd ws1) : Int) := ⟨_, rfl⟩
    obtain ⟨q2, hq2⟩ : ∃ q, q = (q1 || !Tx.num (Tx.wd ws1)) := ⟨_, rfl⟩
    obtain ⟨ws2, hws2⟩ : ∃ q, q = Tx.tl ws1 := ⟨_, rfl⟩
    rw [← hq2, ← hws2] at T6
    rw [← hws2] at hlt2 hlt3
    rw [← hn2]
    have HN2 := Lib.hid hn2
    have HQ2 := Lib.hid hq2
    have HWS2 := Lib.hid hws2
    clear hn2 hq2 hws2
    have s0 := cell_at E6 (i := 0) rfl
    have s1 := cell_at E6 (i := 1) rfl
    have s2 := cell_at E6 (i := 2) rfl
    have sf := fun o => free_at E6 (i := o)
    gi_wp2_with fail
    have T7 := T6.setO (i := 1) (.int .i64 n2) hte
    have E7 := heap_set (i := 1) (.int .i64 n2) E6
    have hB7 := hB6.setCell (p := ⟨eb, 1, none⟩) (by show W.heap.size ≤ eb; omega) (.int .i64 n2)
    obtain ⟨W7, hW7⟩ : ∃ W7, W7 = W6.setCell ⟨eb, 1, none⟩ (.int .i64 n2) := ⟨_, rfl⟩
    rw [← hW7] at T7 E7 hB7 ⊢
    clear hW7 T6 E6 hB6 s0 s1 s2 sf
    refine ⟨trivial, ?_⟩
    refine (CallsIn.inRound l (callsIn_wide.2 (c142 tb ws2 q2 _ W7 (by omega) T7))).mono ?_
    rintro e W8 ⟨A3, rfl, T8, O8⟩
    have E8 := O8.same _ _ E7 (by omega)
    have hB8 := hB7.trans (O8.bel.mono (by omega))
    clear T7 E7 O8 hB7
    obtain ⟨U, hU⟩ : ∃ U, U = Tx.bs (Tx.wd ws2) := ⟨_, rfl⟩
    obtain ⟨q3, hq3⟩ : ∃ q, q = (q2 || Tx.bad ws2) := ⟨_, rfl⟩
    obtain ⟨ws3, hws3⟩ : ∃ q, q = Tx.tl ws2 := ⟨_, rfl⟩
    rw [← hq3, ← hws3] at T8
    rw [← hU]
    have HU := Lib.hid hU
    have HQ3 := Lib.hid hq3
    have HWS3 := Lib.hid hws3
    clear hU hq3 hws3 hlt1 hlt2 hlt3 hl0 hp0 hp1
    have T9 := T8.setO (i := 2) (.string U) hte
    have E9 := heap_set (i := 2) (.string U) E8
    have hB9 := hB8.setCell (p := ⟨eb, 2, none⟩) (by show W.heap.size ≤ eb; omega) (.string U)
    have s0 := cell_at E8 (i := 0) rfl
    have s1 := cell_at E8 (i := 1) rfl
    have s2 := cell_at E8 (i := 2) rfl
    have sf := fun o => free_at E8 (i := o)
    have k0 := cell_at T9.blk (i := 0) rfl
    have k1 := cell_at T9.blk (i := 1) rfl
    obtain ⟨n3, hn3⟩ : ∃ n, n = ws3.length := ⟨_, rfl⟩
    rw [← hn3] at k0
    have hfail := tk_fail HSP.out HG.out HNE.out HWS.out HWH.out HQ1.out HWS1.out HQ2.out HWS2.out HQ3.out HWS3.out
    have hgood := tk_good HSP.out HG.out HNE.out HWS.out HWH.out HQ1.out HWS1.out HQ2.out HWS2.out HQ3.out HWS3.out
    rw [← hn3] at hfail hgood
    have HFAIL := Lib.hid hfail
    have HGOOD := Lib.hid hgood
    clear hfail hgood hn3 T8 hB8
    have hP9 := HBLK.out.grow (by omega) hB9
    obtain ⟨L, hL⟩ : ∃ L, L = pre.length := ⟨_, rfl⟩
    have hrow9 := hP9.row
    rw [← hL] at hrow9
    obtain ⟨A, cap, hx, _⟩ := Sl.of_own hrow9
    subst hx
    have k2 := cell_at hP9.k2 (i := 0) rfl
    have k3 := cell_at hP9.k3 (i := 0) rfl
    have k4 := cell_at hP9.k4 (i := 0) rfl
    have k5 := cell_at hP9.ko (i := 0) rfl
    have g2 := free_at hP9.k2 (i := 0)
    have g3 := free_at hP9.k3 (i := 0)
    have g4 := free_at hP9.k4 (i := 0)
    have g5 := free_at hP9.ko (i := 0)
    have HP9 := Lib.hid hP9
    have HROW9 := Lib.hid hrow9
    have HE9 := Lib.hid E9
    have HL := Lib.hid hL
    have HB9 := Lib.hid hB9
    have n32 : r3 ≠ r2 := by omega
    have n42 : r4 ≠ r2 := by omega
    have n43 : r4 ≠ r3 := by omega
    have no2 : o ≠ r2 := by omega
    obtain ⟨W9, hW9⟩ : ∃ W9, W9 = W8.setCell ⟨eb, 2, none⟩ (.string U) := ⟨_, rfl⟩
    have b0 := cell_at E9 (i := 0) rfl
    have b1 := cell_at E9 (i := 1) rfl
    have b2 := cell_at E9 (i := 2) rfl
    clear hrow9 hL E9 hP9 hB9 T9
    by_cases hbad : (!wh || q3 || decide (0 < n3)) = true
    · have HX := Lib.hid (HFAIL.out hbad)
      have hcs : wh = false ∨ (wh = true ∧ q3 = true) ∨ (wh = true ∧ q3 = false ∧ 0 < n3) := by
        cases wh <;> cases q3 <;> simp at hbad ⊢
        exact hbad
      clear hbad HFAIL HGOOD
      have hfin := bad_fin (W := W) (L := L) (TX := TX) hord HP9.out HB9.out hbw (by rw [HL.out]; exact HX.out)
      rw [← hb1] at hfin
      have HFIN := Lib.hid hfin
      clear hfin
      rcases hcs with h | ⟨h, h'⟩ | ⟨h, h', h''⟩
      · subst h
        gi_wp2
        gi_region
        all_goals gi_wp2
        all_goals exact HFIN.out
      · subst h h'
        gi_wp2
        gi_region
        all_goals gi_wp2
        all_goals exact HFIN.out
      · subst h h'
        have hn3i : (0 : Int) < (n3 : Int) := by omega
        gi_wp2
        gi_region
        all_goals gi_wp2
        all_goals exact HFIN.out
    · have hbf : (!wh || q3 || decide (0 < n3)) = false := by simpa using hbad
      have hgd := HGOOD.out hbf
      simp only [Bool.or_eq_false_iff, Bool.not_eq_false', decide_eq_false_iff_not] at hbf
      obtain ⟨⟨rfl, rfl⟩, hn3⟩ := hbf
      have hn0 : n3 = 0 := by omega
      subst hn0
      obtain ⟨i0, hi, hz0, hz1, hz2⟩ := info_parts info134
      have HGD := Lib.hid hgd
      have hLb : L ≤ 4097 := by
        have h1 := Tx.split_len_le 10 TX
        have h2 := HSP.out
        rw [h2, List.length_append, ← HL.out] at h1
        omega
      have hsz8 : p + 1 ≤ W8.heap.size := by have := HP9.out.sz; simp at this; omega
      clear hbad hn3 HFAIL HGOOD hgd
      gi_wp2_with (gi_at_builtin; refine stopq ?_)
      unfold StopQ
      refine wpListIn_append_own _ rfl _ _ 74 rfl (p + 1) 134 i0 (.agg #[.int .i64 0, .int .i64 0, .string ByteArray.empty]) 3 32 Tryz.underlying74 hi hz0 hz1 hz2 rfl (by decide) _ _ _ rfl (HROW9.out.alloc _) ⟨W8.heap.size, 0, none⟩ 1 1 [.int .i64 n1, .int .i64 n2, .string U] rfl rfl (news_one _ _ (by simp)) (by intro x hx; simp at hx; rcases hx with rfl | rfl | rfl <;> rfl) (by unfold maxLen; omega) (by omega) (by simp; omega) ?_
      intro x' W10 hown10 hg10 hat10
      obtain ⟨gq, capq, rfl, _, _⟩ := hown10.form (by omega)
      replace hg10 : World.grownBy _ W10 (Value.slice A L cap).ownBlock := hg10
      obtain ⟨g1, g2, g3⟩ := HGD.out
      have hfin := good_fin (W := W) (bd := Tx.bodyOf st) (e := ⟨n1, n2, U⟩) hord HP9.out HB9.out hbw (by rw [← HL.out]; exact hown10) hg10 (by rw [g2, HN1.out, HN2.out, HU.out])
      have hfo : W10.heap[o]? = some (.cells #[.slice A L cap] 74 (0, 0)) :=
        (hg10.block o (by simp; omega) (fun e => by
          have := own_ne HROW9.out (show o < p + 1 by omega)
          rcases this with h0 | h0
          · rw [h0] at e; cases e
          · exact h0 e.symm)).trans (heap_old (by simp; omega) HP9.out.ko)
      have HF : Hid (LinePost w1.heap.size (fun W => PI TX w r2 r3 r4 o p (p + 1) (Tx.restOf st) (Tx.restOf st) W) (fun W => PX TX w r2 r3 r4 W) W .normal { tmps := #[], defers := [] } (W10.setCell ⟨o, 0, none⟩ (.slice (some ⟨gq, 0, none⟩) (L + 1) capq))) := Lib.hid ⟨by rw [hb1]; exact hfin.1, _, _, g1, g3, HREST.out, hfin.2⟩
      have m5 := cell_at hfo (i := 0) rfl
      have mf := free_at hfo (i := 0)
      clear hfin hfo hown10 hg10 hat10 g1 g2 g3
      gi_wp2
      exact HF.out
  case done =>
    intro D W hD hI hK
    obtain ⟨a1, a2, a3, a4, a5, a6⟩ := hord
    obtain ⟨pre, x, h1, h2, _, h⟩ := hI
    have hgl := Tx.split_len_le 10 TX
    have hps := Tx.piece_le (c := 10) (l := TX)
    rw [h1] at hgl hps
    rw [List.length_append] at hgl
    obtain ⟨N, hN⟩ : ∃ N, N = pre.length := ⟨_, rfl⟩
    have hNl : N ≤ 4097 := by omega
    have hpe := Tx.parse_end h1 h2
    rw [← hN] at hpe
    have hrow := h.row
    rw [← hN] at hrow h2
    obtain ⟨A, cap, rfl, hr⟩ := Sl.of_own hrow
    have h62 := c62 A cap (Tx.good pre) W (by omega) (fun e he => Nat.le_trans (good_size (n := 4096) pre (fun c hc => Nat.le_trans (hps c (by simp [hc])) (by omega)) e he) (by decide)) (by unfold RdL; rw [h2]; exact hr)
    rw [h2] at h62
    obtain ⟨E, hE⟩ : ∃ E, E = Mo.entries (Tx.good pre) := ⟨_, rfl⟩
    rw [← hE] at h62 hpe
    have H62 := Lib.hid h62
    have HPE := Lib.hid hpe
    have HG := Lib.hid h2
    have HB := Lib.hid h
    have HR := Lib.hid hrow
    have k5 := cell_at h.ko (i := 0) rfl
    have nD : D < W.heap.size := (Array.getElem?_eq_some_iff.1 hK).1
    have nb := h.sz
    clear h1 h2 hgl hps hN hrow hr h62 hE h hpe
    go_wp2_with fail
    refine H62.out.mono ?_
    rintro e w2 ⟨rfl, hb2⟩
    have q2 := blkb HB.out.k2 hb2
    have q3 := blkb HB.out.k3 hb2
    have q4 := blkb HB.out.k4 hb2
    have qo := blkb HB.out.ko hb2
    have hk2 := blkb hK hb2
    have hrow2 := Lib.hid (own_below HR.out hb2)
    have hbel := Lib.hid (HB.out.bel.trans (hb2.mono (by omega)))
    have c2 := cell_at q2 (i := 0) rfl
    have c3 := cell_at q3 (i := 0) rfl
    have c4 := cell_at q4 (i := 0) rfl
    have c5 := cell_at qo (i := 0) rfl
    have g2 := free_at q2 (i := 0)
    have g3 := free_at q3 (i := 0)
    have g4 := free_at q4 (i := 0)
    have Q2 := Lib.hid q2
    have Q3 := Lib.hid q3
    have Q4 := Lib.hid q4
    have HK2 := Lib.hid hk2
    clear q2 q3 q4 qo hk2 k5 hK
    have n32 : r3 ≠ r2 := by omega
    have n42 : r4 ≠ r2 := by omega
    have n43 : r4 ≠ r3 := by omega
    have no2 : o ≠ r2 := by omega
    by_cases hE0 : E = 0
    · subst hE0
      have HP : Hid (Tx.parse TX = (Tx.good pre, 0, 0)) := Lib.hid (by have := HPE.out; rw [if_neg (by simp)] at this; exact this)
      obtain ⟨W3, hW3⟩ : ∃ W3, W3 = ((w2.setCell ⟨r2, 0, none⟩ (.slice A N cap)).setCell ⟨r3, 0, none⟩ (.int .i64 0)).setCell ⟨r4, 0, none⟩ (.int .i64 0) := ⟨_, rfl⟩
      have f2 : W3.heap[r2]? = some (.cells #[.slice A N cap] 74 (0, 0)) := by rw [hW3]; exact set_other _ (set_other _ (heap_set _ Q2.out) (by omega)) (by omega)
      have f3 : W3.heap[r3]? = some (.cells #[.int .i64 0] 3 (0, 0)) := by rw [hW3]; exact set_other _ (heap_set _ (set_other _ Q3.out (by omega))) (by omega)
      have f4 : W3.heap[r4]? = some (.cells #[.int .i64 0] 32 (0, 0)) := by rw [hW3]; exact heap_set _ (set_other _ (set_other _ Q4.out (by omega)) (by omega))
      have fD : W3.heap[D]? = some (.deferred (some [])) := by rw [hW3]; exact set_other _ (set_other _ (set_other _ HK2.out (by omega)) (by omega)) (by omega)
      have frow : W3.ownsRow (p + 1) 134 3 (.slice A N cap) N ((Tx.good pre).flatMap Ent.enc) := by
        rw [hW3]
        have r0 := hrow2.out
        have r1 := r0.kept (Only.set_grown r2 0 w2 (.slice A N cap)) (own_ne r0 (by omega))
        have r2' := r1.kept (Only.set_grown r3 0 _ (.int .i64 0)) (own_ne r1 (by omega))
        exact r2'.kept (Only.set_grown r4 0 _ (.int .i64 0)) (own_ne r2' (by omega))
      have fbel : Below r2 w W3 := by
        rw [hW3]
        exact ((hbel.out.setCell (p := ⟨r2, 0, none⟩) (Nat.le_refl _) _).setCell (p := ⟨r3, 0, none⟩) (by show r2 ≤ r3; omega) _).setCell (p := ⟨r4, 0, none⟩) (by show r2 ≤ r4; omega) _
      clear hb2
      go_wp2
      rw [← hW3]
      have e2 : (W3.putObj D (.deferred none)).cell? ⟨r2, 0, none⟩ = some (.slice A N cap) := cell_at ((World.putObj_heap_other (by omega)).trans f2) rfl
      have e3 : (W3.putObj D (.deferred none)).cell? ⟨r3, 0, none⟩ = some (.int .i64 0) := cell_at ((World.putObj_heap_other (by omega)).trans f3) rfl
      have e4 : (W3.putObj D (.deferred none)).cell? ⟨r4, 0, none⟩ = some (.int .i64 0) := cell_at ((World.putObj_heap_other (by omega)).trans f4) rfl
      refine ⟨by simp, .inl ⟨_, _, rfl, run_takeDeferred fD, ?_⟩⟩
      refine ⟨.tuple #[.slice A N cap, .int .i64 0, .int .i64 0], by simp [results, Tryz.results77, go_sem, e2, e3, e4], ?_⟩
      rw [HP.out]
      have frow2 := own_keep (B0 := 0) frow (grownBy_putObj' W3 D (.deferred none)) (fun r e => by cases e; exact ⟨Nat.zero_le _, _, fD, rfl⟩)
      obtain ⟨A2, cap2, hv, hr⟩ := Sl.of_own frow2
      cases hv
      refine PR.list HG.out.symm (by unfold RdL; rw [HG.out]; exact hr) ?_
      rw [a1]
      exact fbel.trans (belowK_b (w := w1) (by omega) W3 D _ _ (by omega) fD rfl rfl)
    · have HP : Hid (Tx.parse TX = ([], (N : Int), E)) := Lib.hid (by have := HPE.out; rw [if_pos hE0] at this; exact this)
      have hen : (E != 0) = true := by simpa using hE0
      obtain ⟨W3, hW3⟩ : ∃ W3, W3 = ((w2.setCell ⟨r2, 0, none⟩ (.slice none 0 0)).setCell ⟨r3, 0, none⟩ (.int .i64 N)).setCell ⟨r4, 0, none⟩ (.int .i64 E) := ⟨_, rfl⟩
      have f2 : W3.heap[r2]? = some (.cells #[.slice none 0 0] 74 (0, 0)) := by rw [hW3]; exact set_other _ (set_other _ (heap_set _ Q2.out) (by omega)) (by omega)
      have f3 : W3.heap[r3]? = some (.cells #[.int .i64 N] 3 (0, 0)) := by rw [hW3]; exact set_other _ (heap_set _ (set_other _ Q3.out (by omega))) (by omega)
      have f4 : W3.heap[r4]? = some (.cells #[.int .i64 E] 32 (0, 0)) := by rw [hW3]; exact heap_set _ (set_other _ (set_other _ Q4.out (by omega)) (by omega))
      have fD : W3.heap[D]? = some (.deferred (some [])) := by rw [hW3]; exact set_other _ (set_other _ (set_other _ HK2.out (by omega)) (by omega)) (by omega)
      have fbel : Below r2 w W3 := by
        rw [hW3]
        exact ((hbel.out.setCell (p := ⟨r2, 0, none⟩) (Nat.le_refl _) _).setCell (p := ⟨r3, 0, none⟩) (by show r2 ≤ r3; omega) _).setCell (p := ⟨r4, 0, none⟩) (by show r2 ≤ r4; omega) _
      clear hb2 hE0
      go_wp2
      go_region
      go_wp2
      rw [← hW3]
      obtain ⟨W4, hW4⟩ : ∃ W4, W4 = W3.drew := ⟨_, rfl⟩
      have f2 : W4.heap[r2]? = some (.cells #[.slice none 0 0] 74 (0, 0)) := by rw [hW4]; exact f2
      have f3 : W4.heap[r3]? = some (.cells #[.int .i64 N] 3 (0, 0)) := by rw [hW4]; exact f3
      have f4 : W4.heap[r4]? = some (.cells #[.int .i64 E] 32 (0, 0)) := by rw [hW4]; exact f4
      have fD : W4.heap[D]? = some (.deferred (some [])) := by rw [hW4]; exact fD
      have fbel : Below r2 w W4 := by rw [hW4]; exact fbel.drew
      rw [← hW4]
      have e2 : (W4.putObj D (.deferred none)).cell? ⟨r2, 0, none⟩ = some (.slice none 0 0) := cell_at ((World.putObj_heap_other (by omega)).trans f2) rfl
      have e3 : (W4.putObj D (.deferred none)).cell? ⟨r3, 0, none⟩ = some (.int .i64 N) := cell_at ((World.putObj_heap_other (by omega)).trans f3) rfl
      have e4 : (W4.putObj D (.deferred none)).cell? ⟨r4, 0, none⟩ = some (.int .i64 E) := cell_at ((World.putObj_heap_other (by omega)).trans f4) rfl
      refine ⟨by simp, .inl ⟨_, _, rfl, run_takeDeferred fD, ?_⟩⟩
      refine ⟨.tuple #[.slice none 0 0, .int .i64 N, .int .i64 E], by simp [results, Tryz.results77, go_sem, e2, e3, e4], ?_⟩
      rw [HP.out]
      refine PR.nil _ _ ?_
      rw [a1]
      exact fbel.trans (belowK_b (w := w1) (by omega) W4 D _ _ (by omega) fD rfl rfl)
  case stop =>
    intro D W hD hX hK
    obtain ⟨a1, a2, a3, a4, a5, a6⟩ := hord
    obtain ⟨i, hi, h2, h3, h4⟩ := hX.ex
    have e2 : (W.putObj D (.deferred none)).cell? ⟨r2, 0, none⟩ = some (.slice none 0 0) := cell_at ((World.putObj_heap_other (by omega)).trans h2) rfl
    have e3 : (W.putObj D (.deferred none)).cell? ⟨r3, 0, none⟩ = some (.int .i64 i) := cell_at ((World.putObj_heap_other (by omega)).trans h3) rfl
    have e4 : (W.putObj D (.deferred none)).cell? ⟨r4, 0, none⟩ = some (.int .i64 25) := cell_at ((World.putObj_heap_other (by omega)).trans h4) rfl
    have HF : Hid (PR w (Tx.parse TX) (.returned (.tuple #[.slice none 0 0, .int .i64 i, .int .i64 25])) (W.putObj D (.deferred none))) := Lib.hid (by
      rw [hi]
      refine PR.nil _ _ ?_
      rw [a1]
      exact hX.bel.trans (belowK_b (w := w1) (by omega) W D _ _ (by omega) hK rfl rfl))
    clear hX hi h2 h3 h4
    gi_wp2
    refine ⟨by simp, .inl ⟨_, _, rfl, run_takeDeferred hK, ?_⟩⟩
    refine ⟨.tuple #[.slice none 0 0, .int .i64 i, .int .i64 25], by simp [results, Tryz.results77, go_sem, e2, e3, e4], HF.out⟩
end Go.Proofs.YtndhjkammoeikaaGreatDoor
