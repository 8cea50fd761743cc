/- A part of the proofs about chapter 9: contracts of functions and plain laws (ShelfC, W93, W94, Close2). -/
import Derived.Shelf.Strings.Builder1
import Derived.Shelf.Strings.Builder2
import Derived.Shelf.Strings.OnBuilder
import Derived.Shelf.Small.Strs
import Derived.Shelf.Small.Wraps
import Derived.Shelf.Strings.BuilderF
import Derived.Shelf.Strings.BuilderK
import Derived.Shelf.Utf8.RuneCount
import Derived.Shelf.Strings.Builder2Cap
import Derived.Shelf.Strconv.Itoa0
import Derived.Shelf.Strconv.Itoa1
import Derived.Shelf.LaysM
import Derived.Shelf.Strconv.Itoa2
import Derived.Shelf.Strconv.Itoa3
import Derived.Shelf.Strings.Search1
import Derived.Shelf.Strings.Search2
import Derived.Shelf.Strings.Search3
import Derived.Shelf.Strings.Count
import Derived.Shelf.Strings.Shaped
import Derived.Shelf.Strings.Prefix
import Derived.Shelf.Strings.Split
import Derived.Shelf.Strings.SplitShaped
import Derived.Shelf.Unicode.Decode
import Derived.Shelf.Strings.RuneCount
import Derived.Shelf.Strings.Explode
import Derived.Shelf.Unicode.DecodeSlow
import Derived.Shelf.Unicode.DecodeAny
import Derived.Shelf.Strings.BuilderCap
import Derived.Test.YtndhjkammoeikaaGreatDoorProg
import Derived.Test.YtndhjkammoeikaaGreatDoorRows
import Derived.Lib.AppendIntMem
import Derived.MakeChecks
import Derived.Stop.LaidErr
import Derived.Lib.LaidTab
import Derived.Lay
import Derived.Test.YtndhjkammoeikaaGreatDoorT02
import Derived.Test.YtndhjkammoeikaaGreatDoorM01
import Derived.Test.YtndhjkammoeikaaGreatDoorA16
set_option linter.all false
/-
  DERIVED: THE SHELF's CONTRACTS AT THIS DUMP, IN PLAIN WORDS (tools/lay-plain.mjs out of 'TryzShelf.lean', which tools/lay-shelf.mjs wrote): THE SAME DECLARATIONS UNDER THE SAME NAMES: 'import', 'namespace', 'open', 'def', 'theorem' AND NOTHING ELSE: no command of the shelf's: FOR A HAND-IN. Each laying: the table of numbers ('.._ren') and one theorem, a field a fact of the dump's own or the kernel's comparison; each contract: ONE APPLICATION.
-/
namespace Go.Proofs
open Go.Shelf
/-- the name of the table of powers of ten -/
def powName : String := (Go.Proofs.YtndhjkammoeikaaGreatDoor.Rows.surveyTextsRow.laid.map (·.1)).getD 2 default
def Tryz.laysM171_ren : Go.Shelf.Ren := ⟨fun | 171 => 137 | 243 => 167 | 246 => 180 | 283 => 188 | 284 => 189 | 285 => 190 | 286 => 191 | 129 => 198 | 317 => 197 | 318 => 199 | 319 => 200 | 320 => 201 | 337 => 206 | 338 => 207 | n => n, fun | 3 => 3 | 9 => 9 | 2 => 2 | 4 => 4 | 171 => 269 | 0 => 0 | 53 => 270 | 37 => 247 | 5 => 5 | 173 => 273 | 212 => 279 | 51 => 280 | 20 => 20 | 213 => 281 | 46 => 282 | 232 => 291 | 233 => 292 | n => n, fun | 17 => 1 | 18 => 4 | 19 => 5 | n => n⟩
theorem Tryz.laysM171 : Go.Proofs.LaysM.n171 Tryz.prog Tryz.laysM171_ren := {
  mixed := by kernel_rfl
  f129 := Tryz.func198.trans (congrArg some (by kernel_rfl))
  f171 := Tryz.func137.trans (congrArg some (by kernel_rfl))
  f243 := Tryz.func167.trans (congrArg some (by kernel_rfl))
  f246 := Tryz.func180.trans (congrArg some (by kernel_rfl))
  f283 := Tryz.func188.trans (congrArg some (by kernel_rfl))
  f284 := Tryz.func189.trans (congrArg some (by kernel_rfl))
  f285 := Tryz.func190.trans (congrArg some (by kernel_rfl))
  f286 := Tryz.func191.trans (congrArg some (by kernel_rfl))
  f317 := Tryz.func197.trans (congrArg some (by kernel_rfl))
  f318 := Tryz.func199.trans (congrArg some (by kernel_rfl))
  f319 := Tryz.func200.trans (congrArg some (by kernel_rfl))
  f320 := Tryz.func201.trans (congrArg some (by kernel_rfl))
  f337 := Tryz.func206.trans (congrArg some (by kernel_rfl))
  f338 := Tryz.func207.trans (congrArg some (by kernel_rfl))
  t0 := Tryz.underlying0
  a0 := Tryz.isAgg0
  z0 := Tryz.sizeOf0
  v0 := Tryz.zeroValue0
  t2 := Tryz.underlying2
  a2 := Tryz.isAgg2
  z2 := Tryz.sizeOf2
  v2 := Tryz.zeroValue2
  t3 := Tryz.underlying3
  a3 := Tryz.isAgg3
  z3 := Tryz.sizeOf3
  v3 := Tryz.zeroValue3
  t4 := Tryz.underlying4
  a4 := Tryz.isAgg4
  z4 := Tryz.sizeOf4
  v4 := Tryz.zeroValue4
  t5 := Tryz.underlying5
  a5 := Tryz.isAgg5
  z5 := Tryz.sizeOf5
  v5 := Tryz.zeroValue5
  t9 := Tryz.underlying9
  a9 := Tryz.isAgg9
  z9 := Tryz.sizeOf9
  v9 := Tryz.zeroValue9
  t20 := Tryz.underlying20
  a20 := Tryz.isAgg20
  z20 := Tryz.sizeOf20
  v20 := Tryz.zeroValue20
  t37 := Tryz.underlying247
  a37 := Tryz.isAgg247
  z37 := Tryz.sizeOf247
  v37 := Tryz.zeroValue247
  t46 := Tryz.underlying282
  a46 := Tryz.isAgg282
  z46 := Tryz.sizeOf282
  v46 := Tryz.zeroValue282
  t51 := Tryz.underlying280
  a51 := Tryz.isAgg280
  z51 := Tryz.sizeOf280
  v51 := Tryz.zeroValue280
  t53 := Tryz.underlying270
  a53 := Tryz.isAgg270
  z53 := Tryz.sizeOf270
  v53 := Tryz.zeroValue270
  t171 := Tryz.underlying269
  a171 := Tryz.isAgg269
  z171 := Tryz.sizeOf269
  v171 := Tryz.zeroValue269
  t173 := Tryz.underlying273
  a173 := Tryz.isAgg273
  z173 := Tryz.sizeOf273
  v173 := Tryz.zeroValue273
  t212 := Tryz.underlying279
  a212 := Tryz.isAgg279
  z212 := Tryz.sizeOf279
  v212 := Tryz.zeroValue279
  t213 := Tryz.underlying281
  a213 := Tryz.isAgg281
  z213 := Tryz.sizeOf281
  t232 := Tryz.underlying291
  a232 := Tryz.isAgg291
  z232 := Tryz.sizeOf291
  v232 := Tryz.zeroValue291
  t233 := Tryz.underlying292
  a233 := Tryz.isAgg292
  z233 := Tryz.sizeOf292
  v233 := Tryz.zeroValue292
  g17 := by kernel_rfl
  g18 := by kernel_rfl
  g19 := by kernel_rfl
  i0 := by kernel_rfl
  i2 := by kernel_rfl
  i3 := by kernel_rfl
  i4 := by kernel_rfl
  i5 := by kernel_rfl
  i9 := by kernel_rfl
  i20 := by kernel_rfl
  i37 := by kernel_rfl
  i46 := by kernel_rfl
  i51 := by kernel_rfl
  i53 := by kernel_rfl
  i171 := by kernel_rfl
  i173 := by kernel_rfl
  i212 := by kernel_rfl
  i232 := by kernel_rfl
  i233 := by kernel_rfl
  m17 := by kernel_rfl
  m18 := by kernel_rfl
  m19 := by kernel_rfl }
open Go.RowKit Go.Sort Go.Lib in
/-- strconv.Itoa: "Itoa is equivalent to FormatInt(int64(i), 10).": i's DECIMAL NUMERAL ('Lib.itoa': a '-' where i is negative, then the digits), FOR EVERY int. The world behind the call: the world before it, new blocks behind the heap (the library's 'var a [24]byte'), draws. (LAID: no walk: one application.) -/
theorem Tryz.strconv_Itoa (n : Int) (h0 : -9223372036854775808 ≤ n) (h1 : n ≤ 9223372036854775807) (w : World) (htab : Lib.TabIs Tryz.prog w powName .u64 Lib.pow10Tab) :
    Calls Tryz.prog 137 #[.int .i64 n] w fun e w' => e = .returned (.string ⟨(Lib.itoa n).toArray⟩) ∧ ∃ k os, w' = grow (w.drewN k) os := Any.strconv_Itoa Tryz.laysM171 n h0 h1 w htab
end Go.Proofs
namespace Go.Proofs.YtndhjkammoeikaaGreatDoor
open Go.RowKit
set_option maxHeartbeats 100000000
set_option maxRecDepth 20000

theorem itoaOk_pow {w : World} (h : Lib.TabIs Tryz.prog w powName .u64 Lib.pow10Tab) (n : Int) (h0 : -9223372036854775808 ≤ n) (h1 : n ≤ 9223372036854775807) : ItoaOk w n :=
  ⟨Lib.itoa_length_le n h0 h1, fun W hW => (Tryz.strconv_Itoa n h0 h1 W (Lib.tabBelow_of_tabIs h W hW)).mono fun e w' ⟨he, k, os, hw⟩ => ⟨he, by rw [hw]; exact Go.Lib.below_grow _ _ (Nat.le_refl _) _ _⟩⟩
theorem ents_itoa {w : World} {l : List Ent} (h : Lib.TabIs Tryz.prog w powName .u64 Lib.pow10Tab) (hE : Mo.entries l = 0) : ∀ e ∈ l, ItoaOk w e.f ∧ ItoaOk w e.t := fun e he => by
  have hb := ((Mo.entries_ok hE).2.1 e he).b
  exact ⟨itoaOk_pow h e.f (by omega) (by omega), itoaOk_pow h e.t (by omega) (by omega)⟩
theorem parseS_len (s : List UInt8) : (Tx.parseS s).1.length ≤ 4097 := by
  unfold Tx.parseS
  split
  · simp
  · unfold Tx.parse
    have h1 := Tx.good_len (Tx.split 10 s).dropLast
    have h2 := Tx.split_len_le 10 s
    have h3 : (Tx.split 10 s).dropLast.length ≤ (Tx.split 10 s).length := by rw [List.length_dropLast]; omega
    split
    · simp
    · split
      · simp
      · split
        · simp
        · simp only
          omega

theorem l12 (A : Option Addr) (cap : Nat) (l : List Ent) (s : ByteArray) (m : Int) (w : World) (hl0 : l.length ≤ 9223372036854775807) (hs0 : s.size ≤ 9223372036854775807) (H : RdL w 3 Ent.enc A l) (hm : w.cell? ⟨0, 0, none⟩ = some (.int .i64 m)) (hpow : Lib.TabIs Tryz.prog w powName .u64 Lib.pow10Tab) :
    Calls Tryz.prog 12 #[.slice A l.length cap, .string s] w fun en w' => en = .returned (.bool true) ∧ Below w.heap.size w w' := by
  have hm0 := cell_lt hm
  have HM : Hid (∀ W, Below w.heap.size w W → W.cell? ⟨0, 0, none⟩ = some (.int .i64 m)) := Lib.hid (fun W hW => (hW.cell (p := ⟨0, 0, none⟩) hm0).trans hm)
  have HIO : Hid (Mo.entries l = 0 → ∀ W, Below w.heap.size w W → ∀ e ∈ l, ItoaOk W e.f ∧ ItoaOk W e.t) := Lib.hid (fun hE W hW e he => ⟨(ents_itoa hpow hE e he).1.below hW, (ents_itoa hpow hE e he).2.below hW⟩)
  clear hm hpow hm0
  obtain ⟨N, hN⟩ : ∃ N, N = l.length := ⟨_, rfl⟩
  obtain ⟨E, hE⟩ : ∃ E, E = Mo.entries l := ⟨_, rfl⟩
  have h51 := fun w1 (H1 : RdS w1 3 A l.length (l.flatMap Ent.enc)) => c51w A cap l w1 hl0 H1
  have h53 := fun w1 (h : l.length ≤ 1000000) (H1 : RdS w1 3 A l.length (l.flatMap Ent.enc)) => c53o A cap l w1 h H1
  have h56 := fun w1 (h : l.length ≤ 1000000) (H1 : RdS w1 3 A l.length (l.flatMap Ent.enc)) => c56 A cap l w1 h H1
  have h76 := fun w1 A cap (h : l.length ≤ 1000000) hs hio (H1 : RdS w1 3 A l.length (l.flatMap Ent.enc)) => c76 A cap l w1 h hs hio H1
  have h78 := fun (h0 : Mo.entries l = 0) w1 (H1 : RdS w1 3 A l.length (l.flatMap Ent.enc)) => c78 A cap l w1 h0 H1
  rw [← hE] at h56 h76
  obtain ⟨X, hX⟩ : ∃ X, X = if E = 0 then Mo.printV l else ByteArray.empty := ⟨_, rfl⟩
  rw [← hX] at h76
  have HX := Lib.hid hX
  clear hX
  have hpl := parseS_len s.data.toList
  have h77 := fun w1 (h : s.size ≤ 1000000) hm => c77 s m w1 h hm
  have h79 := fun w1 (h : s.size ≤ 1000000) => c79 s w1 h
  obtain ⟨p, hp⟩ : ∃ p, p = Tx.parseS s.data.toList := ⟨_, rfl⟩
  rw [← hp] at h77 h79 hpl
  obtain ⟨PL, PI, PE⟩ := p
  unfold PR at h77 h79
  obtain ⟨NL, hNL⟩ : ∃ N, N = PL.length := ⟨_, rfl⟩
  have h44 := fun w1 A cap (H1 : RdS w1 3 A PL.length (PL.flatMap Ent.enc)) => c44 A cap PL w1 (Nat.le_trans hpl (by decide)) H1
  have h43 := fun w1 A cap B capb (H1 : RdS w1 3 A PL.length (PL.flatMap Ent.enc)) (H2 : RdS w1 3 B PL.length (PL.flatMap Ent.enc)) => c43 A B cap capb PL w1 (Nat.le_trans hpl (by decide)) H1 H2
  unfold RdL at h77 h79
  simp only at h77 h79
  rw [← hNL] at h77 h79 h44 h43
  replace H : RdS w 3 A l.length (l.flatMap Ent.enc) := H
  rw [← hN] at H h51 h53 h56 h76 h78 ⊢
  have HN := Lib.hid hN
  have HE := Lib.hid hE
  have H51 := Lib.hid h51
  have H53 := Lib.hid h53
  have H56 := Lib.hid h56
  have H76 := Lib.hid h76
  have H78 := Lib.hid h78
  have H77 := Lib.hid h77
  have H79 := Lib.hid h79
  have H44 := Lib.hid h44
  have H43 := Lib.hid h43
  clear hl0 hN hE hp hNL hpl h51 h53 h56 h76 h78 h77 h79 h44 h43
  go_enter Tryz.func12, Tryz.ntmps12
  obtain ⟨w0, hw0⟩ : ∃ W, W = w := ⟨_, rfl⟩
  subst hw0
  have hB0 : Below w0.heap.size w0 w0 := Below.refl _ _
  go_wp2_with fail
  refine (H51.out _ H).mono ?_
  rintro e w' ⟨⟨b, rfl, hb1⟩, rfl⟩
  clear H51
  cases b
  case false =>
    go_wp2_with fail
    refine (c15 _).mono ?_
    rintro e wz ⟨rfl, hz⟩
    go_wp2
    go_ret
    exact ⟨rfl, hB0.call hz rfl⟩
  obtain ⟨hl, hsz⟩ := hb1 rfl
  clear hb1
  have HSZ : Hid (∀ e ∈ l, e.c.size ≤ 1000000) := Lib.hid (fun e he => by have := hsz e he; omega)
  have HL : Hid (N ≤ 1000000) := Lib.hid (by omega)
  clear hsz hl
  rcases (show (400 < s.size ∧ s.size ≠ 4097) ∨ s.size ≤ 400 ∨ s.size = 4097 by omega) with ⟨h4, h5⟩ | h4 | h4
  ·
      have h4i : (400 : Int) < (s.size : Int) := by omega
      have h5i : ((s.size : Int) != 4097) = true := by simp; omega
      have h5n : (s.size != 4097) = true := by simpa using h5
      clear h4 h5
      go_wp2_with fail
      refine (c15 _).mono ?_
      rintro e wz ⟨rfl, hz⟩
      go_wp2
      go_ret
      exact ⟨rfl, hB0.call hz rfl⟩
  ·
      have h4i : (s.size : Int) ≤ 400 := by omega
      have HS : Hid (s.size ≤ 1000000) := Lib.hid (by omega)
      clear h4
      go_wp2_with fail
      refine (H53.out _ HL.out H).mono ?_
      rintro e w1 ⟨x, rfl, ho, hb⟩
      have hS := hb
      have hB1 := hB0.call hS rfl
      replace H := H.below hS
      clear hS hB0
      clear hb
      obtain ⟨AE, CE, rfl, he, _, _, _⟩ := own_form ho
      clear ho
      go_wp2_with fail
      refine (H76.out _ AE CE HL.out HSZ.out (fun h0 => HIO.out (by rw [← HE.out]; exact h0) _ hB1) he).mono ?_
      rintro e w2 ⟨rfl, hb⟩
      have hS := hb
      have hB2 := hB1.call hS rfl
      replace H := H.below hS
      replace he := he.below hS
      clear hS hB1
      clear hb
      clear he
      go_wp2_with fail
      refine (H77.out _ HS.out (HM.out _ hB2)).mono ?_
      rintro e w3 ⟨A1, cap1, rfl, hr1, hb⟩
      have hS := hb
      have hB3 := hB2.call hS rfl
      replace H := H.below hS
      clear hS hB2
      clear hb
      go_wp2_with fail
      refine (H56.out _ HL.out H).mono ?_
      rintro e w4 ⟨rfl, hb⟩
      have hS := hb
      have hB4 := hB3.call hS rfl
      replace H := H.below hS
      replace hr1 := hr1.below hS
      clear hS hB3
      clear hb
      by_cases hE0 : E = 0
      ·
          subst hE0
          obtain rfl : X = ⟨(Tx.text l).toArray⟩ := by rw [HX.out, if_pos rfl, printV_text]
          clear HX
          go_wp2_with fail
          refine (H78.out HE.out.symm _ H).mono ?_
          rintro e w5 ⟨rfl, hb⟩
          have hS := hb
          have hB5 := hB4.call hS rfl
          replace H := H.below hS
          replace hr1 := hr1.below hS
          clear hS hB4
          clear hb
          go_wp2_with fail
          refine (H79.out _ HS.out).mono ?_
          rintro e w6 ⟨A2, cap2, rfl, hr2, hb⟩
          have hS := hb
          have hB6 := hB5.call hS rfl
          replace H := H.below hS
          replace hr1 := hr1.below hS
          clear hS hB5
          clear hb
          go_wp2_with fail
          refine (H44.out _ A1 cap1 hr1).mono ?_
          rintro e w7 ⟨_, rfl, ⟨AO, CO, rfl, hro⟩, hb⟩
          have hS := hb
          have hB7 := hB6.call hS rfl
          replace H := H.below hS
          replace hr1 := hr1.below hS
          replace hr2 := hr2.below hS
          clear hS hB6
          clear hb
          go_wp2_with fail
          refine (H43.out _ AO CO A2 cap2 hro hr2).mono ?_
          rintro e w8 ⟨rfl, hb⟩
          have hS := hb
          have hB8 := hB7.call hS rfl
          replace H := H.below hS
          replace hr1 := hr1.below hS
          replace hr2 := hr2.below hS
          replace hro := hro.below hS
          clear hS hB7
          clear hb
          go_wp2_with fail
          refine (c15 _).mono ?_
          rintro e wz ⟨rfl, hz⟩
          go_wp2
          go_ret
          exact ⟨rfl, hB8.call hz rfl⟩
      ·
          obtain rfl : X = { data := #[] } := by rw [HX.out, if_neg hE0]; rfl
          have hEf : (E == 0) = false := by simpa using hE0
          clear hE0 HX
          go_wp2_with fail
          refine (H79.out _ HS.out).mono ?_
          rintro e w5 ⟨A2, cap2, rfl, hr2, hb⟩
          have hS := hb
          have hB5 := hB4.call hS rfl
          replace H := H.below hS
          replace hr1 := hr1.below hS
          clear hS hB4
          clear hb
          go_wp2_with fail
          refine (H44.out _ A1 cap1 hr1).mono ?_
          rintro e w6 ⟨_, rfl, ⟨AO, CO, rfl, hro⟩, hb⟩
          have hS := hb
          have hB6 := hB5.call hS rfl
          replace H := H.below hS
          replace hr1 := hr1.below hS
          replace hr2 := hr2.below hS
          clear hS hB5
          clear hb
          go_wp2_with fail
          refine (H43.out _ AO CO A2 cap2 hro hr2).mono ?_
          rintro e w7 ⟨rfl, hb⟩
          have hS := hb
          have hB7 := hB6.call hS rfl
          replace H := H.below hS
          replace hr1 := hr1.below hS
          replace hr2 := hr2.below hS
          replace hro := hro.below hS
          clear hS hB6
          clear hb
          go_wp2_with fail
          refine (c15 _).mono ?_
          rintro e wz ⟨rfl, hz⟩
          go_wp2
          go_ret
          exact ⟨rfl, hB7.call hz rfl⟩
  ·
      have h4i : (400 : Int) < (s.size : Int) := by omega
      have h5i : ((s.size : Int) != 4097) = false := by simp; omega
      have h5n : (s.size != 4097) = false := by simp; omega
      have HS : Hid (s.size ≤ 1000000) := Lib.hid (by omega)
      clear h4
      go_wp2_with fail
      refine (H53.out _ HL.out H).mono ?_
      rintro e w1 ⟨x, rfl, ho, hb⟩
      have hS := hb
      have hB1 := hB0.call hS rfl
      replace H := H.below hS
      clear hS hB0
      clear hb
      obtain ⟨AE, CE, rfl, he, _, _, _⟩ := own_form ho
      clear ho
      go_wp2_with fail
      refine (H76.out _ AE CE HL.out HSZ.out (fun h0 => HIO.out (by rw [← HE.out]; exact h0) _ hB1) he).mono ?_
      rintro e w2 ⟨rfl, hb⟩
      have hS := hb
      have hB2 := hB1.call hS rfl
      replace H := H.below hS
      replace he := he.below hS
      clear hS hB1
      clear hb
      clear he
      go_wp2_with fail
      refine (H77.out _ HS.out (HM.out _ hB2)).mono ?_
      rintro e w3 ⟨A1, cap1, rfl, hr1, hb⟩
      have hS := hb
      have hB3 := hB2.call hS rfl
      replace H := H.below hS
      clear hS hB2
      clear hb
      go_wp2_with fail
      refine (H56.out _ HL.out H).mono ?_
      rintro e w4 ⟨rfl, hb⟩
      have hS := hb
      have hB4 := hB3.call hS rfl
      replace H := H.below hS
      replace hr1 := hr1.below hS
      clear hS hB3
      clear hb
      by_cases hE0 : E = 0
      ·
          subst hE0
          obtain rfl : X = ⟨(Tx.text l).toArray⟩ := by rw [HX.out, if_pos rfl, printV_text]
          clear HX
          go_wp2_with fail
          refine (H78.out HE.out.symm _ H).mono ?_
          rintro e w5 ⟨rfl, hb⟩
          have hS := hb
          have hB5 := hB4.call hS rfl
          replace H := H.below hS
          replace hr1 := hr1.below hS
          clear hS hB4
          clear hb
          go_wp2_with fail
          refine (H79.out _ HS.out).mono ?_
          rintro e w6 ⟨A2, cap2, rfl, hr2, hb⟩
          have hS := hb
          have hB6 := hB5.call hS rfl
          replace H := H.below hS
          replace hr1 := hr1.below hS
          clear hS hB5
          clear hb
          go_wp2_with fail
          refine (H44.out _ A1 cap1 hr1).mono ?_
          rintro e w7 ⟨_, rfl, ⟨AO, CO, rfl, hro⟩, hb⟩
          have hS := hb
          have hB7 := hB6.call hS rfl
          replace H := H.below hS
          replace hr1 := hr1.below hS
          replace hr2 := hr2.below hS
          clear hS hB6
          clear hb
          go_wp2_with fail
          refine (H43.out _ AO CO A2 cap2 hro hr2).mono ?_
          rintro e w8 ⟨rfl, hb⟩
          have hS := hb
          have hB8 := hB7.call hS rfl
          replace H := H.below hS
          replace hr1 := hr1.below hS
          replace hr2 := hr2.below hS
          replace hro := hro.below hS
          clear hS hB7
          clear hb
          go_wp2_with fail
          refine (c15 _).mono ?_
          rintro e wz ⟨rfl, hz⟩
          go_wp2
          go_ret
          exact ⟨rfl, hB8.call hz rfl⟩
      ·
          obtain rfl : X = { data := #[] } := by rw [HX.out, if_neg hE0]; rfl
          have hEf : (E == 0) = false := by simpa using hE0
          clear hE0 HX
          go_wp2_with fail
          refine (H79.out _ HS.out).mono ?_
          rintro e w5 ⟨A2, cap2, rfl, hr2, hb⟩
          have hS := hb
          have hB5 := hB4.call hS rfl
          replace H := H.below hS
          replace hr1 := hr1.below hS
          clear hS hB4
          clear hb
          go_wp2_with fail
          refine (H44.out _ A1 cap1 hr1).mono ?_
          rintro e w6 ⟨_, rfl, ⟨AO, CO, rfl, hro⟩, hb⟩
          have hS := hb
          have hB6 := hB5.call hS rfl
          replace H := H.below hS
          replace hr1 := hr1.below hS
          replace hr2 := hr2.below hS
          clear hS hB5
          clear hb
          go_wp2_with fail
          refine (H43.out _ AO CO A2 cap2 hro hr2).mono ?_
          rintro e w7 ⟨rfl, hb⟩
          have hS := hb
          have hB7 := hB6.call hS rfl
          replace H := H.below hS
          replace hr1 := hr1.below hS
          replace hr2 := hr2.below hS
          replace hro := hro.below hS
          clear hS hB6
          clear hb
          go_wp2_with fail
          refine (c15 _).mono ?_
          rintro e wz ⟨rfl, hz⟩
          go_wp2
          go_ret
          exact ⟨rfl, hB7.call hz rfl⟩

end Go.Proofs.YtndhjkammoeikaaGreatDoor
namespace Go.Proofs.YtndhjkammoeikaaGreatDoor
open Go.RowKit
set_option maxHeartbeats 100000000
set_option maxRecDepth 20000

theorem text_size {l : List Ent} (h : Mo.entries l = 0) : (Tx.text l).length ≤ 2560 := by
  obtain ⟨h1, h2, _⟩ := Mo.entries_ok h
  have := acc_size h2 l.length
  unfold accT at this
  rw [List.take_length, mk_size] at this
  omega
theorem parseS_text {l : List Ent} (h : Mo.entries l = 0) : Tx.parseS (Tx.text l) = (l, 0, 0) := by
  have := text_size h
  unfold Tx.parseS
  rw [if_neg (by omega), Tx.parse_text h]
theorem parseS_cut {l : List Ent} (h : Mo.entries l = 0) (hn : l ≠ []) : Tx.parseS ((Tx.text l).take ((Tx.text l).length - 1)) = ([], (l.length : Int) - 1, 25) := by
  have := text_size h
  unfold Tx.parseS
  rw [if_neg (by rw [List.length_take]; omega), Tx.parse_cut h hn]
theorem parseS_zero {s : List UInt8} {y : List Ent} {i : Int} (h : Tx.parseS s = (y, i, 0)) : Mo.entries y = 0 ∧ Tx.text y = s ∧ ∀ e ∈ y, e.c.size ≤ 1000000 := by
  unfold Tx.parseS at h
  split at h
  · simp at h
  · rename_i hl
    obtain ⟨_, h2, _⟩ := Tx.parse_zero h
    exact ⟨h2, Tx.text_parse h, Mo.ents_size h2⟩
theorem text_ne {l : List Ent} (h : l ≠ []) : 1 ≤ (Tx.text l).length := by
  cases l with
  | nil => exact absurd rfl h
  | cons e l => unfold Tx.text; rw [List.flatMap_cons, List.length_append]; unfold Tx.line; simp; omega

theorem l13 (A : Option Addr) (cap : Nat) (l : List Ent) (s : ByteArray) (m : Int) (w : World) (hl0 : l.length ≤ 9223372036854775807) (hs0 : s.size ≤ 9223372036854775807) (H : RdL w 3 Ent.enc A l) (hm : w.cell? ⟨0, 0, none⟩ = some (.int .i64 m)) (hpow : Lib.TabIs Tryz.prog w powName .u64 Lib.pow10Tab) :
    Calls Tryz.prog 13 #[.slice A l.length cap, .string s] w fun en w' => en = .returned (.bool true) ∧ Below w.heap.size w w' := by
  have hm0 := cell_lt hm
  have HM : Hid (∀ W, Below w.heap.size w W → W.cell? ⟨0, 0, none⟩ = some (.int .i64 m)) := Lib.hid (fun W hW => (hW.cell (p := ⟨0, 0, none⟩) hm0).trans hm)
  have HIO : Hid (∀ l, Mo.entries l = 0 → ∀ W, Below w.heap.size w W → ∀ e ∈ l, ItoaOk W e.f ∧ ItoaOk W e.t) := Lib.hid (fun l hE W hW e he => ⟨(ents_itoa hpow hE e he).1.below hW, (ents_itoa hpow hE e he).2.below hW⟩)
  clear hm hpow hm0
  obtain ⟨N, hN⟩ : ∃ N, N = l.length := ⟨_, rfl⟩
  obtain ⟨E, hE⟩ : ∃ E, E = Mo.entries l := ⟨_, rfl⟩
  obtain ⟨X, hX⟩ : ∃ X : ByteArray, X = ⟨(Tx.text l).toArray⟩ := ⟨_, rfl⟩
  have h51 := fun w1 (H1 : RdS w1 3 A l.length (l.flatMap Ent.enc)) => c51w A cap l w1 hl0 H1
  have h53 := fun w1 (h : l.length ≤ 1000000) (H1 : RdS w1 3 A l.length (l.flatMap Ent.enc)) => c53o A cap l w1 h H1
  have h56 := fun w1 (h : l.length ≤ 1000000) (H1 : RdS w1 3 A l.length (l.flatMap Ent.enc)) => c56 A cap l w1 h H1
  have h76 := fun (h0 : Mo.entries l = 0) w1 A cap (h : l.length ≤ 1000000) hs hio (H1 : RdS w1 3 A l.length (l.flatMap Ent.enc)) => by
    have := c76 A cap l w1 h hs hio H1
    rw [h0, if_pos rfl, printV_text, ← hX] at this
    exact this
  have h77t := fun (h0 : Mo.entries l = 0) w1 hm => by
    have := c77 X m w1 (by rw [hX, mk_size]; have := text_size h0; omega) hm
    rw [show X.data.toList = Tx.text l by rw [hX], parseS_text h0] at this
    unfold PR RdL at this
    exact this
  have h77c := fun (h0 : Mo.entries l = 0) (hn : l ≠ []) w1 hm => by
    have hts := text_size h0
    have := c77 (X.extract 0 (X.size - 1)) m w1 (by rw [ByteArray.size_extract, hX, mk_size]; omega) hm
    rw [show (X.extract 0 (X.size - 1)).data.toList = (Tx.text l).take ((Tx.text l).length - 1) by rw [Go.Lib.extract_from_zero, hX, mk_size], parseS_cut h0 hn] at this
    unfold PR at this
    exact this
  have h80 := fun (h0 : Mo.entries l = 0) w1 => by
    have := c80_10 X w1 (by rw [hX, mk_size]; have := text_size h0; omega)
    rw [show X.data.toList = Tx.text l by rw [hX], Tx.text_lines h0] at this
    exact this
  have h44 := fun w1 A cap (h : l.length ≤ 1000000) (H1 : RdS w1 3 A l.length (l.flatMap Ent.enc)) => c44 A cap l w1 h H1
  have h43 := fun w1 A cap B capb (h : l.length ≤ 1000000) (H1 : RdS w1 3 A l.length (l.flatMap Ent.enc)) (H2 : RdS w1 3 B l.length (l.flatMap Ent.enc)) => c43 A B cap capb l w1 h H1 H2
  have hXe : l = [] → X = { data := #[] } := fun h => by rw [hX, h]; rfl
  have hXs : l ≠ [] → 1 ≤ X.size := fun h => by rw [hX, mk_size]; exact text_ne h
  have hxb0 : Mo.entries l = 0 → X.size ≤ 1000000 := fun h0 => by rw [hX, mk_size]; have := text_size h0; omega
  rw [← hE] at h56
  have hpl := parseS_len s.data.toList
  have h77s := fun w1 (h : s.size ≤ 1000000) hm => c77 s m w1 h hm
  have hz := fun y i (h : Tx.parseS s.data.toList = (y, i, 0)) => parseS_zero h
  obtain ⟨p, hp⟩ : ∃ p, p = Tx.parseS s.data.toList := ⟨_, rfl⟩
  rw [← hp] at h77s hpl hz
  obtain ⟨PL, PI, PE⟩ := p
  unfold PR RdL at h77s
  obtain ⟨NL, hNL⟩ : ∃ N, N = PL.length := ⟨_, rfl⟩
  have h76y := fun (h0 : PE = 0) w1 A cap hio (H1 : RdS w1 3 A PL.length (PL.flatMap Ent.enc)) => by
    obtain ⟨z1, z2, z3⟩ := hz PL PI (by rw [h0])
    have := c76 A cap PL w1 (Nat.le_trans hpl (by decide)) z3 hio H1
    rw [z1, if_pos rfl, printV_text, z2, mk_data] at this
    exact this
  have HZ : Hid (PE = 0 → Mo.entries PL = 0) := Lib.hid (fun h0 => (hz PL PI (by rw [h0])).1)
  simp only at h77s h77t h77c
  rw [← hNL] at h77s h76y
  replace H : RdS w 3 A l.length (l.flatMap Ent.enc) := H
  have hNe : N = 0 ↔ l = [] := by rw [hN]; exact List.length_eq_zero_iff
  rw [← hN] at H h51 h53 h56 h76 h77t h77c h80 h44 h43 ⊢
  have HN := Lib.hid hN
  have HE := Lib.hid hE
  have HNE := Lib.hid hNe
  have HXE := Lib.hid hXe
  have HXS := Lib.hid hXs
  have HXB0 := Lib.hid hxb0
  have H51 := Lib.hid h51
  have H53 := Lib.hid h53
  have H56 := Lib.hid h56
  have H76 := Lib.hid h76
  have H77t := Lib.hid h77t
  have H77s := Lib.hid h77s
  have H77c := Lib.hid h77c
  have H80 := Lib.hid h80
  have H44 := Lib.hid h44
  have H43 := Lib.hid h43
  have H76y := Lib.hid h76y
  clear hl0 hN hE hp hNL hpl hz hX hNe hXe hXs hxb0 h51 h53 h56 h76 h77t h77s h77c h80 h44 h43 h76y
  go_enter Tryz.func13, Tryz.ntmps13
  obtain ⟨w0, hw0⟩ : ∃ W, W = w := ⟨_, rfl⟩
  subst hw0
  have hB0 : Below w0.heap.size w0 w0 := Below.refl _ _
  go_wp2_with fail
  refine (H51.out _ H).mono ?_
  rintro e w' ⟨⟨b, rfl, hb1⟩, rfl⟩
  clear H51
  cases b
  case false =>
    go_wp2_with fail
    refine (c15 _).mono ?_
    rintro e wz ⟨rfl, hz⟩
    go_wp2
    go_ret
    exact ⟨rfl, hB0.call hz rfl⟩
  obtain ⟨hl, hsz⟩ := hb1 rfl
  clear hb1
  have HSZ : Hid (∀ e ∈ l, e.c.size ≤ 1000000) := Lib.hid (fun e he => by have := hsz e he; omega)
  have HL : Hid (N ≤ 1000000) := Lib.hid (by omega)
  clear hsz hl
  go_wp2_with fail
  refine (H56.out _ HL.out H).mono ?_
  rintro e w1 ⟨rfl, hb⟩
  have hS := hb
  have hB1 := hB0.call hS rfl
  replace H := H.below hS
  clear hS hB0
  clear hb
  by_cases hE0 : E = 0
  rotate_left
  ·
      have hEf : (E != 0) = true := by simpa using hE0
      clear hE0
      go_wp2_with fail
      refine (c15 _).mono ?_
      rintro e wz ⟨rfl, hz⟩
      go_wp2
      go_ret
      exact ⟨rfl, hB1.call hz rfl⟩
  subst hE0
  by_cases hs4 : s.size ≤ 400
  rotate_left
  ·
      have h4i : (400 : Int) < (s.size : Int) := by omega
      clear hs4
      go_wp2_with fail
      refine (c15 _).mono ?_
      rintro e wz ⟨rfl, hz⟩
      go_wp2
      go_ret
      exact ⟨rfl, hB1.call hz rfl⟩
  have h4i : (s.size : Int) ≤ 400 := by omega
  have HS : Hid (s.size ≤ 1000000) := Lib.hid (by omega)
  clear hs4
  go_wp2_with fail
  refine (H53.out _ HL.out H).mono ?_
  rintro e w2 ⟨x, rfl, ho, hb⟩
  have hS := hb
  have hB2 := hB1.call hS rfl
  replace H := H.below hS
  clear hS hB1
  clear hb
  obtain ⟨AE, CE, rfl, he, _, _, _⟩ := own_form ho
  clear ho
  go_wp2_with fail
  refine (H76.out HE.out.symm _ AE CE HL.out HSZ.out (fun h0 => HIO.out l h0 _ hB2) he).mono ?_
  rintro e w3 ⟨rfl, hb⟩
  have hS := hb
  have hB3 := hB2.call hS rfl
  replace H := H.below hS
  replace he := he.below hS
  clear hS hB2
  clear hb
  clear he
  go_wp2_with fail
  refine (H77t.out HE.out.symm _ (HM.out _ hB3)).mono ?_
  rintro e w4 ⟨A1, cap1, rfl, hr1, hb⟩
  have hS := hb
  have hB4 := hB3.call hS rfl
  replace H := H.below hS
  clear hS hB3
  clear hb
  go_wp2_with fail
  refine (H44.out _ A1 cap1 HL.out hr1).mono ?_
  rintro e w5 ⟨_, rfl, ⟨AO, CO, rfl, hro⟩, hb⟩
  have hS := hb
  have hB5 := hB4.call hS rfl
  replace H := H.below hS
  replace hr1 := hr1.below hS
  clear hS hB4
  clear hb
  clear hr1
  go_wp2_with fail
  refine (H43.out _ AO CO A cap HL.out hro H).mono ?_
  rintro e w6 ⟨rfl, hb⟩
  have hS := hb
  have hB6 := hB5.call hS rfl
  replace H := H.below hS
  replace hro := hro.below hS
  clear hS hB5
  clear hb
  clear hro
  go_wp2_with fail
  refine (H80.out HE.out.symm _).mono ?_
  rintro e w7 ⟨x, rfl, hsp, hb⟩
  have hS := hb
  have hB7 := hB6.call hS rfl
  replace H := H.below hS
  clear hS hB6
  clear hb
  obtain ⟨A4, cap4, rfl, _⟩ := Sl.of_own hsp
  have hnn : ((N : Int) + 1 != (N : Int) + 1) = false := by simp
  have hwn : IntKind.i64.wrap ((N : Int) + 1) = (N : Int) + 1 := by have := HL.out; rw [IntKind.wrap_i64]; omega
  clear hsp
  go_wp2_with fail
  refine (H77s.out _ HS.out (HM.out _ hB7)).mono ?_
  rintro e w8 ⟨A2, cap2, rfl, hr2, hb⟩
  have hS := hb
  have hB8 := hB7.call hS rfl
  replace H := H.below hS
  clear hS hB7
  clear hb
  by_cases hP0 : PE = 0
  ·
      subst hP0
      go_wp2_with fail
      refine (H76y.out (by trivial) _ A2 cap2 (fun h0 => HIO.out PL h0 _ hB8) hr2).mono ?_
      rintro e w9 ⟨rfl, hb⟩
      have hS := hb
      have hB9 := hB8.call hS rfl
      replace H := H.below hS
      replace hr2 := hr2.below hS
      clear hS hB8
      clear hb
      by_cases hN0 : N = 0
      ·
          obtain rfl : X = { data := #[] } := HXE.out (HNE.out.1 hN0)
          have hni : ((N : Int) == 0) = true := by simp; omega
          have hnb : (N == 0) = true := by simpa using hN0
          clear hN0
          go_wp2_with fail
          refine (c15 _).mono ?_
          rintro e wz ⟨rfl, hz⟩
          go_wp2
          go_ret
          exact ⟨rfl, hB9.call hz rfl⟩
      ·
          have hni : ((N : Int) == 0) = false := by simp; omega
          have hnb : (N == 0) = false := by simpa using hN0
          have hln : l ≠ [] := fun h => hN0 (HNE.out.2 h)
          have hx1 := HXS.out hln
          have H77C := Lib.hid (H77c.out HE.out.symm hln)
          have hxs : (X.size : Int) ≤ 1000000 := by have := HXB0.out HE.out.symm; omega
          have hwx : IntKind.i64.wrap ((X.size : Int) - 1) = (X.size : Int) - 1 := by rw [IntKind.wrap_i64]; omega
          have hx0 : (0 : Int) ≤ (X.size : Int) - 1 := by omega
          have hx2 : (X.size : Int) - 1 ≤ (X.size : Int) := by omega
          have hx3 : ((X.size : Int) - 1).toNat = X.size - 1 := by omega
          have hwn2 : IntKind.i64.wrap ((N : Int) - 1) = (N : Int) - 1 := by have := HL.out; rw [IntKind.wrap_i64]; omega
          clear hln hN0
          go_wp2_with fail
          refine (H77C.out _ (HM.out _ hB9)).mono ?_
          rintro e w10 ⟨A3, cap3, rfl, _, hb⟩
          have hS := hb
          have hB10 := hB9.call hS rfl
          replace H := H.below hS
          replace hr2 := hr2.below hS
          clear hS hB9
          clear hb
          go_wp2_with fail
          refine (c15 _).mono ?_
          rintro e wz ⟨rfl, hz⟩
          go_wp2
          go_ret
          exact ⟨rfl, hB10.call hz rfl⟩
  ·
      have hpf : (PE == 0) = false := by simpa using hP0
      clear hP0
      by_cases hN0 : N = 0
      ·
          obtain rfl : X = { data := #[] } := HXE.out (HNE.out.1 hN0)
          have hni : ((N : Int) == 0) = true := by simp; omega
          have hnb : (N == 0) = true := by simpa using hN0
          clear hN0
          go_wp2_with fail
          refine (c15 _).mono ?_
          rintro e wz ⟨rfl, hz⟩
          go_wp2
          go_ret
          exact ⟨rfl, hB8.call hz rfl⟩
      ·
          have hni : ((N : Int) == 0) = false := by simp; omega
          have hnb : (N == 0) = false := by simpa using hN0
          have hln : l ≠ [] := fun h => hN0 (HNE.out.2 h)
          have hx1 := HXS.out hln
          have H77C := Lib.hid (H77c.out HE.out.symm hln)
          have hxs : (X.size : Int) ≤ 1000000 := by have := HXB0.out HE.out.symm; omega
          have hwx : IntKind.i64.wrap ((X.size : Int) - 1) = (X.size : Int) - 1 := by rw [IntKind.wrap_i64]; omega
          have hx0 : (0 : Int) ≤ (X.size : Int) - 1 := by omega
          have hx2 : (X.size : Int) - 1 ≤ (X.size : Int) := by omega
          have hx3 : ((X.size : Int) - 1).toNat = X.size - 1 := by omega
          have hwn2 : IntKind.i64.wrap ((N : Int) - 1) = (N : Int) - 1 := by have := HL.out; rw [IntKind.wrap_i64]; omega
          clear hln hN0
          go_wp2_with fail
          refine (H77C.out _ (HM.out _ hB8)).mono ?_
          rintro e w9 ⟨A3, cap3, rfl, _, hb⟩
          have hS := hb
          have hB9 := hB8.call hS rfl
          replace H := H.below hS
          replace hr2 := hr2.below hS
          clear hS hB8
          clear hb
          go_wp2_with fail
          refine (c15 _).mono ?_
          rintro e wz ⟨rfl, hz⟩
          go_wp2
          go_ret
          exact ⟨rfl, hB9.call hz rfl⟩

end Go.Proofs.YtndhjkammoeikaaGreatDoor
/- From a law's contract to its row, where the world's shape and its tables are wanted. -/
namespace Go.Proofs.YtndhjkammoeikaaGreatDoor
open Go.ChangeShapes Go.WideShapes Go.ChangeAt Go.RowKit Go.MakeChecks
/-- the way from a contract at each shaped world to the row's runs -/
theorem handed_shaped {H : Type} {enc : TypeId × Value → H} {C : Checked} {os : Os} {f : FuncId} {fn : Func} {s : ChangeSpec} {X : World → Array Value → Prop}
    (hX : ∀ (w w' : World) (args : Array Value), w.heap = w'.heap → X w args → X w' args) (own : ownKnob C.prog.godebug = none) (started : os.Started) (noInit : C.prog.inits.idxOf? f = none) (hfn : C.prog.funcs[f]? = some fn)
    (witness : ∃ (w : World) (tape : Tape) (i : Input), w.os = os ∧ (w.forCall tape i).Shaped C.prog ∧ i.vars = [] ∧ Input.okWide C.prog (w.forCall tape i) .any w.heap.size f i ∧
      ((s.pre enc C.prog fn [] false (w.forCall tape i).memory i.args ∧ X (w.forCall tape i).memory i.args) ∧ sizedMet enc C.prog fn (OpenSpec.ofChange s) false (w.forCall tape i).memory i.args) ∧ ({} : Assume).holds C.prog (lone (Frame.enter C.prog f i.args .normal) [] (w.forCall tape i)))
    (contract : ∀ (W : World) (base : Nat) (args : Array Value) (ds gs : List (DataW H)) (before : List MemPlace), W.ShapedOpen C.prog →
      (∀ (j : Nat) t v, fn.params[j]? = some t → args[j]? = some v → Value.okWide C.prog W .any base t v) →
      DataW.Whole enc C.prog fn.params.toList s.vars false W args.toList ds gs before → X W args →
      Calls C.prog f args W fun e W' => ∃ v, e = .returned v ∧ s.post enc C.prog fn false true false false W args v W') :
    ReturnsInHanded {} C os f .any (fun w args => (s.pre enc C.prog fn [] false w args ∧ X w args) ∧ sizedMet enc C.prog fn (OpenSpec.ofChange s) false w args) (s.post enc C.prog fn false true false false) := by
  refine returnsInHanded_of_calls own started noInit witness fun w tape i _ hsh _ hok hpre _ => ?_
  obtain ⟨⟨⟨ds, gs, before, hw, _⟩, hx⟩, _⟩ := hpre
  obtain ⟨_, _, _, fn', hfn', _, _, _, _, hval⟩ := hok
  obtain rfl : fn' = fn := Option.some.inj (hfn'.symm.trans hfn)
  refine (contract (w.forCall tape i) w.heap.size i.args ds gs before hsh hval (DataW.Whole.of_heap (w := (w.forCall tape i).memory) (w' := w.forCall tape i) (by rfl) hw) (hX (w.forCall tape i).memory (w.forCall tape i) _ (by rfl) hx)).mono fun e W' ⟨v, he, hp⟩ => ?_
  subst he
  exact ChangeSpec.post_blind hp
def laidT : List (String × DataW Unit) := Rows.surveyTextsRow.laid
theorem laid_plain (w : World) (h : laidMetH Tryz.prog laidT w) : laidMet Tryz.prog laidT w := by
  rw [laidMetH_plain Tryz.prog laidT w (by kernel_rfl)] at h
  exact h
theorem pow_tab (w : World) (h : laidMetH Tryz.prog laidT w) : Lib.TabIs Tryz.prog w powName .u64 Lib.pow10Tab := by
  have h1 := laid_plain w h
  have h2 : laidMet Tryz.prog ((powName, Lib.tabData .u64 Lib.pow10Tab) :: laidT.drop 3) w := h1.tail.tail
  exact Lib.tabIs_of_head (g := 1) (t := 279) (e := 270) (n := 20) (by kernel_rfl) (by kernel_rfl) (by kernel_rfl) (by kernel_rfl) (by kernel_rfl) (by kernel_rfl) h2
theorem max_len (w : World) (h : w.ShapedOpen Tryz.prog) : ∃ m, w.cell? ⟨0, 0, none⟩ = some (.int .i64 m) :=
  Go.Proofs.cell_of_shapedOpen_int (zero := #[.int .i64 0]) (t := 3) h (of_decide_eq_true (by kernel_rfl)) (by kernel_rfl) rfl (by kernel_rfl) (by kernel_rfl) Tryz.underlying3
end Go.Proofs.YtndhjkammoeikaaGreatDoor
