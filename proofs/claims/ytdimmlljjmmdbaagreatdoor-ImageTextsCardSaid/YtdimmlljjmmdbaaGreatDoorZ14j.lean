/- A part of the proofs about chapter 7 (image): contracts of functions and plain laws (W83, W84, V54, VC, V96, PlanC, V97, V98, ShelfB, W88, W89, W90). -/
import Derived.Deep.AppendLies
import Derived.Laws.OwnMore
import Derived.Shelf.Strings.Builder1
import Derived.Shelf.Strings.Builder2
import Derived.Shelf.Strings.OnBuilder
import Derived.Shelf.Small.Strs
import Derived.Shelf.Small.Wraps
import Derived.Shelf.Strings.BuilderF
import Derived.Shelf.Strings.BuilderK
import Derived.Shelf.Utf8.RuneCount
import Derived.Shelf.Strings.Builder2Cap
import Derived.Shelf.Strconv.Itoa0
import Derived.Shelf.Strconv.Itoa1
import Derived.Shelf.LaysM
import Derived.Shelf.Strconv.Itoa2
import Derived.Shelf.Strconv.Itoa3
import Derived.Shelf.Strings.Search1
import Derived.Shelf.Strings.Search2
import Derived.Shelf.Strings.Search3
import Derived.Shelf.Strings.Count
import Derived.Shelf.Strings.Shaped
import Derived.Shelf.Strings.Prefix
import Derived.Shelf.Strings.Split
import Derived.Shelf.Strings.SplitShaped
import Derived.Shelf.Unicode.Decode
import Derived.Shelf.Strings.RuneCount
import Derived.Shelf.Strings.Explode
import Derived.Shelf.Bits.Mul64
import Derived.Shelf.Unicode.DecodeSlow
import Derived.Shelf.Unicode.DecodeAny
import Derived.Shelf.Slices.Equal
import Derived.Ground.Names2Prog
import Derived.Shelf.Slices.Clone
import Derived.Shelf.Slices.SearchI
import Derived.Shelf.Slices.Empties2
import Derived.Ground.SlgnProg
import Derived.Shelf.SlicesE.Clone
import Derived.Test.YtdimmlljjmmdbaaGreatDoorProg
import Derived.RangeFuncNested
import Derived.RangeFuncBound
import Derived.RangeFuncCalls
import Derived.RangeFuncLeaves
import Derived.Shelf.Abstract
import Derived.Shelf.RegionOpen
import Derived.OwnWalkIn
import Derived.TacticsInMore
import Derived.LoopNIn
import Derived.LoopIn
import Derived.Test.YtdimmlljjmmdbaaGreatDoorZ14b
import Derived.Test.YtdimmlljjmmdbaaGreatDoorZ14f
import Derived.Test.YtdimmlljjmmdbaaGreatDoorZ14g
import Derived.Test.YtdimmlljjmmdbaaGreatDoorZ14i
set_option linter.all false
namespace Go.Proofs.YtdimmlljjmmdbaaGreatDoor
open Go.RowKit
set_option maxHeartbeats 4000000
set_option maxRecDepth 20000
/-- the program's integer -/
theorem c182 (s : ByteArray) (w : World) (hs : s.size ≤ 1000000) : Calls Tryz.prog 182 #[.string s] w fun en w' => en = .returned (.tuple #[.int .i64 (Tx.iv s.data.toList), .bool (Tx.num s.data.toList)]) ∧ Below w.heap.size w w' := by
 have HL := Lib.hid (Tx.size_len s)
 go_enter Tryz.func182, Tryz.ntmps182
 go_wp2
 go_loopg [4] (s.size + 1) (fun g x wr => ∃ pos : Nat, pos + g = s.size + 1 ∧ pos ≤ s.size ∧ wr.heap[w.heap.size]? = some (.stringIter s pos) ∧ Below w.heap.size w wr ∧ x = .int .i64 (Tx.val (s.data.toList.take pos)) ∧ Hid ((s.data.toList.take pos).all Tx.isDig = true) ∧ Hid (pos = 0 ∨ s.size ≤ 9))
 case atStart => exact ⟨0, by omega, Nat.zero_le _, World.iter_heap w s 0, (Below.refl _ _).alloc (Nat.le_refl _) _, rfl, rfl, .inl rfl⟩
 case round =>
  obtain ⟨pos, hpg, hps, hit, hB, rfl, HA, HP⟩ := hrel
  by_cases hp : pos < s.size
  ·have hb := Tx.byte_at s pos hp
   by_cases ha : (s[pos]'hp).toNat < 128
   ·have hnx : ∀ ty, (Instr.next (.pointer (some ⟨w.heap.size, 0, none⟩)) true ty).run Tryz.prog wr = _ := fun ty => Lib.run_next_ascii_at wr w.heap.size s pos ty hit hp ha
    have hit2 := Lib.iterAt_heap wr w.heap.size s pos (pos + 1) hit
    have hB2 := Lib.below_iterAt hB (k := w.heap.size) (Nat.le_refl _) s (pos + 1)
    obtain ⟨W1, hW1⟩ : ∃ W1, W1 = wr.iterAt w.heap.size s (pos + 1) := ⟨_, rfl⟩
    obtain ⟨c, hc⟩ : ∃ c : Nat, c = (s[pos]'hp).toNat := ⟨_, rfl⟩
    rw [← hc] at hnx ha
    rw [← hW1] at hnx hit2 hB2
    have hdd : Tx.isDig (s[pos]'hp) = decide (48 ≤ c ∧ c ≤ 57) := by unfold Tx.isDig; rw [hc]
    have HB := Lib.hid hb
    have HC := Lib.hid hc
    clear hb hc hW1 hit hB
    rcases (show (0 ≤ c ∧ c ≤ 47) ∨ (48 ≤ c ∧ c ≤ 57) ∨ (58 ≤ c ∧ c ≤ 127) by omega) with h | h | h
    ·have f0 : ((c : Int) < 48) := by omega
     have f1 : ¬ (57 < (c : Int)) := by omega
     have hd : Tx.isDig (s[pos]'hp) = false := by rw [hdd]; simp; omega
     have HN : Hid (Tx.iv s.data.toList = 0 ∧ Tx.num s.data.toList = false) := Lib.hid ⟨Tx.iv_dig HB.out hd, Tx.num_dig HB.out hd⟩
     clear h hd hdd
     go_wp2
     go_ret2
     rw [HN.out.1, HN.out.2]
     exact ⟨rfl, hB2⟩
    ·have f0 : ¬ ((c : Int) < 48) := by omega
     have f1 : ¬ (57 < (c : Int)) := by omega
     have hd : Tx.isDig (s[pos]'hp) = true := by rw [hdd]; simp; omega
     by_cases h9 : 9 < s.size
     ·have h9' : (9 : Int) < (s.size : Int) := by omega
      have HN : Hid (Tx.iv s.data.toList = 0 ∧ Tx.num s.data.toList = false) := Lib.hid ⟨Tx.iv_long (by rw [HL.out]; omega), Tx.num_long (by rw [HL.out]; omega)⟩
      clear h hd hdd
      go_wp2
      go_ret2
      rw [HN.out.1, HN.out.2]
      exact ⟨rfl, hB2⟩
     ·have h9' : (s.size : Int) ≤ 9 := by omega
      have hvb := Tx.val_take_bd (l := s.data.toList) (k := pos) (by omega) HA.out
      have hv2 := Lib.hid (Tx.val_take HB.out)
      have HA2 := Lib.hid (Tx.all_take HB.out HA.out hd)
      have HP2 : Hid (pos + 1 = 0 ∨ s.size ≤ 9) := Lib.hid (.inr (by omega))
      obtain ⟨V, hV⟩ : ∃ V, V = Tx.val (s.data.toList.take pos) := ⟨_, rfl⟩
      rw [← hV] at hv2 hvb ⊢
      have hle1 : (48 : Int) ≤ (c : Int) := by omega
      have hle2 : (c : Int) ≤ 57 := by omega
      clear hd hdd hV HA HP h h9
      go_wp2
      go_roundg (s.size + 1 - (pos + 1))
      case measure => omega
      case rel => exact ⟨pos + 1, by omega, by omega, hit2, hB2, by rw [hv2.out, ← HC.out]; simp; omega, HA2, HP2⟩
    ·have f0 : ¬ ((c : Int) < 48) := by omega
     have f1 : (57 < (c : Int)) := by omega
     have hd : Tx.isDig (s[pos]'hp) = false := by rw [hdd]; simp; omega
     have HN : Hid (Tx.iv s.data.toList = 0 ∧ Tx.num s.data.toList = false) := Lib.hid ⟨Tx.iv_dig HB.out hd, Tx.num_dig HB.out hd⟩
     clear h hd hdd
     go_wp2
     go_ret2
     rw [HN.out.1, HN.out.2]
     exact ⟨rfl, hB2⟩
   ·have hnx : ∀ ty, (Instr.next (.pointer (some ⟨w.heap.size, 0, none⟩)) true ty).run Tryz.prog wr = _ := fun ty => Lib.run_next_any_at wr w.heap.size s pos ty hit hp
    have hB2 := Lib.below_iterAt hB (k := w.heap.size) (Nat.le_refl _) s (pos + (Utf8.decode s pos).2)
    have hdh := (decode_high s pos hp (by omega)).1
    have hd : Tx.isDig (s[pos]'hp) = false := by unfold Tx.isDig; simp; omega
    have HN : Hid (Tx.iv s.data.toList = 0 ∧ Tx.num s.data.toList = false) := Lib.hid ⟨Tx.iv_dig hb hd, Tx.num_dig hb hd⟩
    obtain ⟨W1, hW1⟩ : ∃ W1, W1 = wr.iterAt w.heap.size s (pos + (Utf8.decode s pos).2) := ⟨_, rfl⟩
    obtain ⟨c, hc⟩ : ∃ c : Nat, c = (Utf8.decode s pos).1 := ⟨_, rfl⟩
    rw [← hc] at hnx hdh
    rw [← hW1] at hnx hB2
    have f0 : ¬ ((c : Int) < 48) := by omega
    have f1 : 57 < (c : Int) := by omega
    clear hb hc hW1 hit hB hd
    go_wp2
    go_ret2
    rw [HN.out.1, HN.out.2]
    exact ⟨rfl, hB2⟩
  ·have hnx : ∀ ty, (Instr.next (.pointer (some ⟨w.heap.size, 0, none⟩)) true ty).run Tryz.prog wr = _ := fun ty => Lib.run_next_end_at wr w.heap.size s pos ty hit hp
   obtain rfl : pos = s.size := by omega
   have e := List.take_of_length_le (Nat.le_of_eq HL.out)
   rw [e] at HA ⊢
   clear e
   by_cases h0 : s.size = 0
   ·have hse : s = ByteArray.empty := by
     cases s with | mk d =>
     have : d.size = 0 := h0
     have hd : d = #[] := Array.eq_empty_of_size_eq_zero this
     subst hd; rfl
    have hE : s.toList.isEmpty = true := by rw [hse, ByteArray.toList_eq]; rfl
    have HN : Hid (Tx.iv s.data.toList = Tx.val s.data.toList ∧ Tx.num s.data.toList = false) := Lib.hid ⟨by rw [hse]; rfl, by rw [hse]; rfl⟩
    clear hse hit h0
    go_wp2
    go_quiet (fail)
    go_wp2
    go_ret2
    rw [HN.out.1, HN.out.2]
    exact ⟨rfl, below_drewN hB _⟩
   ·have hpos : 0 < s.size := by omega
    have hE : s.toList.isEmpty = false := by
     rw [ByteArray.toList_eq]
     have : s.data.toList.length ≠ 0 := by simpa using h0
     cases hh : s.data.toList with
     | nil => rw [hh] at this; exact absurd rfl this
     | cons _ _ => rfl
    have h9 : s.size ≤ 9 := by have := HP.out; omega
    have hh := Tx.head_at s hpos
    have hne : s.data.toList ≠ [] := by intro e; rw [e] at hh; simp at hh
    have hiv := Tx.iv_mk HA.out (by rw [HL.out]; exact h9)
    by_cases h1 : s.size = 1
    ·have HN : Hid (Tx.iv s.data.toList = Tx.val s.data.toList ∧ Tx.num s.data.toList = true) := Lib.hid ⟨hiv, Tx.num_mk HA.out (by rw [HL.out]; exact h9) hne (.inl (by rw [HL.out]; exact h1))⟩
     have h1i : ((s.size : Int) == 1) = true := by simp; omega
     have h1n : (s.size == 1) = true := by simpa using h1
     clear hit h0 h1 hiv hne hh HP h9
     go_wp2
     go_quiet (fail)
     go_wp2
     go_ret2
     rw [HN.out.1, HN.out.2]
     exact ⟨rfl, below_drewN hB _⟩
    ·have h1i : ((s.size : Int) == 1) = false := by simp; omega
     have h1n : (s.size == 1) = false := by simpa using h1
     have hpi : (0 : Int) < (s.size : Int) := by omega
     by_cases hz : s[0]'hpos = 48
     ·have HN : Hid (Tx.iv s.data.toList = Tx.val s.data.toList ∧ Tx.num s.data.toList = false) := Lib.hid ⟨hiv, Tx.num_zero (by rw [HL.out]; omega) (by rw [hh, hz])⟩
      have hc : (((s[0]'hpos).toNat : Int) != 48) = false := by rw [hz]; rfl
      have hc2 : ((s[0]'hpos).toNat != 48) = false := by rw [hz]; rfl
      clear hit h0 h1 hiv hne hh HP h9 hz
      go_wp2
      go_quiet (fail)
      go_wp2
      go_ret2
      rw [HN.out.1, HN.out.2]
      exact ⟨rfl, below_drewN hB _⟩
     ·have HN : Hid (Tx.iv s.data.toList = Tx.val s.data.toList ∧ Tx.num s.data.toList = true) := Lib.hid ⟨hiv, Tx.num_mk HA.out (by rw [HL.out]; exact h9) hne (.inr (by rw [hh]; intro e; exact hz (by simpa using e)))⟩
      have hz1 : (s[0]'hpos).toNat ≠ 48 := fun e => hz (UInt8.toNat_inj.1 (by rw [e]; rfl))
      have hc : (((s[0]'hpos).toNat : Int) != 48) = true := by simp; omega
      have hc2 : ((s[0]'hpos).toNat != 48) = true := by simpa using hz1
      clear hit h0 h1 hiv hne hh HP h9 hz hz1
      go_wp2
      go_quiet (fail)
      go_wp2
      go_ret2
      rw [HN.out.1, HN.out.2]
      exact ⟨rfl, below_drewN hB _⟩
end Go.Proofs.YtdimmlljjmmdbaaGreatDoor
namespace Go.Proofs.YtdimmlljjmmdbaaGreatDoor
open Go.RowKit
set_option maxHeartbeats 4000000
set_option maxRecDepth 20000
theorem mk_size (l : List UInt8) : (⟨l.toArray⟩ : ByteArray).size = l.length := by simp [ByteArray.size]
theorem mk_data (s : ByteArray) : (⟨s.data.toList.toArray⟩ : ByteArray) = s := by cases s; simp
namespace Tx
def bs (l : List UInt8) : ByteArray := ⟨l.toArray⟩
theorem bs_data (s : ByteArray) : bs s.data.toList = s := by unfold bs; exact mk_data s
theorem bs_toList (l : List UInt8) : (bs l).data.toList = l := rfl
theorem bs_size (l : List UInt8) : (bs l).size = l.length := mk_size l
theorem bs_app (l : List UInt8) (s : ByteArray) (k : Nat) (h : k < s.size) : bs l ++ s.extract k (k + 1) = bs (l ++ [s[k]'h]) := by
 apply ByteArray.ext
 apply Array.ext'
 have hk : k < s.data.toList.length := by rw [size_len]; exact h
 have e : (s.data.toList.drop k).take 1 = [s[k]'h] := by
  rw [List.drop_eq_getElem_cons hk]
  simp
  rfl
 have e2 : (s.extract k (k + 1)).data.toList = [s[k]'h] := by
  rw [Go.Lib.extract_data, show k + 1 - k = 1 by omega, e]
 show (bs l ++ s.extract k (k + 1)).data.toList = l ++ [s[k]'h]
 rw [ByteArray.data_append, Array.toList_append, e2]
 rfl
def cells (ls : List (List UInt8)) : List Value := ls.map fun l => .string (bs l)
theorem cells_app (a b : List (List UInt8)) : cells (a ++ b) = cells a ++ cells b := by simp [cells]
theorem cells_last (a : List (List UInt8)) (x : List UInt8) : (cells (a ++ [x]))[a.length]? = some (.string (bs x)) := by simp [cells]
theorem cells_set (a : List (List UInt8)) (x y : List UInt8) : (cells (a ++ [x])).set a.length (.string (bs y)) = cells (a ++ [y]) := by simp [cells]
theorem split_exists (c : UInt8) (l : List UInt8) : ∃ pre last, split c l = pre ++ [last] := ⟨_, _, (List.dropLast_concat_getLast (split_ne c l)).symm⟩
theorem split_len_le (c : UInt8) (l : List UInt8) : (split c l).length ≤ l.length + 1 := by
 rw [split_len]
 have := List.count_le_length (a := c) (l := l)
 omega
theorem piece_le {c : UInt8} : ∀ {l : List UInt8}, ∀ p ∈ split c l, p.length ≤ l.length
 | [], p, h => by simp [split] at h; subst h; simp
 | x :: xs, p, h => by
  unfold split at h
  by_cases hx : (x == c) = true
  ·rw [if_pos hx] at h
   rcases List.mem_cons.1 h with rfl | h
   ·simp
   ·have := piece_le p h; simp; omega
  ·rw [if_neg hx] at h
   cases hs : split c xs with
   | nil => exact absurd hs (split_ne c xs)
   | cons z zs =>
    rw [hs] at h
    rcases List.mem_cons.1 h with rfl | h
    ·have := piece_le (l := xs) z (by rw [hs]; simp); simp; omega
    ·have := piece_le (l := xs) p (by rw [hs]; simp [h]); simp; omega
end Tx
/-- the reference's Split -/
theorem c85 (s : ByteArray) (c : UInt8) (w : World) (hs : s.size ≤ 1000000) :
  Calls Tryz.prog 85 #[.string s, .int .u8 (c.toNat : Int)] w fun en w' => ∃ x, en = .returned x ∧ w'.ownsRow w.heap.size 9 1 x (Tx.split c s.data.toList).length (Tx.cells (Tx.split c s.data.toList)) ∧ Below w.heap.size w w' := by
 obtain ⟨i0, hi, hz0, hz1, hz2⟩ := info_parts info9
 have HL := Lib.hid (Tx.size_len s)
 obtain ⟨ci, hci⟩ : ∃ ci : Int, ci = (c.toNat : Int) := ⟨_, rfl⟩
 rw [← hci]
 have HCI := Lib.hid hci
 clear hci
 go_enter Tryz.func85, Tryz.ntmps85
 go_wp2
 go_loopw [5, 6] (fun x i wr => ∃ k : Nat, k ≤ s.size ∧ i = .int .i64 k ∧ wr.ownsRow w.heap.size 9 1 x (Tx.split c (s.data.toList.take k)).length (Tx.cells (Tx.split c (s.data.toList.take k))) ∧ Below w.heap.size w wr) (fun _ i _ => s.size - (intOf i).toNat)
 case atStart =>
  exact ⟨0, Nat.zero_le _, rfl, ⟨rfl, .inr ⟨_, 1, _, rfl, Nat.le_refl _, heap_alloc_new _ _, Nat.le_refl _, by unfold maxLen; omega, rfl, rfl⟩⟩, (Below.refl _ _).alloc (Nat.le_refl _) _⟩
 case round =>
  obtain ⟨k, hk, rfl, hown, hB⟩ := hrel
  obtain ⟨pre, last, hsp⟩ := Tx.split_exists c (s.data.toList.take k)
  by_cases hlt : k < s.size
  ·have hb := Tx.byte_at s k hlt
   have hnx := Tx.split_snoc c (s.data.toList.take k) (s[k]'hlt) pre last hsp
   rw [← Tx.take_at hb] at hnx
   have hle := Tx.split_len_le c (s.data.toList.take k)
   have hle2 : (s.data.toList.take k).length ≤ k := List.length_take_le _ _
   have hpl := Tx.piece_le (c := c) (l := s.data.toList.take k) last (by rw [hsp]; simp)
   rw [hsp] at hown hle
   obtain ⟨m, hm⟩ : ∃ m, m = pre.length := ⟨_, rfl⟩
   have hlm : (pre ++ [last]).length = m + 1 := by simp [hm]
   rw [hlm] at hown hle
   have hsz : (Tx.bs last).size ≤ k := by rw [Tx.bs_size]; omega
   have hml : m + 1 ≤ 1000001 := by omega
   clear hle hle2 hpl
   by_cases hc : ((s[k]'hlt) == c) = true
   ·rw [if_pos hc] at hnx
    have HNX := Lib.hid hnx
    have HM := Lib.hid hm
    have hce : (((s[k]'hlt).toNat : Int) == ci) = true := by rw [HCI.out]; simp at hc; simp [hc]
    clear hnx hm hlm hc hb hsp
    have hsz2 := hB.size
    go_wp2_with (at_builtin; refine wpList_append_own _ rfl _ _ 140 rfl w.heap.size 9 i0 (.string ByteArray.empty) 1 16 Tryz.underlying140 hi hz0 hz1 hz2 rfl (by decide) _ _ _ rfl (hown.alloc _) ⟨wr.heap.size, 0, none⟩ 1 1 [.string { data := #[] }] rfl rfl (news_one _ _ rfl) (by intro x hx; simp at hx; first | (subst hx; rfl) | (rcases hx with rfl | rfl <;> rfl) | (rcases hx with rfl | rfl | rfl <;> rfl)) (by unfold maxLen; omega) (by omega) (by simp; omega) ?_)
    intro x' w3 hown3 hg3 _
    have hB3 : Below w.heap.size w w3 := (hB.alloc hB.size _).grown hg3 (by have := hB.size; simp; omega) (fun g hg => (hown.lt g hg).1)
    have HO := Lib.hid hown3
    clear hown3 hg3 hown
    go_wp2
    go_roundw
    case rel => exact ⟨k + 1, by omega, by go_num, by rw [HNX.out, Tx.cells_app, List.length_append, List.length_append, List.length_singleton, List.length_singleton, ← HM.out]; exact HO.out, hB3⟩
    case measure => simp [intOf]; omega
   ·rw [if_neg hc] at hnx
    have hce : (((s[k]'hlt).toNat : Int) == ci) = false := by
     rw [HCI.out]
     simp at hc ⊢
     intro e; exact hc (UInt8.toNat_inj.1 (by omega))
    obtain ⟨g, cap', rfl, hgB, hgl⟩ := hown.form (by omega)
    have hc1 := hown.cellAt m (by omega)
    rw [hm, Tx.cells_last, ← hm] at hc1
    have HNX := Lib.hid hnx
    have HM := Lib.hid hm
    have hap := Tx.bs_app last s k hlt
    obtain ⟨L0, hL0⟩ : ∃ L, L = Tx.bs last := ⟨_, rfl⟩
    obtain ⟨L1, hL1⟩ : ∃ L, L = Tx.bs (last ++ [s[k]'hlt]) := ⟨_, rfl⟩
    rw [← hL0] at hap hc1 hsz
    rw [← hL1] at hap
    have HL1 := Lib.hid hL1
    have hes : (s.extract k (k + 1)).size = 1 := by rw [ByteArray.size_extract]; omega
    have hw1 : IntKind.i64.wrap ((k : Int) + 1) = (k : Int) + 1 := by rw [IntKind.wrap_i64]; omega
    have hw2 : IntKind.i64.wrap ((m : Int) + 1 - 1) = (m : Int) := by rw [IntKind.wrap_i64]; omega
    have hk1 : (k : Int) + 1 ≤ (s.size : Int) := by omega
    have hx1 : ((k : Int) + 1).toNat = k + 1 := by omega
    clear hnx hm hlm hc hb hsp hL0 hL1
    go_wp2
    refine wp_region_splitG 17 (by kernel_rfl) (by kernel_rfl) ?_
    simp only [List.take_succ_cons, List.take_zero, List.drop_succ_cons, List.drop_zero]
    repeat (go_big_quiet_step ((first | ((rw [if_neg (by omega)]; exact ⟨rfl, rfl⟩)))))
    refine wpQuiet_nil (gw_out ?_)
    intro w1 hb1
    have hown1 := own_below hown hb1
    have hB1 := hB.call hb1 rfl
    have hfz := hown1.frozenAt m
    have hc1' := hown1.cellAt m (by omega)
    rw [HM.out, Tx.cells_last, ← HM.out] at hc1'
    have hst := hown1.stored m (.string L1)
    rw [HL1.out, HM.out, Tx.cells_set, ← HM.out, ← HL1.out] at hst
    have HO := Lib.hid hst.1
    have hB3 := hB1.setCell (p := ⟨g, m, none⟩) hgB (.string L1)
    clear hst hown hb1 hc1 hown1
    go_wp2
    go_roundw
    case rel => exact ⟨k + 1, by omega, by go_num, by rw [HNX.out, List.length_append, List.length_singleton, ← HM.out]; exact HO.out, hB3⟩
    case measure => simp [intOf]; omega
  ·obtain rfl : k = s.size := by omega
   rw [List.take_of_length_le (Nat.le_of_eq HL.out)] at hown
   have HO := Lib.hid hown
   clear hown hsp
   go_wp2
   go_ret
   exact ⟨_, rfl, HO.out, hB⟩
end Go.Proofs.YtdimmlljjmmdbaaGreatDoor
namespace Go.Proofs.YtdimmlljjmmdbaaGreatDoor
open Go.RowKit Go.Shelf
set_option maxHeartbeats 8000000
set_option maxRecDepth 100000
theorem c20 (c r : Int) (A : Option Addr) (n cap : Nat) (l : List Int) (w : World) (hl : n ≤ 1000000) (H : RdI w A n l) :
  Calls Tryz.prog 20 #[.agg #[.int .i64 c, .int .i64 r, .slice A n cap]] w fun en w' => ∃ B cb, en = .returned (.agg #[.int .i64 c, .int .i64 r, .slice B n cb]) ∧ RdI w' B n l ∧ n ≤ cb ∧ cb ≤ 9223372036854775807 ∧ Below w.heap.size w w' := by
 obtain ⟨w0, hW⟩ : ∃ W, W = (w.alloc (Obj.cells #[.int .i64 c, .int .i64 r, .slice A n cap] 24)).alloc (Obj.cells #[.int .i64 0, .int .i64 0, .slice none 0 0] 35) := ⟨_, rfl⟩
 have hT0 : w0.heap[w.heap.size]? = some (.cells #[.int .i64 c, .int .i64 r, .slice A n cap] 24 (0, 0)) := by rw [hW]; exact heap_old (by simp) (heap_new rfl)
 have hT1 : w0.heap[w.heap.size + 1]? = some (.cells #[.int .i64 0, .int .i64 0, .slice none 0 0] 35 (0, 0)) := by rw [hW]; exact heap_new (by simp)
 have hB0 : Below w.heap.size w w0 := by rw [hW]; exact below2 _ _ _
 have H0 := H.below hB0
 have hsz := hB0.size
 clear H
 go_enter Tryz.func20, Tryz.ntmps20
 go_wp2_with fail
 rw [← hW]
 clear hW
 have q0 : w0.cell? ⟨w.heap.size, 0, none⟩ = some (.int .i64 c) := cell_at hT0 rfl
 have q1 : w0.cell? ⟨w.heap.size, 1, none⟩ = some (.int .i64 r) := cell_at hT0 rfl
 have q2 : w0.cell? ⟨w.heap.size, 2, none⟩ = some (.slice A n cap) := cell_at hT0 rfl
 have z0 := cell_lt q0
 refine wp_region_planL [(0, true), (1, true), (2, true), (3, true), (4, true), (5, true), (6, false), (7, true)] w0.heap.size 8 (by kernel_rfl) (by kernel_rfl) (Nat.le_refl _) (fun _ _ d _ _ h => by cases d <;> exact h) ?_
 have hC : Below w0.heap.size w0 w0 := Below.refl _ _
 repeat (first | (refine wpPlanLA_skip _ rfl (by rfl) ?_; simp only [Act.put, List.setIfInBounds_toArray, List.set_cons_zero, List.set_cons_succ]) | (refine wpPlanLA_soft _ ?_ rfl (by rfl) ?_ ?_; rotate_left; (intro wq hq hcq; go_simp; first | exact rfl | exact ⟨rfl, rfl⟩); simp only [Act.put, List.setIfInBounds_toArray, List.set_cons_zero, List.set_cons_succ]))
 refine wpPlanLA_hard _ rfl (by rfl) (fun w1 hS K hK => ?_)
 replace hC := hC.call hS rfl
 clear hS
 go_simp
 refine (c22 A n cap l _ hl (H0.below hC)).mono ?_
 rintro e w2 ⟨v2, rfl, ho, hb⟩
 have hLO : w.heap.size + 1 < w1.heap.size := Nat.lt_of_lt_of_le (Array.getElem?_eq_some_iff.1 hT1).1 hC.size
 obtain ⟨B, cb, rfl⟩ := own_slice ho
 replace hC := hC.call hb rfl
 clear hb
 refine hK _ _ hC ?_
 clear hK K
 try simp only [Act.put, List.setIfInBounds_toArray, List.set_cons_zero, List.set_cons_succ]
 repeat (first | (refine wpPlanLA_skip _ rfl (by rfl) ?_; simp only [Act.put, List.setIfInBounds_toArray, List.set_cons_zero, List.set_cons_succ]) | (refine wpPlanLA_soft _ ?_ rfl (by rfl) ?_ ?_; rotate_left; (intro wq hq hcq; go_simp; first | exact rfl | exact ⟨rfl, rfl⟩); simp only [Act.put, List.setIfInBounds_toArray, List.set_cons_zero, List.set_cons_succ]))
 refine wpPlanLA_last _ rfl (by rfl) (fun w3 hS K hK => ?_)
 replace hC := hC.call hS rfl
 replace ho := own_below ho hS
 clear hS
 have hT3 := blkb hT1 hC
 refine wp_store_blk 35 _ _ rfl (w.heap.size + 1) _ rfl rfl hT3 ?s1 ?s2 ?s3 ?_
 case s1 => rfl
 case s2 => kernel_rfl
 case s3 => simp [Value.oneCell']
 intro w4 hT4 hg4 hs4
 have o4 := Own.kept ho hg4 hLO
 have hB4 := (hB0.call hC rfl).grown hg4 (hB0.call hC rfl).size (fun j hj => by cases hj; omega)
 refine hK _ _ (fun w5 hS => ?_)
 clear hK K
 replace hT4 := blkb hT4 hS
 have hB5 := hB4.call hS rfl
 obtain ⟨B', cb', e, hr, hcb, hcm, _⟩ := own_form (own_below o4 hS)
 cases e
 have HO : Hid (RdI w5 B n l ∧ n ≤ cb ∧ cb ≤ 9223372036854775807 ∧ Below w.heap.size w w5) := Lib.hid ⟨hr, hcb, hcm, hB5⟩
 clear hS hr hcb hcm hB5 hB4 hs4 o4 hg4 hT3 hC ho
 have c0 := cell_at (i := 0) hT4 rfl
 have c1 := cell_at (i := 1) hT4 rfl
 have c2 := cell_at (i := 2) hT4 rfl
 go_wp2
 obtain ⟨h1, h2, h3, h4⟩ := HO.out
 exact bodyPost_ret (results_blk rfl rfl hT4 _ Tryz.underlying35 rfl (by kernel_rfl)) rfl ⟨B, cb, rfl, h1, h2, h3, h4⟩
theorem c71 (c r : Int) (A : Option Addr) (n cap : Nat) (l : List Int) (w : World) (hl : n ≤ 1000000) (H : RdI w A n l) :
  Calls Tryz.prog 71 #[.agg #[.int .i64 c, .int .i64 r, .slice A n cap]] w fun en w' => ∃ B cb, en = .returned (.agg #[.int .i64 c, .int .i64 r, .slice B n cb]) ∧ RdI w' B n l ∧ n ≤ cb ∧ cb ≤ 9223372036854775807 ∧ Below w.heap.size w w' := by
 obtain ⟨w0, hW⟩ : ∃ W, W = (w.alloc (Obj.cells #[.int .i64 c, .int .i64 r, .slice A n cap] 35)).alloc (Obj.cells #[.int .i64 0, .int .i64 0, .slice none 0 0] 24) := ⟨_, rfl⟩
 have hT0 : w0.heap[w.heap.size]? = some (.cells #[.int .i64 c, .int .i64 r, .slice A n cap] 35 (0, 0)) := by rw [hW]; exact heap_old (by simp) (heap_new rfl)
 have hT1 : w0.heap[w.heap.size + 1]? = some (.cells #[.int .i64 0, .int .i64 0, .slice none 0 0] 24 (0, 0)) := by rw [hW]; exact heap_new (by simp)
 have hB0 : Below w.heap.size w w0 := by rw [hW]; exact below2 _ _ _
 have H0 := H.below hB0
 have hsz := hB0.size
 clear H
 go_enter Tryz.func71, Tryz.ntmps71
 go_wp2_with fail
 rw [← hW]
 clear hW
 have q0 : w0.cell? ⟨w.heap.size, 0, none⟩ = some (.int .i64 c) := cell_at hT0 rfl
 have q1 : w0.cell? ⟨w.heap.size, 1, none⟩ = some (.int .i64 r) := cell_at hT0 rfl
 have q2 : w0.cell? ⟨w.heap.size, 2, none⟩ = some (.slice A n cap) := cell_at hT0 rfl
 have z0 := cell_lt q0
 refine wp_region_planL [(0, true), (1, true), (2, true), (3, true), (4, true), (5, true), (6, false), (7, true)] w0.heap.size 8 (by kernel_rfl) (by kernel_rfl) (Nat.le_refl _) (fun _ _ d _ _ h => by cases d <;> exact h) ?_
 have hC : Below w0.heap.size w0 w0 := Below.refl _ _
 repeat (first | (refine wpPlanLA_skip _ rfl (by rfl) ?_; simp only [Act.put, List.setIfInBounds_toArray, List.set_cons_zero, List.set_cons_succ]) | (refine wpPlanLA_soft _ ?_ rfl (by rfl) ?_ ?_; rotate_left; (intro wq hq hcq; go_simp; first | exact rfl | exact ⟨rfl, rfl⟩); simp only [Act.put, List.setIfInBounds_toArray, List.set_cons_zero, List.set_cons_succ]))
 refine wpPlanLA_hard _ rfl (by rfl) (fun w1 hS K hK => ?_)
 replace hC := hC.call hS rfl
 clear hS
 go_simp
 refine (c22 A n cap l _ hl (H0.below hC)).mono ?_
 rintro e w2 ⟨v2, rfl, ho, hb⟩
 have hLO : w.heap.size + 1 < w1.heap.size := Nat.lt_of_lt_of_le (Array.getElem?_eq_some_iff.1 hT1).1 hC.size
 obtain ⟨B, cb, rfl⟩ := own_slice ho
 replace hC := hC.call hb rfl
 clear hb
 refine hK _ _ hC ?_
 clear hK K
 try simp only [Act.put, List.setIfInBounds_toArray, List.set_cons_zero, List.set_cons_succ]
 repeat (first | (refine wpPlanLA_skip _ rfl (by rfl) ?_; simp only [Act.put, List.setIfInBounds_toArray, List.set_cons_zero, List.set_cons_succ]) | (refine wpPlanLA_soft _ ?_ rfl (by rfl) ?_ ?_; rotate_left; (intro wq hq hcq; go_simp; first | exact rfl | exact ⟨rfl, rfl⟩); simp only [Act.put, List.setIfInBounds_toArray, List.set_cons_zero, List.set_cons_succ]))
 refine wpPlanLA_last _ rfl (by rfl) (fun w3 hS K hK => ?_)
 replace hC := hC.call hS rfl
 replace ho := own_below ho hS
 clear hS
 have hT3 := blkb hT1 hC
 refine wp_store_blk 24 _ _ rfl (w.heap.size + 1) _ rfl rfl hT3 ?s1 ?s2 ?s3 ?_
 case s1 => rfl
 case s2 => kernel_rfl
 case s3 => simp [Value.oneCell']
 intro w4 hT4 hg4 hs4
 have o4 := Own.kept ho hg4 hLO
 have hB4 := (hB0.call hC rfl).grown hg4 (hB0.call hC rfl).size (fun j hj => by cases hj; omega)
 refine hK _ _ (fun w5 hS => ?_)
 clear hK K
 replace hT4 := blkb hT4 hS
 have hB5 := hB4.call hS rfl
 obtain ⟨B', cb', e, hr, hcb, hcm, _⟩ := own_form (own_below o4 hS)
 cases e
 have HO : Hid (RdI w5 B n l ∧ n ≤ cb ∧ cb ≤ 9223372036854775807 ∧ Below w.heap.size w w5) := Lib.hid ⟨hr, hcb, hcm, hB5⟩
 clear hS hr hcb hcm hB5 hB4 hs4 o4 hg4 hT3 hC ho
 have c0 := cell_at (i := 0) hT4 rfl
 have c1 := cell_at (i := 1) hT4 rfl
 have c2 := cell_at (i := 2) hT4 rfl
 go_wp2
 obtain ⟨h1, h2, h3, h4⟩ := HO.out
 exact bodyPost_ret (results_blk rfl rfl hT4 _ Tryz.underlying24 rfl (by kernel_rfl)) rfl ⟨B, cb, rfl, h1, h2, h3, h4⟩
end Go.Proofs.YtdimmlljjmmdbaaGreatDoor
namespace Go.Proofs.YtdimmlljjmmdbaaGreatDoor
open Go.RowKit Go.Shelf
set_option maxHeartbeats 8000000
set_option maxRecDepth 100000
/-- an append of integers to own memory, in a list of operations -/
theorem wpList_app_ints {ops : Array Oper} {rest : List Oper} {o : Oper} {a : Act} {w : World} {Q : Exit → Act → World → Prop} (hgd : o.guard = none) (s x : Operand)
  (ho : o.op = .call { callee := .builtin .append, args := #[s, x], argTypes := #[22, 22] })
  (base : Nat) (v : Value) (n : Nat) (xs ys : List Int) (hs : a.eval s = v) (hown : Own w base v n (encI xs))
  (A : Option Addr) (m c : Nat) (hx : a.eval x = .slice A m c) (H : RdI w A m ys) (hnm : n + m ≤ 1000000) (hbase : base ≤ w.heap.size)
  (h : ∀ v' w', Own w' base v' (n + m) (encI (xs ++ ys)) → Below base w w' → wpList Tryz.prog ops Q rest (a.put o.dst v') w') : wpList Tryz.prog ops Q (o :: rest) a w := by
 refine wpList_plain hgd fun K hK => ?_
 exact wp_app_ints s x ho base v n xs ys hs hown A m c hx H hnm hbase (fun v' w' h1 h2 => hK _ _ (h v' w' h1 h2))
theorem bl2 (w : World) (o : Obj) : Below w.heap.size w (w.alloc o) := (Below.refl _ _).alloc (Nat.le_refl _) _
theorem rd_none (w : World) : RdI w none 0 [] := ⟨rfl, fun h => absurd h (Nat.lt_irrefl 0)⟩
theorem own_rdI {w : World} {B : Nat} {v : Value} {n : Nat} {l : List Int} (h : w.ownsRow B 3 1 v n (encI l)) : ∃ A cap, v = .slice A n cap ∧ RdI w A n l := by
 obtain ⟨A, cap, rfl, hr, _⟩ := own_form h
 exact ⟨A, cap, rfl, hr⟩
end Go.Proofs.YtdimmlljjmmdbaaGreatDoor
namespace Go.Proofs.YtdimmlljjmmdbaaGreatDoor
open Go.RowKit
set_option maxHeartbeats 8000000
set_option maxRecDepth 20000
theorem c85_32 (b : List UInt8) (w : World) (hs : b.length ≤ 1000000) :
  Calls Tryz.prog 85 #[.string (Tx.bs b), .int .u8 32] w fun en w' => ∃ x, en = .returned x ∧ w'.ownsRow w.heap.size 9 1 x (Tx.split 32 b).length (Tx.cells (Tx.split 32 b)) ∧ Below w.heap.size w w' := c85 (Tx.bs b) 32 w (by rw [Tx.bs_size]; exact hs)
theorem c169b (b : List UInt8) (w : World) : Calls Tryz.prog 169 #[.string (Tx.bs b)] w fun en w' => en = .returned (.tuple #[.int .i64 (Tx.dv b), .bool (Tx.num b)]) ∧ w = w' := c169 (Tx.bs b) w
theorem bs_tl (x : List UInt8) : (Tx.bs x).toList = x := by rw [ByteArray.toList_eq]; rfl
/-- what 'numbers' returns -/
def NP (w : World) (o : Option (List Int)) (n : Nat) (en : Ending) (w' : World) : Prop :=
 (∀ l, o = some l → ∃ A cap, en = .returned (.tuple #[.slice A n cap, .bool true]) ∧ RdI w' A n l ∧ ∀ g off, A = .some ⟨g, off, .none⟩ → w.heap.size ≤ g) ∧ (o = none → en = .returned (.tuple #[.slice none 0 0, .bool false])) ∧ Below w.heap.size w w'
theorem NP.none {w w' : World} {n : Nat} {o : Option (List Int)} (h : o = .none) (hb : Below w.heap.size w w') : NP w o n (.returned (.tuple #[.slice .none 0 0, .bool false])) w' := ⟨fun l e => (by rw [h] at e; cases e), fun _ => rfl, hb⟩
theorem NP.some {w w' : World} {n cap : Nat} {o : Option (List Int)} {l : List Int} {A : Option Addr} (h : o = .some l) (hr : RdI w' A n l) (hg : ∀ g off, A = .some ⟨g, off, .none⟩ → w.heap.size ≤ g) (hb : Below w.heap.size w w') : NP w o n (.returned (.tuple #[.slice A n cap, .bool true])) w' := ⟨fun l' e => (by rw [h] at e; cases e; exact ⟨A, cap, rfl, hr, hg⟩), fun e => (by rw [h] at e; cases e), hb⟩
theorem c140 (b word : List UInt8) (n : Nat) (w : World) (hb : b.length ≤ 1000000) (hn : n ≤ 1000000000) : Calls Tryz.prog 140 #[.string (Tx.bs b), .string (Tx.bs word), .int .i64 n] w (NP w (Tx.nums word n b) n) := by
 obtain ⟨x, ws, hsp⟩ : ∃ x ws, Tx.split 32 b = x :: ws := by
  cases h : Tx.split 32 b with
  | nil => exact absurd h (Tx.split_ne 32 b)
  | cons x ws => exact ⟨x, ws, rfl⟩
 have h85 := fun W => c85_32 b W hb
 rw [hsp] at h85
 obtain ⟨m, hm⟩ : ∃ m, m = ws.length := ⟨_, rfl⟩
 have hml := Tx.split_len_le 32 b
 have hlm : (x :: ws).length = m + 1 := by simp [hm]
 rw [hsp] at hml
 rw [hlm] at h85 hml
 have hmb : m ≤ 1000000 := by omega
 have H85 := Lib.hid h85
 have HM := Lib.hid hm
 have HSP := Lib.hid hsp
 clear h85 hml hlm hm hsp hb
 obtain ⟨BB, hBB⟩ : ∃ L, L = Tx.bs b := ⟨_, rfl⟩
 rw [← hBB] at H85 ⊢
 clear hBB
 obtain ⟨n1, hn1⟩ : ∃ z : Int, z = (n : Int) + 1 := ⟨_, rfl⟩
 have hwn : IntKind.i64.wrap ((n : Int) + 1) = n1 := by rw [hn1, wrapI (by omega)]
 have HN1 := Lib.hid hn1
 clear hn1
 go_enter Tryz.func140, Tryz.ntmps140
 go_wp2_with fail
 refine (H85.out _).mono ?_
 rintro e w1 ⟨x1, rfl, hown, hB1⟩
 by_cases hmn : m = n
 rotate_left
 ·have hP := Lib.hid (Tx.nums_len (word := word) (n := n) HSP.out (by rw [← HM.out]; exact hmn))
  obtain ⟨A2, cap2, rfl, _⟩ := Sl.of_own hown
  have hne : (((m : Int) + 1) != n1) = true := by
   have := HN1.out
   simp only [bne_iff_ne, ne_eq]; omega
  clear hmn hown
  go_wp2
  go_ret2
  exact NP.none hP.out hB1
 subst hmn
 obtain ⟨g1, cap1, rfl, hgB, hgl⟩ := hown.form (by omega)
 have q0 : w1.cell? ⟨g1, 0, none⟩ = some (.string (Tx.bs x)) := hown.cellAt 0 (by simp)
 have hm1 : (((m : Int) + 1) != n1) = false := by have := HN1.out; simp only [bne_eq_false_iff_eq]; omega
 have hm0 : (0 : Int) < (m : Int) + 1 := by omega
 obtain ⟨X, hX⟩ : ∃ L, L = Tx.bs x := ⟨_, rfl⟩
 obtain ⟨Y, hY⟩ : ∃ L, L = Tx.bs word := ⟨_, rfl⟩
 rw [← hX] at q0
 rw [← hY]
 have HX := Lib.hid hX
 have HY := Lib.hid hY
 by_cases hxw : x = word
 rotate_left
 ·have hP := Lib.hid (Tx.nums_word (word := word) (n := m) HSP.out hxw)
  have hxy : (X.toList == Y.toList) = false := by
   rw [hX, hY, bs_tl, bs_tl]
   simpa using hxw
  clear hX hY hgB hxw hown
  go_wp2
  go_ret2
  exact NP.none hP.out hB1
 subst hxw
 have hxy : (X.toList == Y.toList) = true := by rw [hX, hY]; simp
 clear hX hY hgB
 obtain ⟨vals, hvals⟩ : ∃ v : List Int, v = ws.map fun y => (Tx.val y : Int) := ⟨_, rfl⟩
 have HVL := Lib.hid hvals
 clear hvals
 go_wp2_with fail
 clear q0 hxy hm1 hm0
 go_loopw [9, 10] (fun v iv wr => ∃ (k : Nat) (z : Int), k ≤ m ∧ z = (k : Int) + 1 ∧ iv = .int .i64 z ∧ Hid (Own wr w1.heap.size v k (encI (vals.take k))) ∧ Hid ((ws.take k).all Tx.num = true) ∧ Below w1.heap.size w1 wr) (fun _ iv _ => m + 1 - (intOf iv).toNat)
 case atStart => exact ⟨0, 1, Nat.zero_le _, rfl, rfl, Lib.hid (World.ownsRow_nil _ _ _ _), Lib.hid rfl, Below.refl _ _⟩
 case round =>
  obtain ⟨k, z, hk, hz, rfl, HOW, HAL, hbr⟩ := hrel
  obtain ⟨VA, vc, rfl⟩ := own_slice HOW.out
  have hown2 := own_below hown hbr
  by_cases hlt : k < m
  ·obtain ⟨y, hy⟩ : ∃ y, ws[k]? = some y := ⟨ws[k]'(by rw [← HM.out]; exact hlt), List.getElem?_eq_getElem _⟩
   have hck := hown2.cellAt (k + 1) (by omega)
   have hcb : (Tx.cells (x :: ws))[k + 1]? = some (.string (Tx.bs y)) := by
    unfold Tx.cells
    rw [List.getElem?_map, List.getElem?_cons_succ, hy]; rfl
   rw [hcb] at hck
   have hzn : z.toNat = k + 1 := by omega
   have hz0 : (0 : Int) ≤ z := by omega
   have hz1 : z < (m : Int) + 1 := by omega
   have hwz : IntKind.i64.wrap (z + 1) = ((k + 1 : Nat) : Int) + 1 := by rw [wrapI (by omega)]; omega
   have HY2 := Lib.hid hy
   have K169 := Lib.hid (fun W => c169b y W)
   obtain ⟨D, hD⟩ : ∃ D : Int, D = (Tx.dv y : Int) := ⟨_, rfl⟩
   obtain ⟨F, hF⟩ : ∃ F : Bool, F = Tx.num y := ⟨_, rfl⟩
   rw [← hD, ← hF] at K169
   have HD := Lib.hid hD
   have HF := Lib.hid hF
   obtain ⟨S, hS⟩ : ∃ S, S = Tx.bs y := ⟨_, rfl⟩
   rw [← hS] at hck K169
   clear hcb hy hD hF hS hown2 hz
   go_wp2_with fail
   refine (K169.out _).mono ?_
   rintro e w2 ⟨rfl, rfl⟩
   cases F
   ·have hP := Lib.hid (Tx.nums_bad (word := x) (n := m) HSP.out HY2.out HF.out.symm)
    have hB2 := hB1.call hbr rfl
    clear hck
    go_wp2
    go_ret2
    exact NP.none hP.out hB2
   ·have hdv : D = (Tx.val y : Int) := by rw [HD.out]; unfold Tx.dv; rw [if_pos HF.out.symm]
    have hw3 : vals[k]? = some D := by rw [HVL.out, List.getElem?_map, HY2.out, hdv]; rfl
    have htk : vals.take (k + 1) = vals.take k ++ [D] := by rw [List.take_add_one, hw3]; rfl
    have HTK := Lib.hid htk
    have HAN : Hid ((ws.take (k + 1)).all Tx.num = true) := Lib.hid (by
     rw [List.take_add_one, HY2.out, List.all_append, HAL.out]
     simp [← HF.out])
    have hsz := hbr.size
    have how2 : Own (wr.alloc (Obj.cells #[.int .i64 D] 3)) w1.heap.size (.slice VA k vc) k (encI (vals.take k)) := HOW.out.alloc _
    clear htk hw3 hdv hck
    go_wp2_with (at_builtin; refine wpList_app_ints rfl _ _ rfl w1.heap.size (.slice VA k vc) k (vals.take k) [D] rfl how2 (some ⟨wr.heap.size, 0, none⟩) 1 1 rfl (RdS.of_new (cs := encI [D]) rfl rfl) (by omega) (by simp; omega) ?_)
    intro v' w3 hown3 hb3
    have HO : Hid (Own w3 w1.heap.size v' (k + 1) (encI (vals.take (k + 1)))) := Lib.hid (by rw [HTK.out]; exact hown3)
    have HB3 : Hid (Below w1.heap.size w1 w3) := Lib.hid ((hbr.alloc hsz (Obj.cells #[.int .i64 D] 3)).trans hb3)
    clear hown3 hb3 how2
    go_wp2
    go_roundw
    case rel => exact ⟨k + 1, _, by omega, rfl, rfl, HO, HAN, HB3.out⟩
    case measure => simp [intOf]; omega
  ·obtain rfl : m = k := by omega
   have hP : Hid (Tx.nums x m b = some vals) := Lib.hid (by
    rw [HVL.out]
    refine Tx.nums_ok HSP.out HM.out.symm ?_
    have h := HAL.out
    rw [List.take_of_length_le (by rw [← HM.out]; exact Nat.le_refl _)] at h
    exact h)
   have hO : Own wr w1.heap.size (.slice VA m vc) m (encI vals) := by
    have h := HOW.out
    rw [List.take_of_length_le (by rw [HVL.out, List.length_map, ← HM.out]; exact Nat.le_refl _)] at h
    exact h
   obtain ⟨A2, cap2, e2, hr2⟩ := own_rdI hO
   have HGB : Hid (∀ g off, A2 = .some ⟨g, off, .none⟩ → w.heap.size ≤ g) := Lib.hid (fun g off e => by
    rw [e2, e] at hO
    exact Nat.le_trans hB1.size (own_base hO g rfl))
   cases e2
   have HR2 := Lib.hid hr2
   have HB2 := Lib.hid (hB1.call hbr rfl)
   subst hz
   clear hO hr2 hown2 HOW hlt hk
   go_wp2
   go_ret2
   exact NP.some hP.out HR2.out HGB.out HB2.out
end Go.Proofs.YtdimmlljjmmdbaaGreatDoor
/- A region that draws its order, whose last operation waits for all others; what the operations on the way keep is any property of the world. -/
namespace Go
open Go.RowKit
section
variable {P : Program} {ops : Array Oper} {C : World → Prop} {Q : Exit → Act → World → Prop}
theorem wpAny_planC {a : Act} {W : World} (p : List (Nat × Bool)) (L : Nat) (C : World → Prop) (hCg : ∀ w w', C w → Below w.heap.size w w' → C w') (hC0 : C W)
  (hB : (p.length + 1 == ops.size && Region.noSelect ops && Region.planLB .any ops L p (Array.replicate ops.size false)) = true)
  (hQ : ∀ c a d v w, Q (.panic c) (a.put d v) w → Q (.panic c) a w)
  (h : wpPlanLA P ops C Q L p a W) : wpAny P .any ops Q ops.size (Array.replicate ops.size false) a { W with drawn := W.drawn + 1 } := by
 simp only [Bool.and_eq_true, beq_iff_eq] at hB
 obtain ⟨⟨hlen, hs⟩, hP⟩ := hB
 have hd : Below W.heap.size W { W with drawn := W.drawn + 1 } := (Below.refl _ W).drew
 have := wpAnyL_plan (P := P) (Q := Q) (C := C) (md := .any) (ops := ops) hCg hs hQ p (Array.replicate ops.size false) a { W with drawn := W.drawn + 1 } (hCg _ _ hC0 hd) hP (h _ hd)
 rw [hlen] at this
 exact wpAny_of_L _ _ _ _ this
theorem wp_region_planC {id : Nat} {a : Act} {W : World} (p : List (Nat × Bool)) (L : Nat) (C : World → Prop) (hCg : ∀ w w', C w → Below w.heap.size w w' → C w') (hC0 : C W) (hm : P.follows .mixedOrders = true)
  (hB : (p.length + 1 == ops.size && Region.noSelect ops && Region.planLB .any ops L p (Array.replicate ops.size false)) = true)
  (hQ : ∀ c a d v w, Q (.panic c) (a.put d v) w → Q (.panic c) a w)
  (h : wpPlanLA P ops C Q L p a W) : (Code.region id ops true).wp P Q a W := wp_region_any hm (wpAny_planC p L C hCg hC0 hB hQ h)
theorem wpPlanLA_softC {L : Nat} {l : List Oper} {i : Nat} {W0 : World} {p : List (Nat × Bool)} {a : Act} (o : Oper) (v : Value) (ho : l[i]? = some o) (hw : Region.wanted o (yielded l.toArray a.tmps) = true)
  (hv : ∀ w, C w → o.softAt P a w v)
  (h : wpPlanLA P l.toArray C Q L p (a.put o.dst v) W0) : wpPlanLA P l.toArray C Q L ((i, true) :: p) a W0 :=
 fun w hg => ⟨o, v, by rw [List.getElem?_toArray]; exact ho, .inl ⟨hw, hv⟩, fun w2 hg2 => h w2 (hg.trans (hg2.mono hg.size))⟩
end
end Go
namespace Go.Proofs.YtdimmlljjmmdbaaGreatDoor
open Go.RowKit Go.Shelf
set_option maxHeartbeats 16000000
set_option maxRecDepth 100000
theorem results_blk_tmp2 {P : Program} {fn : Func} {a u v : Tmp} {T : TypeId} (h : fn.results = #[.cell a T, .tmp u, .tmp v]) {tmps : Array Value} {w : World} {g : Nat} {cs : Array Value} {t : TypeId} {f : Nat × Nat} (ha : tmps.getD a undef = .pointer (some ⟨g, 0, none⟩)) (hh : w.heap[g]? = some (.cells cs t f))
  (d : TypeDesc) (hu : P.underlying T = some d) (hd : d.isRow = true) (hi : (P.info? T).map (·.size) = some cs.size) : (results fn tmps).run P w = .ok (.tuple #[.agg cs, tmps.getD u undef, tmps.getD v undef]) w := by
 have hl := run_loadVar_blk (P := P) hh T d hu hd hi
 have ha' : tmps[a]?.getD undef = .pointer (some ⟨g, 0, none⟩) := by simpa using ha
 simp [results, h, ha', asAddr, hl]
/-- what Parse returns -/
def PG (w : World) (p : Tx.Gd × Int × Int) (en : Ending) (w' : World) : Prop := ∃ A cap, en = .returned (.tuple #[.agg #[.int .i64 p.1.c, .int .i64 p.1.r, .slice A p.1.l.length cap], .int .i64 p.2.1, .int .i64 p.2.2]) ∧ RdI w' A p.1.l.length p.1.l ∧ p.1.l.length ≤ cap ∧ cap ≤ 9223372036854775807 ∧ Below w.heap.size w w'
theorem PG.zero {w w' : World} {p : Tx.Gd × Int × Int} {i e : Int} (h : p = (Tx.zG, i, e)) (hb : Below w.heap.size w w') : PG w p (.returned (.tuple #[.agg #[.int .i64 0, .int .i64 0, .slice none 0 0], .int .i64 i, .int .i64 e])) w' := by
 subst h
 exact ⟨none, 0, rfl, rd_none _, Nat.le_refl _, by decide, hb⟩
theorem nums_le {word : List UInt8} {n : Nat} {b : List UInt8} {l : List Int} (h : Tx.nums word n b = some l) : n ≤ b.length := by
 have h1 := Tx.nums_length h
 have h2 := Tx.split_len_le 32 b
 unfold Tx.nums at h
 split at h
 ·cases h
 ·rename_i x ws hs
  rw [hs] at h2
  split at h
  ·rw [← Option.some.inj h] at h1
   simp at h1 h2
   omega
  ·cases h
theorem sum_drop {L : List (List UInt8)} {k : Nat} {b : List UInt8} (h : L[k]? = some b) : ((L.drop k).map List.length).sum = b.length + ((L.drop (k + 1)).map List.length).sum := by
 obtain ⟨h1, e1⟩ := List.getElem?_eq_some_iff.1 h
 rw [List.drop_eq_getElem_cons h1, e1]
 simp
theorem own_gb {w w' : World} {B go : Nat} {A : Option Addr} {n c m : Nat} {xs : List Value} (h : Own w B (.slice A n c) m xs) (hg : w.grownBy w' (some go)) (hgo : go < B) : Own w' B (.slice A n c) m xs := by
 refine ⟨h.1, ?_⟩
 rcases h.2 with h2 | ⟨g, cap, cur, e, hb, hh, h3⟩
 ·exact .inl h2
 ·exact .inr ⟨g, cap, cur, e, hb, (hg.block g (Array.getElem?_eq_some_iff.1 hh).1 (fun e => by have := Option.some.inj e; omega)).trans hh, h3⟩
theorem c85_10 (s : ByteArray) (w : World) (hs : s.size ≤ 1000000) :
  Calls Tryz.prog 85 #[.string s, .int .u8 10] w fun en w' => ∃ x, en = .returned x ∧ w'.ownsRow w.heap.size 9 1 x (Tx.split 10 s.data.toList).length (Tx.cells (Tx.split 10 s.data.toList)) ∧ Below w.heap.size w w' := c85 s 10 w hs
theorem c84 (s : ByteArray) (w : World) (hs : s.size ≤ 1000000) : Calls Tryz.prog 84 #[.string s] w (PG w (Tx.parseG s.data.toList)) := by
 have hsl := Tx.size_len s
 obtain ⟨w0, hW⟩ : ∃ W, W = w.alloc (Obj.cells #[.int .i64 0, .int .i64 0, .slice none 0 0] 24) := ⟨_, rfl⟩
 have hT0 : w0.heap[w.heap.size]? = some (.cells #[.int .i64 0, .int .i64 0, .slice none 0 0] 24 (0, 0)) := by rw [hW]; exact heap_new rfl
 have hB0 : Below w.heap.size w w0 := by rw [hW]; exact (Below.refl _ _).alloc (Nat.le_refl _) _
 by_cases hlong : 4096 < s.size
 ·have HP : Hid (Tx.parseG s.data.toList = (Tx.zG, 0, 26)) := Lib.hid (by unfold Tx.parseG; rw [if_pos (by omega)])
  have hl2 : (4096 : Int) < (s.size : Int) := by omega
  clear hsl hlong hs
  go_enter Tryz.func84, Tryz.ntmps84
  go_wp2_with fail
  rw [← hW]
  exact bodyPost_ret (results_blk_tmp2 (u := 3) (v := 4) rfl rfl hT0 _ Tryz.underlying24 rfl (by kernel_rfl)) rfl (PG.zero HP.out hB0)
 have HPS : Hid (Tx.parseG s.data.toList = Tx.prs Tx.zG 0 (Tx.split 10 s.data.toList)) := Lib.hid (by unfold Tx.parseG; rw [if_neg (by omega)])
 have hl2 : (s.size : Int) ≤ 4096 := by omega
 obtain ⟨ls, last, hsp⟩ := Tx.split_exists 10 s.data.toList
 have h85 := fun W => c85_10 s W hs
 have hml := Tx.split_len_le 10 s.data.toList
 have hpc := Tx.piece_le (c := 10) (l := s.data.toList)
 obtain ⟨L, hL⟩ : ∃ L, L = Tx.split 10 s.data.toList := ⟨_, rfl⟩
 obtain ⟨M, hM⟩ : ∃ M, M = ls.length := ⟨_, rfl⟩
 rw [← hL] at h85 hml hpc HPS
 rw [← hL] at hsp
 have hlm : L.length = M + 1 := by rw [hsp, hM]; simp
 have hlast : L[M]? = some last := by rw [hsp, hM]; simp
 rw [hlm] at h85 hml
 have hmb : M ≤ 4097 := by omega
 have HPC : Hid (∀ p ∈ L, p.length ≤ 1000000) := Lib.hid (fun p hp => by have := hpc p hp; omega)
 have H85 := Lib.hid h85
 have HLM := Lib.hid hlm
 have HSUM : Hid (((L.drop 0).map List.length).sum ≤ 4096) := Lib.hid (by have := Tx.split_sum 10 s.data.toList; rw [hL, List.drop_zero]; omega)
 have HLAST := Lib.hid hlast
 obtain ⟨w2, hW2⟩ : ∃ W, W = w0.alloc (Obj.cells #[.int .i64 0, .int .i64 0, .slice none 0 0] 24) := ⟨_, rfl⟩
 have hs0 : w0.heap.size = w.heap.size + 1 := by rw [hW]; simp
 have hT1 : w2.heap[w.heap.size + 1]? = some (.cells #[.int .i64 0, .int .i64 0, .slice none 0 0] 24 (0, 0)) := by rw [hW2, ← hs0]; exact heap_new rfl
 have hT0' : w2.heap[w.heap.size]? = some (.cells #[.int .i64 0, .int .i64 0, .slice none 0 0] 24 (0, 0)) := by rw [hW2]; exact heap_old (by omega) hT0
 have hB2 : Below w.heap.size w w2 := by rw [hW2]; exact hB0.alloc hB0.size _
 have hs2 : w2.heap.size = w.heap.size + 1 + 1 := by rw [hW2]; simp; omega
 have HS2 := Lib.hid hs2
 clear hsp h85 hml hpc hM hlm hsl hlong hs hL hlast hT0 hB0 hs0 hs2
 go_enter Tryz.func84, Tryz.ntmps84
 go_wp2_with fail
 rw [← hW, ← hW2]
 clear hW hW2
 refine (H85.out _).mono ?_
 rintro e w1 ⟨x1, rfl, hown, hB1⟩
 obtain ⟨g1, cap1, rfl, hgB, hgl⟩ := hown.form (by omega)
 have HT0 := Lib.hid (blkb hT0' hB1)
 have HT1 := Lib.hid (blkb hT1 hB1)
 have HB1 := Lib.hid (hB2.call hB1 rfl)
 have HG1 : Hid (w.heap.size + 1 < g1 ∧ g1 < w1.heap.size ∧ w.heap.size + 1 < w1.heap.size) := Lib.hid (by have := HS2.out; have := hB1.size; omega)
 have HROW : Hid (∀ k b, L[k]? = some b → w1.cell? ⟨g1, k, none⟩ = some (.string (Tx.bs b))) := Lib.hid (fun k b hb => by
  have hk : k < M + 1 := by rw [← HLM.out]; exact (List.getElem?_eq_some_iff.1 hb).1
  have h := hown.cellAt k (by rw [Nat.mul_one]; exact hk)
  rw [h]
  unfold Tx.cells
  rw [List.getElem?_map, hb]; rfl)
 have hwm : IntKind.i64.wrap ((M : Int) + 1 - 1) = (M : Int) := by rw [wrapI (by omega)]; omega
 clear hown hgB hgl hB1 hB2 hT1 hT0'
 go_wp2_with fail
 clear hwm
 go_loopw [8] (fun iv wr => ∃ (k : Nat) (st : Tx.Gd) (cn : Nat) (V : Option Addr) (vc : Nat), k ≤ M ∧ iv = .int .i64 k ∧ Hid (wr.heap[w.heap.size + 1]? = some (.cells #[.int .i64 st.c, .int .i64 st.r, .slice V st.l.length vc] 24 (0, 0))) ∧ Hid (Own wr w1.heap.size (.slice V st.l.length vc) st.l.length (encI st.l)) ∧ Hid (Tx.prs Tx.zG 0 L = Tx.prs st k (L.drop k)) ∧ Hid (st.c = (cn : Int) ∧ cn ≤ 1000000000 ∧ 0 ≤ st.r ∧ st.r ≤ 1000000000 ∧ st.l.length + ((L.drop k).map List.length).sum ≤ 4096) ∧ Hid (w1.grownBy wr (some (w.heap.size + 1)))) (fun iv _ => M - (intOf iv).toNat)
 case atStart => exact ⟨0, Tx.zG, 0, none, 0, Nat.zero_le _, rfl, HT1, Lib.hid (World.ownsRow_nil _ _ _ _), Lib.hid rfl, Lib.hid ⟨rfl, by decide, by decide, by decide, by have := HSUM.out; simp only [Tx.zG, List.length_nil]; omega⟩, Lib.hid ⟨rfl, rfl, rfl, Nat.le_refl _, fun _ _ _ => rfl⟩⟩
 case round =>
  obtain ⟨k, st, cn, V, vc, hk, rfl, R5, ROW, RP, RN, RG⟩ := hrel
  obtain ⟨z5, zr, zg⟩ := HG1.out
  have HBW : Hid (Below w.heap.size w wr) := Lib.hid (HB1.out.trans (gb_below RG.out (by omega) (by omega)))
  have hT0 : wr.heap[w.heap.size]? = some (.cells #[.int .i64 0, .int .i64 0, .slice none 0 0] 24 (0, 0)) := (RG.out.block w.heap.size (by omega) (fun e => by have := Option.some.inj e; omega)).trans HT0.out
  have hwk : IntKind.i64.wrap ((k : Int) + 1) = ((k + 1 : Nat) : Int) := by rw [wrapI (by omega)]; simp
  have hrow : ∀ j b, L[j]? = some b → wr.cell? ⟨g1, j, none⟩ = some (.string (Tx.bs b)) := fun j b hb => (World.cell?_of_block (a := ⟨g1, j, none⟩) (RG.out.block g1 zr (fun e => by have := Option.some.inj e; omega))).trans (HROW.out j b hb)
  have HRW := Lib.hid hrow
  clear hrow
  by_cases hlt : k < M
  ·have hk1 : (k : Int) < (M : Int) := by omega
   have hk2 : (k : Int) < (M : Int) + 1 := by omega
   obtain ⟨b, hb⟩ : ∃ b, L[k]? = some b := ⟨L[k]'(by rw [HLM.out]; omega), List.getElem?_eq_getElem _⟩
   obtain ⟨b2, hb2⟩ : ∃ b, L[k + 1]? = some b := ⟨L[k + 1]'(by rw [HLM.out]; omega), List.getElem?_eq_getElem _⟩
   have hd : L.drop k = b :: b2 :: L.drop (k + 1 + 1) := by
    obtain ⟨h1, e1⟩ := List.getElem?_eq_some_iff.1 hb
    obtain ⟨h2, e2⟩ := List.getElem?_eq_some_iff.1 hb2
    rw [List.drop_eq_getElem_cons h1, List.drop_eq_getElem_cons h2, e1, e2]
   have hd2 : L.drop (k + 1) = b2 :: L.drop (k + 1 + 1) := by
    obtain ⟨h2, e2⟩ := List.getElem?_eq_some_iff.1 hb2
    rw [List.drop_eq_getElem_cons h2, e2]
   have HBAD : Hid (Tx.stepG st k b = none → Tx.parseG s.data.toList = (Tx.zG, (k : Int), 25)) := Lib.hid (fun h => by rw [HPS.out, RP.out, hd]; exact Tx.prs_none h)
   have HGO : Hid (∀ st', Tx.stepG st k b = some st' → Tx.prs Tx.zG 0 L = Tx.prs st' (k + 1) (L.drop (k + 1))) := Lib.hid (fun st' h => by rw [RP.out, hd, hd2]; exact Tx.prs_some h)
   have hbl := HPC.out b (List.mem_of_getElem? hb)
   have HSD := Lib.hid (sum_drop hb)
   have hck := HRW.out k b hb
   clear hb hb2 hd hd2
   by_cases hk0 : k = 0
   ·subst hk0
    have K140 : Hid (∀ W, Calls Tryz.prog 140 #[.string (Tx.bs b), .string { data := #[103, 114, 111, 117, 110, 100] }, .int .i64 2] W (NP W (Tx.nums Tx.wG 2 b) 2)) := Lib.hid (fun W => c140 b Tx.wG 2 W hbl (by decide))
    have q5 := R5.out
    obtain ⟨BB, hBB⟩ : ∃ L, L = Tx.bs b := ⟨_, rfl⟩
    rw [← hBB] at hck K140
    clear hBB
    go_wp2_with fail
    refine (K140.out _).mono ?_
    rintro e w3 ⟨hs1, hs2, hb⟩
    have HB3 := HBW.out.call hb rfl
    have hT3 := blkb hT0 hb
    cases ho : Tx.nums Tx.wG 2 b with
    | none =>
     obtain rfl := hs2 ho
     have hP := Lib.hid (HBAD.out (by unfold Tx.stepG; rw [if_pos rfl, ho]; rfl))
     clear hs1 hs2 hb ho hck q5 hT0
     go_wp2_with (refine wpList_store_blk rfl 24 _ _ rfl w.heap.size _ rfl rfl hT3 ?s1 ?s2 ?s3 ?_)
     case s1 => rfl
     case s2 => kernel_rfl
     case s3 => simp [Value.oneCell']
     intro wf hZ hg3 hs3
     have HZ := Lib.hid hZ
     have HF := Lib.hid (HB3.grown hg3 HB3.size (fun j hj => by cases hj; exact Nat.le_refl _))
     clear hZ hg3 hs3 
     go_wp2_with fail
     exact bodyPost_ret (results_blk_tmp2 (u := 3) (v := 4) rfl rfl HZ.out _ Tryz.underlying24 rfl (by kernel_rfl)) rfl (PG.zero hP.out HF.out)
    | some l2 =>
     obtain ⟨A2, c2, rfl, hr2, hgA⟩ := hs1 l2 ho
     have hln := Tx.nums_length ho
     obtain ⟨x0, x1, rfl⟩ : ∃ x0 x1, l2 = [x0, x1] := by
      match l2, hln with
      | [x0, x1], _ => exact ⟨x0, x1, rfl⟩
     have hnn := Tx.nums_nonneg ho
     have hx0 := hnn x0 (by simp)
     have hx1 := hnn x1 (by simp)
     have HGN := Lib.hid (HGO.out ⟨x0, x1, st.l⟩ (by unfold Tx.stepG; rw [if_pos rfl, ho]; rfl))
     have HNN : Hid (x0 = ((x0.toNat : Nat) : Int) ∧ x0.toNat ≤ 1000000000 ∧ 0 ≤ x1 ∧ x1 ≤ 1000000000) := Lib.hid (by omega)
     obtain ⟨a2, o2, rfl, za2⟩ := hr2.form (by decide)
     have hq0 : w3.cell? ⟨a2, o2, none⟩ = some (.int .i64 x0) := hr2.get (k := 0) (by decide)
     have hq1 : w3.cell? ⟨a2, o2 + 1, none⟩ = some (.int .i64 x1) := hr2.get (k := 1) (by decide)
     have R53 := Lib.hid (blkb R5.out hb)
     have ROW3 : Hid (Own w3 w1.heap.size (.slice V st.l.length vc) st.l.length (encI st.l)) := Lib.hid (own_below ROW.out hb)
     have RG3 := Lib.hid (gb_call RG.out (hb.mono RG.out.size))
     have hA5 : a2 ≠ w.heap.size + 1 := by have := hgA a2 o2 rfl; have := RG.out.size; omega
     have hw35 : w.heap.size + 1 < w3.heap.size := by have := RG3.out.size; omega
     clear hs1 hs2 hb ho hln hnn hx0 hx1 hr2 hgA hck q5 hT0 hT3
     go_wp2_with fail
     have hq1x := hq1
     clear hq1
     refine wp_region_planC [(0, true), (1, true), (2, true), (3, true), (4, true), (5, true), (6, true), (7, false), (8, true)] 9 (fun W' => Below (w.heap.size + 1) w3 W' ∧ W'.heap[a2]? = w3.heap[a2]?) (fun w w' h hb => ⟨h.1.trans (hb.mono (Nat.le_trans (Nat.le_of_lt hw35) h.1.size)), (hb.block a2 (Nat.lt_of_lt_of_le za2 (h.1.size))).trans h.2⟩) ⟨Below.refl _ _, rfl⟩ (by kernel_rfl) (by kernel_rfl) (fun _ _ d _ _ h => by cases d <;> exact h) ?_
     repeat (first | (refine wpPlanLA_skip _ rfl (by rfl) ?_; simp only [Act.put, List.setIfInBounds_toArray, List.set_cons_zero, List.set_cons_succ]) | (refine wpPlanLA_softC _ ?_ rfl (by rfl) ?_ ?_; rotate_left; (intro wq ⟨hq1, hq2⟩; have e0 := (World.cell?_of_block (a := ⟨a2, o2, none⟩) hq2).trans hq0; have e1 := (World.cell?_of_block (a := ⟨a2, o2 + 1, none⟩) hq2).trans hq1x; go_simp; first | exact rfl | exact ⟨rfl, rfl⟩); simp only [Act.put, List.setIfInBounds_toArray, List.set_cons_zero, List.set_cons_succ]))
     refine wpPlanLA_hard _ rfl (by rfl) (fun w4 hb4 K hK => ?_)
     have q50 : w4.cell? ⟨w.heap.size + 1, 0, none⟩ = some (.int .i64 st.c) := cell_at (blkb R53.out hb4) rfl
     have f50 : w4.frozen? ⟨w.heap.size + 1, 0, none⟩ = false := free_at (blkb R53.out hb4)
     have zq := cell_lt q50
     have N5 := set_blk (i := 0) (blkb R53.out hb4) (.int .i64 x0)
     have NROW := own_setfar (p := ⟨w.heap.size + 1, 0, none⟩) (u := .int .i64 x0) (own_below ROW3.out hb4) zg
     have NG := gb_set (k := 0) (v := .int .i64 x0) (gb_call RG3.out (hb4.mono RG3.out.size))
     have NC : Below (w.heap.size + 1) w3 (w4.setCell ⟨w.heap.size + 1, 0, none⟩ (.int .i64 x0)) ∧ (w4.setCell ⟨w.heap.size + 1, 0, none⟩ (.int .i64 x0)).heap[a2]? = w3.heap[a2]? := ⟨(hb4.mono (Nat.le_of_lt hw35)).setCell (p := ⟨w.heap.size + 1, 0, none⟩) (Nat.le_refl _) _, (set_far _ (by show a2 ≠ w.heap.size + 1; exact hA5)).trans (hb4.block a2 za2)⟩
     clear hb4
     go_simp
     refine hK _ _ NC ?_
     clear hK K NC q50 f50 zq
     generalize w4.setCell ⟨w.heap.size + 1, 0, none⟩ (.int .i64 x0) = w5 at N5 NROW NG ⊢
     try simp only [Act.put, List.setIfInBounds_toArray, List.set_cons_zero, List.set_cons_succ]
     repeat (first | (refine wpPlanLA_skip _ rfl (by rfl) ?_; simp only [Act.put, List.setIfInBounds_toArray, List.set_cons_zero, List.set_cons_succ]) | (refine wpPlanLA_softC _ ?_ rfl (by rfl) ?_ ?_; rotate_left; (intro wq ⟨hq1, hq2⟩; have e0 := (World.cell?_of_block (a := ⟨a2, o2, none⟩) hq2).trans hq0; have e1 := (World.cell?_of_block (a := ⟨a2, o2 + 1, none⟩) hq2).trans hq1x; go_simp; first | exact rfl | exact ⟨rfl, rfl⟩); simp only [Act.put, List.setIfInBounds_toArray, List.set_cons_zero, List.set_cons_succ]))
     refine wpPlanLA_last _ rfl (by rfl) (fun w6 hb6 K hK => ?_)
     have q51 : w6.cell? ⟨w.heap.size + 1, 1, none⟩ = some (.int .i64 st.r) := cell_at (blkb N5 hb6) rfl
     have f51 : w6.frozen? ⟨w.heap.size + 1, 1, none⟩ = false := free_at (blkb N5 hb6)
     have zq := cell_lt q51
     have M5 := set_blk (i := 1) (blkb N5 hb6) (.int .i64 x1)
     have MROW := own_setfar (p := ⟨w.heap.size + 1, 1, none⟩) (u := .int .i64 x1) (own_below NROW hb6) zg
     have MG := gb_set (k := 1) (v := .int .i64 x1) (gb_call NG (hb6.mono NG.size))
     clear hb6 N5 NROW NG
     go_simp
     refine hK _ _ (fun w7 hb7 => ?_)
     clear hK K q51 f51 zq
     have N5 := Lib.hid (blkb M5 hb7)
     have NROW := Lib.hid (own_below MROW hb7)
     have NG := Lib.hid (gb_call MG (hb7.mono MG.size))
     have HLN : Hid (st.l.length + ((L.drop (0 + 1)).map List.length).sum ≤ 4096) := Lib.hid (by have := RN.out; have := HSD.out; omega)
     clear hb7 za2 M5 MROW MG hA5 hw35 hq0 hq1x
     go_wp2
     go_roundw
     case rel => exact ⟨0 + 1, ⟨x0, x1, st.l⟩, x0.toNat, V, vc, by omega, by go_num, N5, NROW, HGN, Lib.hid ⟨HNN.out.1, HNN.out.2.1, HNN.out.2.2.1, HNN.out.2.2.2, HLN.out⟩, NG⟩
     case measure => simp [intOf]; omega
   ·have hc := RN.out.1
    have K140 : Hid (∀ W, Calls Tryz.prog 140 #[.string (Tx.bs b), .string { data := #[114, 111, 119] }, .int .i64 (cn : Nat)] W (NP W (Tx.nums Tx.wR cn b) cn)) := Lib.hid (fun W => c140 b Tx.wR cn W hbl RN.out.2.1)
    have HST : Hid (∀ o, Tx.nums Tx.wR cn b = o → Tx.stepG st k b = o.map fun l => ⟨st.c, st.r, st.l ++ l⟩) := Lib.hid (fun o ho => by unfold Tx.stepG; rw [if_neg hk0, hc, Int.toNat_natCast, ho])
    have R5c := R5.out
    rw [hc] at R5c
    have q50 : wr.cell? ⟨w.heap.size + 1, 0, none⟩ = some (.int .i64 (cn : Nat)) := cell_at R5c rfl
    have z50 := cell_lt q50
    obtain ⟨BB, hBB⟩ : ∃ L, L = Tx.bs b := ⟨_, rfl⟩
    rw [← hBB] at hck K140
    have hk3 : ((k : Int) == 0) = false := by simp; omega
    have zg1 : g1 < wr.heap.size := cell_lt hck
    clear hBB hc R5c
    go_wp2_with fail
    refine wp_region_plan [(0, true), (1, true), (2, true), (3, true), (4, true), (5, true), (6, false), (7, true), (8, true), (9, true), (10, true), (11, true)] wr.heap.size (by kernel_rfl) (by kernel_rfl) (Nat.le_refl _) (fun _ _ d _ _ h => by cases d <;> exact h) ?_
    have hC : Below wr.heap.size wr wr := Below.refl _ _
    repeat (first | (refine wpPlanA_skip _ rfl (by rfl) ?_; simp only [Act.put, List.setIfInBounds_toArray, List.set_cons_zero, List.set_cons_succ]) | (refine wpPlanA_soft _ ?_ rfl (by rfl) ?_ ?_; rotate_left; (intro wq hq hcq; go_simp; first | exact rfl | exact ⟨rfl, rfl⟩); simp only [Act.put, List.setIfInBounds_toArray, List.set_cons_zero, List.set_cons_succ]))
    refine wpPlanA_hard _ rfl (by rfl) (fun w3 hS K hK => ?_)
    go_simp
    refine (K140.out _).mono ?_
    rintro e w4 ⟨hs1, hs2, hb⟩
    have hb3 := (hC.call hS rfl).call hb rfl
    cases ho : Tx.nums Tx.wR cn b with
    | none =>
     obtain rfl := hs2 ho
     have hP := Lib.hid (HBAD.out (HST.out _ ho))
     refine hK _ _ hb3 ?_
     clear hK K hS hs1 hs2 hb hC ho
     try simp only [Act.put, List.setIfInBounds_toArray, List.set_cons_zero, List.set_cons_succ]
     repeat (first | (refine wpPlanA_skip _ rfl (by rfl) ?_; simp only [Act.put, List.setIfInBounds_toArray, List.set_cons_zero, List.set_cons_succ]) | (refine wpPlanA_soft _ ?_ rfl (by rfl) ?_ ?_; rotate_left; (intro wq hq hcq; go_simp; first | exact rfl | exact ⟨rfl, rfl⟩); simp only [Act.put, List.setIfInBounds_toArray, List.set_cons_zero, List.set_cons_succ]))
     refine wpPlanA_nil (fun w5 hS5 => ?_)
     have hb5 := hb3.call hS5 rfl
     have HB5 := HBW.out.call hb5 rfl
     have hT5 := blkb hT0 hb5
     clear hS5 hb3 hb5 hck q50 z50 hk3 zg1 hT0
     go_wp2_with (refine wpList_store_blk rfl 24 _ _ rfl w.heap.size _ rfl rfl hT5 ?s1 ?s2 ?s3 ?_)
     case s1 => rfl
     case s2 => kernel_rfl
     case s3 => simp [Value.oneCell']
     intro wf hZ hg3 hs3
     have HZ := Lib.hid hZ
     have HF := Lib.hid (HB5.grown hg3 HB5.size (fun j hj => by cases hj; exact Nat.le_refl _))
     clear hZ hg3 hs3 
     go_wp2_with fail
     exact bodyPost_ret (results_blk_tmp2 (u := 3) (v := 4) rfl rfl HZ.out _ Tryz.underlying24 rfl (by kernel_rfl)) rfl (PG.zero hP.out HF.out)
    | some l2 =>
     obtain ⟨A2, c2, rfl, hr2, hgA⟩ := hs1 l2 ho
     have hln := Tx.nums_length ho
     have HLE : Hid ((st.l ++ l2).length = st.l.length + cn) := Lib.hid (by rw [List.length_append, hln])
     have HLN : Hid ((st.l ++ l2).length + ((L.drop (k + 1)).map List.length).sum ≤ 4096) := Lib.hid (by rw [List.length_append, hln]; have := nums_le ho; have := RN.out; have := HSD.out; omega)
     have hnm : st.l.length + cn ≤ 1000000 := by have := HLE.out; have := HLN.out; omega
     have HGN := Lib.hid (HGO.out ⟨st.c, st.r, st.l ++ l2⟩ (by rw [HST.out _ ho]; rfl))
     refine hK _ _ hb3 ?_
     clear hK K hs1 hs2 hgA hC ho hS hb
     try simp only [Act.put, List.setIfInBounds_toArray, List.set_cons_zero, List.set_cons_succ]
     repeat (first | (refine wpPlanA_skip _ rfl (by rfl) ?_; simp only [Act.put, List.setIfInBounds_toArray, List.set_cons_zero, List.set_cons_succ]) | (refine wpPlanA_soft _ ?_ rfl (by rfl) ?_ ?_; rotate_left; (intro wq hq hcq; go_simp; first | exact rfl | exact ⟨rfl, rfl⟩); simp only [Act.put, List.setIfInBounds_toArray, List.set_cons_zero, List.set_cons_succ]))
     refine wpPlanA_nil (fun w5 hS5 => ?_)
     have hr5 := hr2.below hS5
     have hb5 := hb3.call hS5 rfl
     have R55 := blkb R5.out hb5
     have ROW5 : Own w5 w1.heap.size (.slice V st.l.length vc) st.l.length (encI st.l) := own_below ROW.out hb5
     have RG5 := Lib.hid (gb_call RG.out (hb5.mono RG.out.size))
     have q5 : w5.cell? ⟨w.heap.size + 1, 2, none⟩ = some (.slice V st.l.length vc) := cell_at R55 rfl
     have zb5 : w1.heap.size ≤ w5.heap.size := RG5.out.size
     have HR55 := Lib.hid R55
     clear hS5 hb3 hb5 hr2 hck q50 z50 hk3 zg1 hT0 R55
     go_wp2_with (at_builtin; refine wpList_app_ints rfl _ _ rfl w1.heap.size (.slice V st.l.length vc) st.l.length st.l l2 rfl ROW5 A2 cn c2 rfl hr5 hnm zb5 ?_)
     intro v' w6 hown6 hb6
     obtain ⟨V2, vc2, rfl⟩ := own_slice hown6
     have R56 : w6.heap[w.heap.size + 1]? = some (.cells #[.int .i64 st.c, .int .i64 st.r, .slice V st.l.length vc] 24 (0, 0)) := (hb6.block _ zg).trans HR55.out
     have RG6 := gb_call RG5.out hb6
     have q52 : w6.cell? ⟨w.heap.size + 1, 2, none⟩ = some (.slice V st.l.length vc) := cell_at R56 rfl
     have f52 : w6.frozen? ⟨w.heap.size + 1, 2, none⟩ = false := free_at R56
     have N5 : Hid ((w6.setCell ⟨w.heap.size + 1, 2, none⟩ (.slice V2 (st.l.length + cn) vc2)).heap[w.heap.size + 1]? = some (.cells #[.int .i64 st.c, .int .i64 st.r, .slice V2 (st.l ++ l2).length vc2] 24 (0, 0))) := Lib.hid (by rw [HLE.out]; exact set_blk (i := 2) R56 _)
     have NROW : Hid (Own (w6.setCell ⟨w.heap.size + 1, 2, none⟩ (.slice V2 (st.l.length + cn) vc2)) w1.heap.size (.slice V2 (st.l ++ l2).length vc2) (st.l ++ l2).length (encI (st.l ++ l2))) := Lib.hid (by rw [HLE.out]; exact own_setfar (p := ⟨w.heap.size + 1, 2, none⟩) (u := .slice V2 (st.l.length + cn) vc2) hown6 zg)
     have NG := Lib.hid (gb_set (k := 2) (v := .slice V2 (st.l.length + cn) vc2) RG6)
     clear hown6 hb6 R56 RG6 hnm q5 ROW5
     go_wp2
     go_roundw
     case rel => exact ⟨k + 1, ⟨st.c, st.r, st.l ++ l2⟩, cn, V2, vc2, by omega, by go_num, N5, NROW, HGN, Lib.hid ⟨RN.out.1, RN.out.2.1, RN.out.2.2.1, RN.out.2.2.2.1, HLN.out⟩, NG⟩
     case measure => simp [intOf]; omega
  ·obtain rfl : M = k := by omega
   have hdl : L.drop M = [last] := by
    obtain ⟨h1, e1⟩ := List.getElem?_eq_some_iff.1 HLAST.out
    rw [List.drop_eq_getElem_cons h1, e1, List.drop_of_length_le (by rw [HLM.out]; exact Nat.le_refl _)]
   have HEND : Hid (Tx.parseG s.data.toList = Tx.prs st M [last]) := Lib.hid (by rw [HPS.out, RP.out, hdl])
   have hck := HRW.out M last HLAST.out
   have hk2 : (M : Int) < (M : Int) + 1 := by omega
   have hk0 : (0 : Int) ≤ (M : Int) := by omega
   obtain ⟨BB, hBB⟩ : ∃ L, L = Tx.bs last := ⟨_, rfl⟩
   rw [← hBB] at hck
   have HBB := Lib.hid hBB
   have hB := HBW.out
   have q50 : wr.cell? ⟨w.heap.size + 1, 0, none⟩ = some (.int .i64 st.c) := cell_at R5.out rfl
   have q51 : wr.cell? ⟨w.heap.size + 1, 1, none⟩ = some (.int .i64 st.r) := cell_at R5.out rfl
   have q52 : wr.cell? ⟨w.heap.size + 1, 2, none⟩ = some (.slice V st.l.length vc) := cell_at R5.out rfl
   clear hBB hdl hlt hk
   by_cases hl0 : last = []
   rotate_left
   ·have hez : BB.toList.isEmpty = false := by rw [HBB.out, bs_tl]; simpa using hl0
    have hP := Lib.hid (HEND.out.trans (by unfold Tx.prs; rw [if_pos (.inl hl0)]))
    clear hl0
    go_wp2_with (refine wpList_store_blk rfl 24 _ _ rfl w.heap.size _ rfl rfl hT0 ?s1 ?s2 ?s3 ?_)
    case s1 => rfl
    case s2 => kernel_rfl
    case s3 => simp [Value.oneCell']
    intro wf hZ hg3 hs3
    have HZ := Lib.hid hZ
    have HF := Lib.hid (hB.grown hg3 hB.size (fun j hj => by cases hj; exact Nat.le_refl _))
    clear hZ hg3 hs3 hck q50 q51 q52
    go_wp2_with fail
    exact bodyPost_ret (results_blk_tmp2 (u := 3) (v := 4) rfl rfl HZ.out _ Tryz.underlying24 rfl (by kernel_rfl)) rfl (PG.zero hP.out HF.out)
   have hez : BB.toList.isEmpty = true := by rw [HBB.out, bs_tl, hl0]; rfl
   by_cases hM0 : M = 0
   ·have hP := Lib.hid (HEND.out.trans (by unfold Tx.prs; rw [if_pos (.inr hM0)]))
    subst hM0
    go_wp2_with (refine wpList_store_blk rfl 24 _ _ rfl w.heap.size _ rfl rfl hT0 ?s1 ?s2 ?s3 ?_)
    case s1 => rfl
    case s2 => kernel_rfl
    case s3 => simp [Value.oneCell']
    intro wf hZ hg3 hs3
    have HZ := Lib.hid hZ
    have HF := Lib.hid (hB.grown hg3 hB.size (fun j hj => by cases hj; exact Nat.le_refl _))
    clear hZ hg3 hs3 hck q50 q51 q52
    go_wp2_with fail
    exact bodyPost_ret (results_blk_tmp2 (u := 3) (v := 4) rfl rfl HZ.out _ Tryz.underlying24 rfl (by kernel_rfl)) rfl (PG.zero hP.out HF.out)
   have hm0 : ((M : Int) == 0) = false := by simp; exact hM0
   have hwm : IntKind.i64.wrap ((M : Int) - 1) = (M : Int) - 1 := wrapI (by omega)
   have HN0 : Hid (¬ (last ≠ [] ∨ M = 0)) := Lib.hid (fun h => h.elim (fun h => h hl0) hM0)
   clear hl0 hM0
   by_cases hmr : (M : Int) - 1 = st.r
   rotate_left
   ·have hne : (((M : Int) - 1) != st.r) = true := by simpa using hmr
    have hP := Lib.hid (HEND.out.trans (by unfold Tx.prs; rw [if_neg HN0.out, if_pos hmr]))
    clear hmr
    go_wp2_with (refine wpList_store_blk rfl 24 _ _ rfl w.heap.size _ rfl rfl hT0 ?s1 ?s2 ?s3 ?_)
    case s1 => rfl
    case s2 => kernel_rfl
    case s3 => simp [Value.oneCell']
    intro wf hZ hg3 hs3
    have HZ := Lib.hid hZ
    have HF := Lib.hid (hB.grown hg3 hB.size (fun j hj => by cases hj; exact Nat.le_refl _))
    clear hZ hg3 hs3 hck q50 q51 q52
    go_wp2_with fail
    exact bodyPost_ret (results_blk_tmp2 (u := 3) (v := 4) rfl rfl HZ.out _ Tryz.underlying24 rfl (by kernel_rfl)) rfl (PG.zero hP.out HF.out)
   have hne : (((M : Int) - 1) != st.r) = false := by simpa using hmr
   have HMR := Lib.hid hmr
   obtain ⟨V', vc', e', hr'⟩ := own_rdI ROW.out
   cases e'
   have hn : st.l.length ≤ 1000000 := by have := RN.out; omega
   obtain ⟨E, hE⟩ : ∃ E, E = Mo.ground st.c st.r st.l := ⟨_, rfl⟩
   have K65 := Lib.hid (c65 st.c st.r V st.l.length vc st.l wr hn hr')
   rw [← hE] at K65
   have HE := Lib.hid hE
   clear hE hmr hr' hn
   go_wp2_with fail
   refine K65.out.mono ?_
   rintro e w3 ⟨rfl, hb⟩
   have hT3 := blkb hT0 hb
   have hB3 := hB.call hb rfl
   have R53 := blkb R5.out hb
   have HRW3 := Lib.hid (own_below ROW.out hb)
   have p50 : w3.cell? ⟨w.heap.size + 1, 0, none⟩ = some (.int .i64 st.c) := cell_at R53 rfl
   have p51 : w3.cell? ⟨w.heap.size + 1, 1, none⟩ = some (.int .i64 st.r) := cell_at R53 rfl
   have p52 : w3.cell? ⟨w.heap.size + 1, 2, none⟩ = some (.slice V st.l.length vc) := cell_at R53 rfl
   clear hb hT0 hB R53 q50 q51 q52 hck hne hm0 hwm hez
   by_cases hE0 : E = 0
   rotate_left
   ·have hEE : (E != 0) = true := by simpa using hE0
    have hP := Lib.hid (HEND.out.trans (by unfold Tx.prs; rw [if_neg HN0.out, if_neg (by have := HMR.out; omega), if_pos (by rw [← HE.out]; exact hE0), ← HE.out]))
    clear hE0
    go_wp2_with (refine wpList_store_blk rfl 24 _ _ rfl w.heap.size _ rfl rfl hT3 ?s1 ?s2 ?s3 ?_)
    case s1 => rfl
    case s2 => kernel_rfl
    case s3 => simp [Value.oneCell']
    intro wf hZ hg3 hs3
    have HZ := Lib.hid hZ
    have HF := Lib.hid (hB3.grown hg3 hB3.size (fun j hj => by cases hj; exact Nat.le_refl _))
    clear hZ hg3 hs3 p50 p51 p52
    go_wp2_with fail
    exact bodyPost_ret (results_blk_tmp2 (u := 3) (v := 4) rfl rfl HZ.out _ Tryz.underlying24 rfl (by kernel_rfl)) rfl (PG.zero hP.out HF.out)
   subst hE0
   have HPF : Hid (Tx.parseG s.data.toList = (st, 0, 0)) := Lib.hid (HEND.out.trans (by unfold Tx.prs; rw [if_neg HN0.out, if_neg (by have := HMR.out; omega), if_neg (by rw [← HE.out]; simp)]))
   go_wp2_with (refine wpList_store_blk rfl 24 _ _ rfl w.heap.size _ rfl rfl hT3 ?s1 ?s2 ?s3 ?_)
   case s1 => rfl
   case s2 => kernel_rfl
   case s3 => simp [Value.oneCell']
   intro wf hZ hg3 hs3
   have HZ := Lib.hid hZ
   have HF := Lib.hid (hB3.grown hg3 hB3.size (fun j hj => by cases hj; exact Nat.le_refl _))
   have HRF : Hid (∃ A cap, (Value.slice V st.l.length vc = .slice A st.l.length cap) ∧ RdI wf A st.l.length st.l ∧ st.l.length ≤ cap ∧ cap ≤ 9223372036854775807) := Lib.hid (by
    have hwb : w.heap.size < w1.heap.size := by omega
    have h := own_gb HRW3.out hg3 hwb
    obtain ⟨A, cap, e, hr, hc, hm, _⟩ := own_form h
    exact ⟨A, cap, e, hr, hc, hm⟩)
   clear hZ hg3 hs3 hT3 hB3 p50 p51 p52
   go_wp2_with fail
   refine bodyPost_ret (results_blk_tmp2 (u := 3) (v := 4) rfl rfl HZ.out _ Tryz.underlying24 rfl (by kernel_rfl)) rfl ?_
   rw [HPF.out]
   obtain ⟨A, cap, e, hr, hc, hm⟩ := HRF.out
   cases e
   exact ⟨_, _, rfl, hr, hc, hm, HF.out⟩
end Go.Proofs.YtdimmlljjmmdbaaGreatDoor
namespace Go.Proofs.YtdimmlljjmmdbaaGreatDoor
open Go.RowKit
set_option maxHeartbeats 4000000
set_option maxRecDepth 20000
/-- the taker's block, and the words that are left (they lie below it) -/
structure Tkr (w : World) (b : Nat) (ws : List (List UInt8)) (wr : Bool) (A : Option Addr) : Prop where
 blk : w.heap[b]? = some (.cells #[.slice A ws.length ws.length, .bool wr] 231 (0, 0))
 rd : ∀ x r, ws = x :: r → ∃ g off, A = some ⟨g, off, none⟩ ∧ g < b ∧ ∀ j, j < ws.length → w.cell? ⟨g, off + j, none⟩ = (Tx.cells ws)[j]?
theorem Tkr.below {w w' : World} {b : Nat} {ws : List (List UInt8)} {wr : Bool} {A : Option Addr} (h : Tkr w b ws wr A) (hb : Below w.heap.size w w') : Tkr w' b ws wr A := by
 have hlt := (Array.getElem?_eq_some_iff.1 h.blk).1
 refine ⟨(hb.block b hlt).trans h.blk, fun x r e => ?_⟩
 obtain ⟨g, off, hA, hg, hc⟩ := h.rd x r e
 exact ⟨g, off, hA, hg, fun j hj => (hb.cell (p := ⟨g, off + j, none⟩) (Nat.lt_trans hg hlt)).trans (hc j hj)⟩
theorem heap_set98 {w : World} {b i : Nat} {cs : Array Value} {t : TypeId} {f : Nat × Nat} (v : Value) (h : w.heap[b]? = some (.cells cs t f)) : (w.setCell ⟨b, i, none⟩ v).heap[b]? = some (.cells (cs.setIfInBounds i v) t f) := by
 simp [World.setCell, Array.getElem?_modify, h]
theorem below_set {w : World} {b i : Nat} (v : Value) : Below b w (w.setCell ⟨b, i, none⟩ v) := (Below.refl b w).setCell (p := ⟨b, i, none⟩) (Nat.le_refl _) v
/-- all blocks but one stay -/
structure Only (b : Nat) (w w' : World) : Prop where
 bel : Below b w w'
 size : w.heap.size ≤ w'.heap.size
 same : ∀ i o, w.heap[i]? = some o → i ≠ b → w'.heap[i]? = some o
theorem Only.trans {b : Nat} {a c d : World} (h : Only b a c) (k : Only b c d) : Only b a d := ⟨h.bel.trans k.bel, Nat.le_trans h.size k.size, fun i o ho hb => k.same i o (h.same i o ho hb) hb⟩
theorem Only.of_below {b : Nat} {w w' : World} (h : Below w.heap.size w w') (hb : b < w.heap.size) : Only b w w' := ⟨h.mono (Nat.le_of_lt hb), h.size, fun i o ho _ => (h.block i (Array.getElem?_eq_some_iff.1 ho).1).trans ho⟩
theorem Only.set (b i : Nat) (w : World) (v : Value) : Only b w (w.setCell ⟨b, i, none⟩ v) := ⟨below_set v, by simp, fun j o ho hj => (Below.heap_setCell w ⟨b, i, none⟩ v j (by simpa using hj)).trans ho⟩
/-- what a taking leaves -/
def TkPost (w : World) (b : Nat) (ws : List (List UInt8)) (wr : Bool) (v : Value) (e : Ending) (w' : World) : Prop := ∃ A, e = .returned v ∧ Tkr w' b ws wr A ∧ Only b w w'
theorem c182b (b : List UInt8) (w : World) (hb : b.length ≤ 1000000) : Calls Tryz.prog 182 #[.string (Tx.bs b)] w fun en w' => en = .returned (.tuple #[.int .i64 (Tx.iv b), .bool (Tx.num b)]) ∧ Below w.heap.size w w' := by
 have h := c182 (Tx.bs b) w (by rw [Tx.bs_size]; exact hb)
 rw [Tx.bs_toList] at h
 exact h
theorem c168 (b : Nat) (x : List UInt8) (r : List (List UInt8)) (wg : Bool) (A : Option Addr) (w : World) (hl : r.length ≤ 1000000) (hx : x.length ≤ 1000000) (h : Tkr w b (x :: r) wg A) :
  Calls Tryz.prog 168 #[.pointer (some ⟨b, 0, none⟩)] w (TkPost w b r (wg || !Tx.num x) (.int .i64 (Tx.iv x))) := by
 have hblk := h.blk
 obtain ⟨g, off, rfl, hg, hc⟩ := h.rd x r rfl
 have c0 : w.cell? ⟨g, off, none⟩ = some (.string (Tx.bs x)) := hc 0 (by simp)
 obtain ⟨M, hM⟩ : ∃ M, M = r.length := ⟨_, rfl⟩
 have hlen : (x :: r).length = M + 1 := by simp [hM]
 rw [hlen] at hblk
 have hsl : ∃ A', (∀ W : World, (Instr.slice 140 (.slice (some ⟨g, off, none⟩) (M + 1) (M + 1)) (some (.int .i64 1)) none none).run Tryz.prog W = .ok (.slice (some A') M M) W) ∧ (0 < M → A' = ⟨g, off + 1, none⟩) := by
  refine ⟨if M = 0 then ⟨g, off, none⟩ else ⟨g, off + 1, none⟩, fun W => ?_, fun h => by rw [if_neg (by omega)]⟩
  rw [run_slice_l (P := Tryz.prog) W 140 (some ⟨g, off, none⟩) (M + 1) (M + 1) (by kernel_rfl) .i64 1 (by omega) (by omega)]
  have hse : (sizeOf (Tryz.prog.elem 140)).run Tryz.prog W = .ok 1 W := by
   have : Tryz.prog.elem 140 = 9 := by kernel_rfl
   rw [this]
   go_simp
  rw [hse]
  simp only [Result.andThen_ok, sliced, Nat.add_sub_cancel, Int.toNat_one]
  by_cases h0 : M = 0
  ·subst h0; simp
  ·rw [if_neg (by omega), if_neg h0]
   simp [Addr.add]
 obtain ⟨A', hsl, hA'⟩ := hsl
 have HT : Hid (∀ w' wg', w'.heap[b]? = some (.cells #[.slice (some A') M M, .bool wg'] 231 (0, 0)) → Only b w w' → TkPost w b r wg' (.int .i64 (Tx.iv x)) (.returned (.int .i64 (Tx.iv x))) w') := Lib.hid (fun w' wg' h1 h2 => by
  refine ⟨some A', rfl, ⟨by rw [← hM]; exact h1, fun y t e => ?_⟩, h2⟩
  have hM0 : 0 < M := by rw [hM, e]; simp
  refine ⟨g, off + 1, by rw [hA' hM0], hg, fun j hj => ?_⟩
  have := hc (j + 1) (by simp; omega)
  rw [show off + 1 + j = off + (j + 1) by omega]
  exact (h2.bel.cell (p := ⟨g, off + (j + 1), none⟩) hg).trans (this.trans (by simp [Tx.cells])))
 have K182 := Lib.hid (c182b x w hx)
 obtain ⟨I, hI⟩ : ∃ z : Int, z = (Tx.iv x : Int) := ⟨_, rfl⟩
 obtain ⟨F, hF⟩ : ∃ f : Bool, f = Tx.num x := ⟨_, rfl⟩
 obtain ⟨X, hX⟩ : ∃ L, L = Tx.bs x := ⟨_, rfl⟩
 rw [← hI, ← hF, ← hX] at K182
 rw [← hI] at HT ⊢
 rw [← hF]
 rw [← hX] at c0
 have hM1 : (0 : Int) < (M : Int) + 1 := by omega
 have k0 := cell_at (i := 0) hblk rfl
 have k1 := cell_at (i := 1) hblk rfl
 have HBLK := Lib.hid hblk
 clear hblk h hX hx hc hM hlen hA' hI hF hl
 go_enter Tryz.func168, Tryz.ntmps168
 go_wp2_with fail
 refine K182.out.mono ?_
 rintro e w2 ⟨rfl, hb⟩
 have hgl := cell_lt c0
 have hb0 : b < w.heap.size := cell_lt k0
 have ho := Only.of_below hb hb0
 have hblk2 := blkb HBLK.out hb
 replace k0 := cell_at (i := 0) hblk2 rfl
 replace k1 := cell_at (i := 1) hblk2 rfl
 have f0 : ∀ o, w2.frozen? ⟨b, o, none⟩ = false := fun o => free_at hblk2
 have z0 := cell_lt k0
 have hs1 := heap_set98 (i := 0) (.slice (some A') M M) hblk2
 have k1' : (w2.setCell ⟨b, 0, none⟩ (.slice (some A') M M)).cell? ⟨b, 1, none⟩ = some (.bool wg) := cell_at hs1 rfl
 have f1' : (w2.setCell ⟨b, 0, none⟩ (.slice (some A') M M)).frozen? ⟨b, 1, none⟩ = false := free_at hs1
 have HS1 := Lib.hid hs1
 have HO := Lib.hid (ho.trans (Only.set b 0 w2 (.slice (some A') M M)))
 clear hb hblk2 ho hs1 hg hb0 hgl c0
 cases wg <;> cases F
 all_goals
  go_wp2_with fail
  go_ret
  exact HT.out _ _ (heap_set98 _ HS1.out) (HO.out.trans (Only.set _ _ _ _))
end Go.Proofs.YtdimmlljjmmdbaaGreatDoor
/-
 DERIVED: THE SHELF's CONTRACTS AT THIS DUMP, IN PLAIN WORDS (tools/lay-plain.mjs out of 'TryzShelf.lean', which tools/lay-shelf.mjs wrote): THE SAME DECLARATIONS UNDER THE SAME NAMES: 'import', 'namespace', 'open', 'def', 'theorem' AND NOTHING ELSE: no command of the shelf's: FOR A HAND-IN. Each laying: the table of numbers ('.._ren') and one theorem, a field a fact of the dump's own or the kernel's comparison; each contract: ONE APPLICATION.
-/
namespace Go.Proofs
open Go.Shelf
def Tryz.lays137_ren : Go.Shelf.Ren := ⟨fun | 137 => 165 | 217 => 179 | 266 => 191 | n => n, fun | 9 => 9 | 5 => 5 | 3 => 3 | n => n, fun | n => n⟩
theorem Tryz.lays137 : Go.Proofs.Lays.n137 Tryz.prog Tryz.lays137_ren := {
 mixed := by kernel_rfl
 f137 := Tryz.func165.trans (congrArg some (by kernel_rfl))
 f217 := Tryz.func179.trans (congrArg some (by kernel_rfl))
 f266 := Tryz.func191.trans (congrArg some (by kernel_rfl))
 t3 := Tryz.underlying3
 a3 := Tryz.isAgg3
 z3 := Tryz.sizeOf3
 v3 := Tryz.zeroValue3
 t5 := Tryz.underlying5
 a5 := Tryz.isAgg5
 z5 := Tryz.sizeOf5
 v5 := Tryz.zeroValue5
 t9 := Tryz.underlying9
 a9 := Tryz.isAgg9
 z9 := Tryz.sizeOf9
 v9 := Tryz.zeroValue9 }
open Go.RowKit in
/-- strings.IndexByte: "IndexByte returns the index of the first instance of c in s, or -1 if c is not present in s.": IT RETURNS 'Lib.indexByte s c'; the world is as it was. (LAID: no walk: one application.) -/
theorem Tryz.strings_IndexByte (s : ByteArray) (c : Int) (w : World) :
  Calls Tryz.prog 165 #[.string s, .int .u8 c] w fun e w' => e = .returned (.int .i64 (Lib.indexByte s.data.toList c.toNat.toUInt8)) ∧ w' = w := Any.strings_IndexByte Tryz.lays137 s c w
def Tryz.lays104_ren : Go.Shelf.Ren := ⟨fun | 104 => 137 | 211 => 166 | 207 => 180 | n => n, fun | 9 => 9 | 4 => 4 | 24 => 197 | 3 => 3 | n => n, fun | n => n⟩
theorem Tryz.lays104 : Go.Proofs.Lays.n104 Tryz.prog Tryz.lays104_ren := {
 mixed := by kernel_rfl
 f104 := Tryz.func137.trans (congrArg some (by kernel_rfl))
 f207 := Tryz.func180.trans (congrArg some (by kernel_rfl))
 f211 := Tryz.func166.trans (congrArg some (by kernel_rfl))
 t3 := Tryz.underlying3
 a3 := Tryz.isAgg3
 z3 := Tryz.sizeOf3
 v3 := Tryz.zeroValue3
 t4 := Tryz.underlying4
 a4 := Tryz.isAgg4
 z4 := Tryz.sizeOf4
 v4 := Tryz.zeroValue4
 t9 := Tryz.underlying9
 a9 := Tryz.isAgg9
 z9 := Tryz.sizeOf9
 v9 := Tryz.zeroValue9
 t24 := Tryz.underlying197
 a24 := Tryz.isAgg197
 z24 := Tryz.sizeOf197
 v24 := Tryz.zeroValue197 }
open Go.RowKit in
/-- strings.CutSuffix: "CutSuffix returns s without the provided ending suffix string and reports whether it found the suffix. If s doesn't end with suffix, CutSuffix returns s, false. If suffix is the empty string, CutSuffix returns s, true.": IT RETURNS '(Lib.trimSuffix s p, Lib.hasSuffix s p)'; the world is as it was. (LAID: no walk: one application.) -/
theorem Tryz.strings_CutSuffix (s p : ByteArray) (w : World) (hs : s.size ≤ 9223372036854775807) :
  Calls Tryz.prog 137 #[.string s, .string p] w fun e w' => e = .returned (.tuple #[.string ⟨(Lib.trimSuffix s.data.toList p.data.toList).toArray⟩, .bool (Lib.hasSuffix s.data.toList p.data.toList)]) ∧ w' = w := Any.strings_CutSuffix Tryz.lays104 s p w hs
def Tryz.lays146_ren : Go.Shelf.Ren := ⟨fun | 146 => 167 | 221 => 181 | 268 => 192 | 138 => 193 | 143 => 194 | 195 => 202 | 197 => 203 | 218 => 204 | 219 => 205 | 260 => 211 | 217 => 179 | 225 => 212 | 224 => 213 | 267 => 214 | 266 => 191 | 314 => 217 | n => n, fun | 9 => 9 | 31 => 140 | 3 => 3 | 4 => 4 | 0 => 0 | 105 => 273 | 21 => 21 | 5 => 5 | 46 => 235 | 119 => 280 | 139 => 283 | 138 => 282 | 146 => 254 | 51 => 253 | n => n, fun | 1 => 1 | 3 => 3 | 4 => 4 | n => n⟩
theorem Tryz.lays146 : Go.Proofs.Lays.n146 Tryz.prog Tryz.lays146_ren := {
 mixed := by kernel_rfl
 f138 := Tryz.func193.trans (congrArg some (by kernel_rfl))
 f143 := Tryz.func194.trans (congrArg some (by kernel_rfl))
 f146 := Tryz.func167.trans (congrArg some (by kernel_rfl))
 f195 := Tryz.func202.trans (congrArg some (by kernel_rfl))
 f197 := Tryz.func203.trans (congrArg some (by kernel_rfl))
 f217 := Tryz.func179.trans (congrArg some (by kernel_rfl))
 f218 := Tryz.func204.trans (congrArg some (by kernel_rfl))
 f219 := Tryz.func205.trans (congrArg some (by kernel_rfl))
 f221 := Tryz.func181.trans (congrArg some (by kernel_rfl))
 f224 := Tryz.func213.trans (congrArg some (by kernel_rfl))
 f225 := Tryz.func212.trans (congrArg some (by kernel_rfl))
 f260 := Tryz.func211.trans (congrArg some (by kernel_rfl))
 f266 := Tryz.func191.trans (congrArg some (by kernel_rfl))
 f267 := Tryz.func214.trans (congrArg some (by kernel_rfl))
 f268 := Tryz.func192.trans (congrArg some (by kernel_rfl))
 f314 := Tryz.func217.trans (congrArg some (by kernel_rfl))
 t0 := Tryz.underlying0
 a0 := Tryz.isAgg0
 z0 := Tryz.sizeOf0
 v0 := Tryz.zeroValue0
 t3 := Tryz.underlying3
 a3 := Tryz.isAgg3
 z3 := Tryz.sizeOf3
 v3 := Tryz.zeroValue3
 t4 := Tryz.underlying4
 a4 := Tryz.isAgg4
 z4 := Tryz.sizeOf4
 v4 := Tryz.zeroValue4
 t5 := Tryz.underlying5
 a5 := Tryz.isAgg5
 z5 := Tryz.sizeOf5
 v5 := Tryz.zeroValue5
 t9 := Tryz.underlying9
 a9 := Tryz.isAgg9
 z9 := Tryz.sizeOf9
 v9 := Tryz.zeroValue9
 t21 := Tryz.underlying21
 a21 := Tryz.isAgg21
 z21 := Tryz.sizeOf21
 v21 := Tryz.zeroValue21
 t31 := Tryz.underlying140
 a31 := Tryz.isAgg140
 z31 := Tryz.sizeOf140
 v31 := Tryz.zeroValue140
 t46 := Tryz.underlying235
 a46 := Tryz.isAgg235
 z46 := Tryz.sizeOf235
 v46 := Tryz.zeroValue235
 t51 := Tryz.underlying253
 a51 := Tryz.isAgg253
 z51 := Tryz.sizeOf253
 v51 := Tryz.zeroValue253
 t105 := Tryz.underlying273
 a105 := Tryz.isAgg273
 z105 := Tryz.sizeOf273
 v105 := Tryz.zeroValue273
 t119 := Tryz.underlying280
 a119 := Tryz.isAgg280
 z119 := Tryz.sizeOf280
 t138 := Tryz.underlying282
 a138 := Tryz.isAgg282
 z138 := Tryz.sizeOf282
 v138 := Tryz.zeroValue282
 t139 := Tryz.underlying283
 a139 := Tryz.isAgg283
 z139 := Tryz.sizeOf283
 v139 := Tryz.zeroValue283
 t146 := Tryz.underlying254
 a146 := Tryz.isAgg254
 z146 := Tryz.sizeOf254
 v146 := Tryz.zeroValue254
 g1 := by kernel_rfl
 g3 := by kernel_rfl
 g4 := by kernel_rfl }
open Go.RowKit Go.Lib in
/-- strings.Split. (LAID: no walk: one application.) -/
theorem Tryz.strings_Split (s sep : ByteArray) (m : Int) (w : World) (hs : s.size < 4294967281) (hm : w.cell? ⟨1, 0, none⟩ = some (.int .i64 m)) (h1 : 1 ≤ sep.size) :
  Calls Tryz.prog 167 #[.string s, .string sep] w fun e w' =>
   e = .returned (.slice (some ⟨w.heap.size, 0, none⟩) (Lib.countB s sep + 1) (Lib.countB s sep + 1)) ∧ w' = w.alloc (.cells ((Lib.splitB sep 0 (Lib.countB s sep) s).map Value.string).toArray 9) := Any.strings_Split Tryz.lays146 (by kernel_rfl) s sep m w hs hm h1
end Go.Proofs
namespace Go.Proofs.YtdimmlljjmmdbaaGreatDoor
open Go.RowKit Go.Shelf
set_option maxHeartbeats 4000000
set_option maxRecDepth 100000
attribute [local go_sem] Oper.semAt_some
namespace Tx
/-- the first line of a text, with its end; what is left behind it -/
def lineOf (s : List UInt8) : List UInt8 := if Lib.indexByte s 10 = -1 then s else s.take ((Lib.indexByte s 10).toNat + 1)
def restOf (s : List UInt8) : List UInt8 := if Lib.indexByte s 10 = -1 then [] else s.drop ((Lib.indexByte s 10).toNat + 1)
theorem line_miss {s : List UInt8} (h : Lib.indexByte s 10 = -1) : lineOf s = s ∧ restOf s = [] := by unfold lineOf restOf; rw [if_pos h, if_pos h]; exact ⟨rfl, rfl⟩
theorem line_hit {s : List UInt8} {i : Nat} (h : Lib.indexByte s 10 = i) : lineOf s = s.take (i + 1) ∧ restOf s = s.drop (i + 1) := by
 unfold lineOf restOf
 rw [if_neg (by omega), if_neg (by omega), h]; exact ⟨rfl, rfl⟩
theorem bs_pre (l : List UInt8) (i : Nat) : (bs l).extract 0 i = bs (l.take i) := by
 rw [Go.Lib.extract_eq, bs_toList]; simp [bs]
theorem bs_suf (l : List UInt8) (i n : Nat) (hn : n = l.length) : (bs l).extract i n = bs (l.drop i) := by
 subst hn
 rw [Go.Lib.extract_eq, bs_toList, List.take_of_length_le (by simp)]; rfl
end Tx
def cellLen (p : Nat) (w : World) : Nat := match w.cell? ⟨p, 0, none⟩ with | some (.string b) => b.size | _ => 0
theorem cellLen_eq {p : Nat} {w : World} {l : List UInt8} (h : w.cell? ⟨p, 0, none⟩ = some (.string (Tx.bs l))) : cellLen p w = l.length := by unfold cellLen; rw [h]; exact Tx.bs_size l
/-- the iterator of strings.Lines; its text lies in a cell that it turns itself -/
theorem lines_in (n : Nat) (hn : 1 ≤ n) (lr p : Nat) (J J1 : List UInt8 → World → Prop) (Jx : World → Prop)
  (hc : ∀ s W, J s W → W.cell? ⟨p, 0, none⟩ = some (.string (Tx.bs s)) ∧ W.frozen? ⟨p, 0, none⟩ = false)
  (hst : ∀ s W W1, s ≠ [] → J s W → Below W.heap.size W W1 → J1 s (W1.setCell ⟨p, 0, none⟩ (.string (Tx.bs (Tx.restOf s)))))
  (hY : ∀ s W, s ≠ [] → J1 s W → YieldAt Fence.wide (n - 1) Tryz.prog lr #[.string (Tx.bs (Tx.lineOf s))] W fun e W' => (e = .returned (.bool true) ∧ J (Tx.restOf s) W') ∨ (e = .returned (.bool false) ∧ Jx W'))
  (s0 : List UInt8) (hs : s0.length ≤ 1000000) (W : World) (h0 : J s0 W) :
  CallsIn Fence.wide n Tryz.prog 164 #[.func (.yield lr) #[] #[], .pointer (some ⟨p, 0, none⟩)] W fun e W' => (∃ v, e = .returned v) ∧ (J [] W' ∨ Jx W') := by
 have HY := Lib.hid hY
 have HST := Lib.hid hst
 clear hY hst
 refine callsIn_of_wp Tryz.func164 rfl trivial ?_ rfl
 simp only [Tryz.ntmps164, List.size_toArray, List.length_cons, List.length_nil, Nat.reduceAdd, Nat.reduceSub, Array.replicate_succ, Array.replicate_zero, List.push_toArray, List.append_toArray, List.nil_append, List.cons_append]
 gi_wp2
 gi_loopw [] (fun wr => ∃ s : List UInt8, s.length ≤ 1000000 ∧ J s wr) (fun wr => cellLen p wr)
 case atStart => exact ⟨s0, hs, h0⟩
 case round =>
  obtain ⟨s, hsl, hJ⟩ := hrel
  obtain ⟨k0, f0⟩ := hc s wr hJ
  have hsz := Tx.bs_size s
  have HCL := Lib.hid (cellLen_eq k0)
  by_cases hs0 : s = []
  ·subst hs0
   have hz : (Tx.bs []).size = 0 := rfl
   gi_wp2
   go_end0
   exact ⟨⟨_, rfl⟩, .inl hJ⟩
  ·have hpos : 0 < s.length := List.length_pos_iff.2 hs0
   obtain ⟨S, hS⟩ : ∃ S, S = Tx.bs s := ⟨_, rfl⟩
   rw [← hS] at k0 hsz
   have hp2 : (0 : Int) < (S.size : Int) := by omega
   rcases Tx.indexByte_cases s 10 with hi | ⟨i, hi⟩
   ·have H169 : Hid (∀ W, Calls Tryz.prog 165 #[.string S, .int .u8 10] W fun e w' => e = .returned (.int .i64 (-1)) ∧ W = w') := Lib.hid (fun W => by
     have := (Tryz.strings_IndexByte S 10 W).mono (fun e w' h => (⟨h.1, h.2.symm⟩ : _ ∧ W = w'))
     rw [hS] at this ⊢
     rw [show (Lib.indexByte (Tx.bs s).data.toList (10 : Int).toNat.toUInt8) = -1 from hi] at this
     exact this)
    obtain ⟨hl, hr⟩ := Tx.line_miss hi
    have hJ1 := HST.out s wr wr hs0 hJ (Below.refl _ _)
    rw [hr] at hJ1
    obtain ⟨fn, tmps, assign, body, hy, hR⟩ := HY.out s _ hs0 hJ1
    rw [hl, ← hS] at hy
    rw [hr] at hR
    have HJr : Hid (∀ W', J [] W' → cellLen p W' < cellLen p wr) := Lib.hid (fun W' hW' => by
     rw [cellLen_eq (hc _ _ hW').1, HCL.out]; simpa using hpos)
    have he : Tx.bs [] = { data := #[] } := rfl
    rw [he] at hy hR
    clear hJ1 hi hl hr hS hc hJ hs0 he
    gi_wp2_with (refine ⟨trivial, ?_⟩; gi_at_call 165; refine (callsIn_wide.2 (H169.out _)).mono ?_; rintro e w' ⟨rfl, rfl⟩)
    refine hR.mono ?_
    rintro e W3 (⟨rfl, hJ3⟩ | ⟨rfl, hJx3⟩)
    ·have HJ3 := Lib.hid hJ3
     clear hJ3 hy hR
     gi_wp2
     go_roundw
     case rel => exact ⟨[], by simp, HJ3.out⟩
     case measure => exact HJr.out _ HJ3.out
    ·gi_wp2
     refine bodyPost_ret (results_none rfl _ _ _) rfl ?_
     exact ⟨⟨_, rfl⟩, .inr hJx3⟩
   ·obtain ⟨hil, _, _⟩ := Tx.indexByte_some hi
    have H169 : Hid (∀ W, Calls Tryz.prog 165 #[.string S, .int .u8 10] W fun e w' => e = .returned (.int .i64 i) ∧ W = w') := Lib.hid (fun W => by
     have := (Tryz.strings_IndexByte S 10 W).mono (fun e w' h => (⟨h.1, h.2.symm⟩ : _ ∧ W = w'))
     rw [hS] at this ⊢
     rw [show (Lib.indexByte (Tx.bs s).data.toList (10 : Int).toNat.toUInt8) = i from hi] at this
     exact this)
    obtain ⟨hl, hr⟩ := Tx.line_hit hi
    have hi1 : (i : Int) + 1 ≤ (S.size : Int) := by omega
    have hi0 : (0 : Int) ≤ (i : Int) := by omega
    have hiw : IntKind.i64.wrap ((i : Int) + 1) = (i : Int) + 1 := by rw [IntKind.wrap_i64]; omega
    have hit : ((i : Int) + 1).toNat = i + 1 := by omega
    have hx1 : S.extract 0 (i + 1) = Tx.bs (Tx.lineOf s) := by rw [hS, hl]; exact Tx.bs_pre _ _
    have hx2 : S.extract (i + 1) S.size = Tx.bs (Tx.restOf s) := by rw [hsz, hS, hr]; exact Tx.bs_suf _ _ _ rfl
    obtain ⟨LN, hLN⟩ : ∃ L, L = Tx.bs (Tx.lineOf s) := ⟨_, rfl⟩
    obtain ⟨RS, hRS⟩ : ∃ L, L = Tx.bs (Tx.restOf s) := ⟨_, rfl⟩
    have HRL : Hid ((Tx.restOf s).length < s.length ∧ (Tx.restOf s).length ≤ 1000000) := Lib.hid (by rw [hr, List.length_drop]; omega)
    have HST2 : Hid (∀ W1, Below wr.heap.size wr W1 → YieldAt Fence.wide (n - 1) Tryz.prog lr #[.string LN] (W1.setCell ⟨p, 0, none⟩ (.string RS)) fun e W' => (e = .returned (.bool true) ∧ J (Tx.restOf s) W') ∨ (e = .returned (.bool false) ∧ Jx W')) := Lib.hid (fun W1 hb => by
     rw [hLN, hRS]
     exact HY.out s _ hs0 (HST.out s wr W1 hs0 hJ hb))
    have HJr : Hid (∀ W', J (Tx.restOf s) W' → cellLen p W' < cellLen p wr) := Lib.hid (fun W' hW' => by
     rw [cellLen_eq (hc _ _ hW').1, HCL.out]; exact HRL.out.1)
    have hpl : p < wr.heap.size := cell_lt k0
    rw [← hLN] at hx1
    rw [← hRS] at hx2
    have HX1 := Lib.hid hx1
    have HX2 := Lib.hid hx2
    clear hi hil hl hr hx1 hx2 hLN hRS hS hc hJ hs0 hsz
    gi_wp2_with (refine ⟨trivial, ?_⟩; gi_at_call 165; refine (callsIn_wide.2 (H169.out _)).mono ?_; rintro e w' ⟨rfl, rfl⟩)
    refine wpIn_wide.2 ?_
    refine wp_region_splitG 9 (by kernel_rfl) (by kernel_rfl) ?_
    simp only [List.take_succ_cons, List.take_zero, List.drop_succ_cons, List.drop_zero]
    repeat (go_big_quiet_step ((first | ((rw [if_neg (by omega)]; exact ⟨rfl, rfl⟩)))))
    refine wpQuiet_nil (gw_out ?_)
    intro w1 hb1
    rw [HX1.out, HX2.out]
    have k1 := (hb1.cell (p := ⟨p, 0, none⟩) hpl).trans k0
    have f1 := (hb1.frozen (p := ⟨p, 0, none⟩) hpl).trans f0
    obtain ⟨fn, tmps, assign, body, hy, hR⟩ := HST2.out w1 hb1
    clear HX1 HX2 hb1
    go_wp2
    gi_wp2
    refine hR.mono ?_
    rintro e W3 (⟨rfl, hJ3⟩ | ⟨rfl, hJx3⟩)
    ·have HJ3 := Lib.hid hJ3
     clear hJ3 hy hR
     gi_wp2
     go_roundw
     case rel => exact ⟨Tx.restOf s, HRL.out.2, HJ3.out⟩
     case measure => exact HJr.out _ HJ3.out
    ·gi_wp2
     refine bodyPost_ret (results_none rfl _ _ _) rfl ?_
     exact ⟨⟨_, rfl⟩, .inr hJx3⟩
end Go.Proofs.YtdimmlljjmmdbaaGreatDoor
namespace Go.Proofs.YtdimmlljjmmdbaaGreatDoor
open Go.RowKit Go.Shelf
set_option maxHeartbeats 4000000
set_option maxRecDepth 100000
/-- how a round over the lines may be left -/
def LinePost (B : Nat) (I Ix : World → Prop) (W : World) : Exit → Act → World → Prop
 | .normal, _, W' => KeepsFrom B W W' ∧ I W'
 | .ret, _, W' => KeepsFrom B W W' ∧ Ix W'
 | .exit _, _, _ => False
 | .goto _, _, _ => False
 | .panic _, _, _ => False
 | .outgrown, _, _ => False
/-- 'for text := range strings.Lines(s)': an invariant of what is left of s, and one walk of the body -/
theorem wpIn_lines {ps : Array Tmp} {assign body : Code} {Q : Exit → Act → World → Prop} {a : Act} {w : World} {n : Nat} (hn : 2 ≤ n) {g : Operand} {p : Nat}
  (hg : a.eval g = .func (.func 164) #[] #[.pointer (some ⟨p, 0, none⟩)]) (hps : ps.size = 1) (hpw : p < w.heap.size)
  (I I1 : List UInt8 → World → Prop) (Ix : World → Prop)
  (hI : ∀ s, OwnFrom w.heap.size (fun (_ : Unit) => I s)) (hI1 : ∀ s, OwnFrom w.heap.size (fun (_ : Unit) => I1 s)) (hIx : OwnFrom w.heap.size (fun (_ : Unit) => Ix))
  (hcell : ∀ s W, I s W → W.cell? ⟨p, 0, none⟩ = some (.string (Tx.bs s)) ∧ W.frozen? ⟨p, 0, none⟩ = false)
  (hset : ∀ s W, s ≠ [] → I s W → I1 s (W.setCell ⟨p, 0, none⟩ (.string (Tx.bs (Tx.restOf s)))))
  (s0 : List UInt8) (hs : s0.length ≤ 1000000) (h0 : I s0 w) (a₁ : List UInt8 → Act)
  (hassign : ∀ (l : Nat) (x : List UInt8) (W : World) (K : Act → World → Prop), K (a₁ x) W →
   assign.wpIn (Fence.wide.inRound l) (n - 1 - 1) Tryz.prog (Exit.then K (fun _ _ _ => False)) { tmps := (ps.zip #[.string (Tx.bs x)]).foldl (fun t (p, v) => t.setIfInBounds p v) a.tmps, defers := [] } W)
  (hbody : ∀ (l : Nat) (s : List UInt8) (W : World), s ≠ [] → I1 s W → body.wpIn (Fence.wide.inRound l) (n - 1 - 1) Tryz.prog (LinePost w.heap.size (I (Tx.restOf s)) Ix W) (a₁ (Tx.lineOf s)) W)
  (hdone : ∀ (D : Nat) (W : World), w.heap.size ≤ D → I [] W → W.heap[D]? = some (.deferred (some [])) → Q .normal { a with defers := { target := .collected D, args := #[] } :: a.defers } W)
  (hstop : ∀ (D : Nat) (W : World), w.heap.size ≤ D → Ix W → W.heap[D]? = some (.deferred (some [])) → Code.ret.wpIn Fence.wide n Tryz.prog Q { a with defers := { target := .collected D, args := #[] } :: a.defers } W) :
  (Code.rangeFunc g ps assign body).wpIn Fence.wide n Tryz.prog Q a w := by
 refine wpIn_rangeFunc fun fn hfn => ?_
 obtain ⟨rc, hrc⟩ : ∃ rc : LoopState → Option Code → Loop, rc = fun st pe => { state := st, pending := pe, fn, tmps := a.tmps, params := ps, assign, body, defers := w.heap.size } := ⟨_, rfl⟩
 obtain ⟨W1, hW1⟩ : ∃ W1, W1 = (w.alloc (.deferred (some []))).alloc (.loop (rc .ready none)) := ⟨_, rfl⟩
 have hb1 : Below w.heap.size w W1 := by rw [hW1]; exact below2 _ _ _
 have hrec : LineRec w W1 (rc .ready none) := by
  rw [hW1]
  exact ⟨heap_new (by simp), heap_old (by simp) (heap_new rfl)⟩
 have hgo := lines_in (n - 1) (by omega) (w.heap.size + 1) p (fun s W => I s W ∧ LineRec w W (rc .ready none)) (fun s W => I1 s W ∧ LineRec w W (rc .ready none)) (fun W => Ix W ∧ LineRec w W (rc .done (some .ret)))
  (fun s W h => hcell s W h.1)
  (fun s W W2 hne h hb => ⟨hset s W2 hne (own_grow (hI s) h.1 hb), (h.2.grow hb).set _ _ hpw⟩)
  ?hY s0 hs W1 ⟨own_grow (hI s0) h0 hb1, hrec⟩
 case hY =>
  rintro s W hne ⟨hi, hr⟩
  have hy := run_yield (P := Tryz.prog) (args := #[.string (Tx.bs (Tx.lineOf s))]) hr.lp (by rw [hrc]; simpa using hps.symm)
  rw [hrc] at hy
  refine ⟨fn, _, assign, body, hy, roundIn_of_wpIn hfn (hassign _ (Tx.lineOf s) W _ ⟨_, run_beginRound hr.lp (by rw [hrc]), ?_⟩)⟩
  have hr2 := hr.put { rc .ready none with state := .busy }
  refine wpIn_mono (hbody (w.heap.size + 1) s _ hne (own_put (hI1 s) hi hr)) ?_
  rintro e a3 W3 hp
  have fin : ∀ (jump : Option Code), KeepsFrom w.heap.size (W.putObj (w.heap.size + 1) (.loop { rc .ready none with state := .busy })) W3 →
    (Instr.endRound (w.heap.size + 1) jump).run Tryz.prog W3 = .ok (.bool jump.isNone) (W3.putObj (w.heap.size + 1) (.loop (rc (if jump.isNone then .ready else .done) jump))) := fun jump hk => by
   have hl3 := (hr2.kept hk).lp
   rw [hrc] at hl3
   have := run_endRound (P := Tryz.prog) jump hl3
   rw [hrc]
   exact this
  cases e with
  | normal =>
   obtain ⟨hk, hi3⟩ := hp
   exact ⟨_, _, fin none hk, .inl ⟨rfl, own_put (hI _) hi3 (hr2.kept hk), (hr2.kept hk).put _⟩⟩
  | ret =>
   obtain ⟨hk, hi3⟩ := hp
   exact ⟨_, _, fin (some .ret) hk, .inr ⟨rfl, own_put hIx hi3 (hr2.kept hk), (hr2.kept hk).put _⟩⟩
  | exit id => exact hp.elim
  | goto t => exact hp.elim
  | panic ch => exact hp.elim
  | outgrown => exact hp.elim
 have hen : (Instr.enterLoop fn a.tmps ps assign body Fence.wide.round).run Tryz.prog w = .ok (w.heap.size + 1, [{ target := .collected w.heap.size, args := #[] }]) W1 := by
  rw [hW1, hrc]; exact run_enterLoop_outer _ _ _ _ _
 refine ⟨w.heap.size + 1, [{ target := .collected w.heap.size, args := #[] }], W1, { target := .fn (.func 164) #[.pointer (some ⟨p, 0, none⟩)], args := #[.func (.yield (w.heap.size + 1)) #[] #[]] }, W1, 164,
  #[.func (.yield (w.heap.size + 1)) #[] #[]] ++ #[.pointer (some ⟨p, 0, none⟩)], W1, hen, ?_, fun _ _ => trivial, ?_, fun _ => by omega, ?_⟩
 ·simp only [resolve, hg]
  simp [go_sem]
 ·simp [invoke, go_sem, enters_of Tryz.func164 (by kernel_rfl) rfl]
 refine hgo.mono ?_
 rintro e W2 ⟨⟨v, rfl⟩, (⟨hi, hr⟩ | ⟨hx, hr⟩)⟩
 ·exact ⟨none, _, by have := run_endLoop (P := Tryz.prog) hr.lp (by rw [hrc]; simp); rw [hrc] at this; exact this, hdone _ _ (Nat.le_refl _) (own_put (hI _) hi hr) (hr.put _).defd⟩
 ·exact ⟨some .ret, _, by have := run_endLoop (P := Tryz.prog) hr.lp (by rw [hrc]; simp); rw [hrc] at this; exact this, hstop _ _ (Nat.le_refl _) (own_put hIx hx hr) (hr.put _).defd⟩
end Go.Proofs.YtdimmlljjmmdbaaGreatDoor
namespace Go.Proofs.YtdimmlljjmmdbaaGreatDoor
open Go.RowKit Go.Shelf
set_option maxHeartbeats 8000000
set_option maxRecDepth 100000
attribute [local go_sem] Oper.semAt_some
theorem c136 (s : ByteArray) (w : World) : Calls Tryz.prog 136 #[.string s] w fun en w' => en = .returned (.func (.func 164) #[] #[.pointer (some ⟨w.heap.size, 0, none⟩)]) ∧ w' = w.alloc (.cells #[.string s] 9) := by
 go_enter Tryz.func136, Tryz.ntmps136
 go_wp2
 go_ret
 exact ⟨rfl, rfl⟩
theorem Tx.count_one (c : UInt8) : ∀ (n : Nat) (l : List UInt8), l.length ≤ n → Lib.count l [c] = l.count c := by
 intro n
 induction n with
 | zero =>
  intro l h
  obtain rfl : l = [] := List.length_eq_zero_iff.1 (by omega)
  rw [Lib.count_miss (by rw [Tx.index_one]; rfl)]; rfl
 | succ n ih =>
  intro l h
  rcases Tx.indexByte_cases l c with hi | ⟨i, hi⟩
  ·rw [Lib.count_miss (by rw [Tx.index_one]; exact hi), List.count_eq_zero.2 (Tx.indexByte_none hi)]
  ·obtain ⟨h1, h2, h3⟩ := Tx.indexByte_some hi
   rw [Lib.count_hit (by simp) (by rw [Tx.index_one]; exact hi), ih _ (by simp; omega)]
   conv => rhs; rw [h3]
   rw [List.count_append, List.count_eq_zero.2 h2, List.count_cons_self]
   simp [Nat.add_comm]
/-- the words of a line -/
theorem c167 (b : List UInt8) (m : Int) (w : World) (hb : b.length ≤ 1000000) (hm : w.cell? ⟨1, 0, none⟩ = some (.int .i64 m)) :
  Calls Tryz.prog 167 #[.string (Tx.bs b), .string { data := #[32] }] w fun e w' => e = .returned (.slice (some ⟨w.heap.size, 0, none⟩) (Tx.split 32 b).length (Tx.split 32 b).length) ∧ w' = w.alloc (.cells (Tx.cells (Tx.split 32 b)).toArray 9) := by
 have h := Tryz.strings_Split (Tx.bs b) { data := #[32] } m w (by rw [Tx.bs_size]; omega) hm (by decide)
 have hs := Tx.splitB_split 32 (Tx.bs b)
 rw [Tx.bs_toList] at hs
 have hl : Lib.countB (Tx.bs b) { data := #[32] } + 1 = (Tx.split 32 b).length := by
  rw [Tx.split_len, ← Tx.count_one 32 _ b (Nat.le_refl _)]; rfl
 have hc : (Lib.splitB { data := #[32] } 0 (Lib.countB (Tx.bs b) { data := #[32] }) (Tx.bs b)).map Value.string = Tx.cells (Tx.split 32 b) := by
  unfold Tx.cells
  rw [← hs, List.map_map]
  apply List.map_congr_left
  intro x _
  show Value.string x = Value.string (Tx.bs x.data.toList)
  rw [Tx.bs_data]
 rw [hl, hc] at h
 exact h
/-- a line's body, and whether it has its end -/
def Tx.bodyOf (s : List UInt8) : List UInt8 := if Lib.indexByte s 10 = -1 then s else s.take (Lib.indexByte s 10).toNat
def Tx.whole (s : List UInt8) : Bool := decide (Lib.indexByte s 10 ≠ -1)
theorem c137 (s : List UInt8) (w : World) (hs : s.length ≤ 1000000) :
  Calls Tryz.prog 137 #[.string (Tx.bs (Tx.lineOf s)), .string { data := #[10] }] w fun e w' => e = .returned (.tuple #[.string (Tx.bs (Tx.bodyOf s)), .bool (Tx.whole s)]) ∧ w = w' := by
 have hl : (Tx.lineOf s).length ≤ 1000000 := by
  unfold Tx.lineOf
  split
  ·exact hs
  ·rw [List.length_take]; omega
 have h := (Tryz.strings_CutSuffix (Tx.bs (Tx.lineOf s)) { data := #[10] } w (by rw [Tx.bs_size]; omega)).mono (fun e w' h => (⟨h.1, h.2.symm⟩ : _ ∧ w = w'))
 rw [Tx.bs_toList] at h
 have h2 : Lib.hasSuffix (Tx.lineOf s) [10] = Tx.whole s ∧ Lib.trimSuffix (Tx.lineOf s) [10] = Tx.bodyOf s := by
  rcases Tx.indexByte_cases s 10 with hi | ⟨i, hi⟩
  ·have hw : Tx.whole s = false := by unfold Tx.whole; rw [hi]; rfl
   have hb : Tx.bodyOf s = s := by unfold Tx.bodyOf; rw [if_pos hi]
   rw [(Tx.line_miss hi).1, hw, hb]
   have hn : Lib.hasSuffix s [10] = false := by
    unfold Lib.hasSuffix
    rw [Bool.eq_false_iff]
    intro h
    have hsuf := List.isSuffixOf_iff_suffix.1 h
    exact Tx.indexByte_none hi (hsuf.subset (by simp))
   exact ⟨hn, by unfold Lib.trimSuffix; rw [hn]; rfl⟩
  ·have hw : Tx.whole s = true := by unfold Tx.whole; rw [hi]; simp
   have hb : Tx.bodyOf s = s.take i := by unfold Tx.bodyOf; rw [if_neg (by omega), hi]; rfl
   obtain ⟨h1, h2, h3⟩ := Tx.indexByte_some hi
   have hl : Tx.lineOf s = s.take i ++ [10] := by
    rw [(Tx.line_hit hi).1]
    conv => lhs; rw [h3]
    rw [show i + 1 = (s.take i).length + 1 by rw [List.length_take]; omega, List.take_append, List.take_of_length_le (by omega)]
    simp
   rw [hl, hw, hb]
   have hy : Lib.hasSuffix (s.take i ++ [10]) [10] = true := by
    unfold Lib.hasSuffix
    exact List.isSuffixOf_iff_suffix.2 (List.suffix_append _ _)
   exact ⟨hy, by unfold Lib.trimSuffix; rw [hy]; simp⟩
 rw [show ([10] : List UInt8) = ({ data := #[10] } : ByteArray).data.toList from rfl] at h2
 rw [h2.1, h2.2] at h
 exact h
end Go.Proofs.YtdimmlljjmmdbaaGreatDoor
