/- A part of the proofs about chapter 9: contracts of functions and plain laws (PTexts, PTexts2, W80, W81, W82, W83, W84, W85). -/
import Derived.Lib.Split
import Derived.Lib.ItoaNum
import Derived.Lib.Bytealg
import Derived.Deep.RegionWith
import Derived.Test.YtndhjkammoeikaaGreatDoorA01
import Derived.Test.YtndhjkammoeikaaGreatDoorA07
import Derived.Test.YtndhjkammoeikaaGreatDoorA15
set_option linter.all false
/- Plain laws for the texts of entries: cutting, numerals, lines. -/
namespace Go.Proofs.YtndhjkammoeikaaGreatDoor
namespace Tx
open Go.Lib
/-- a text cut at each byte c -/
def split (c : UInt8) : List UInt8 → List (List UInt8)
  | [] => [[]]
  | x :: xs => if x == c then [] :: split c xs else match split c xs with
    | [] => [[x]]
    | y :: ys => (x :: y) :: ys
theorem split_ne (c : UInt8) (l : List UInt8) : split c l ≠ [] := by
  cases l with
  | nil => simp [split]
  | cons x xs =>
    unfold split
    split
    · simp
    · cases h : split c xs <;> simp
theorem split_snoc (c : UInt8) : ∀ (l : List UInt8) (x : UInt8) (pre : List (List UInt8)) (last : List UInt8), split c l = pre ++ [last] →
    split c (l ++ [x]) = if x == c then pre ++ [last] ++ [[]] else pre ++ [last ++ [x]]
  | [], x, pre, last, h => by
    have : pre = [] ∧ last = [] := by
      cases pre with
      | nil => simpa [split, eq_comm] using h
      | cons a t => simp [split] at h
    obtain ⟨rfl, rfl⟩ := this
    by_cases hx : (x == c) = true <;> simp [split, hx]
  | y :: l, x, pre, last, h => by
    rw [List.cons_append]
    unfold split at h ⊢
    by_cases hy : (y == c) = true
    · rw [if_pos hy] at h ⊢
      cases pre with
      | nil =>
        simp at h
        exact absurd h.2 (split_ne c l)
      | cons a t =>
        simp at h
        obtain ⟨rfl, h⟩ := h
        rw [split_snoc c l x t last h]
        split <;> simp
    · rw [if_neg hy] at h ⊢
      cases hs : split c l with
      | nil => exact absurd hs (split_ne c l)
      | cons z zs =>
        rw [hs] at h
        simp only at h
        cases pre with
        | nil =>
          simp at h
          obtain ⟨rfl, rfl⟩ := h
          have := split_snoc c l x [] z (by simpa using hs)
          rw [this]
          by_cases hx : (x == c) = true
          · rw [if_pos hx, if_pos hx]; simp
          · rw [if_neg hx, if_neg hx]; simp
        | cons a t =>
          simp at h
          obtain ⟨rfl, rfl⟩ := h
          have := split_snoc c l x (z :: t) last (by simpa using hs)
          rw [this]
          by_cases hx : (x == c) = true
          · rw [if_pos hx, if_pos hx]; simp
          · rw [if_neg hx, if_neg hx]; simp
theorem split_none {c : UInt8} : ∀ {l : List UInt8}, c ∉ l → split c l = [l]
  | [], _ => rfl
  | x :: xs, h => by
    simp at h
    have hx : ¬ (x == c) = true := by simpa using fun e => h.1 e.symm
    unfold split
    rw [if_neg hx, split_none h.2]
theorem split_app {c : UInt8} : ∀ {a : List UInt8} (b : List UInt8), c ∉ a → split c (a ++ c :: b) = a :: split c b
  | [], b, _ => by simp [split]
  | x :: xs, b, h => by
    simp at h
    have hx : ¬ (x == c) = true := by simpa using fun e => h.1 e.symm
    rw [List.cons_append]
    conv => lhs; unfold split
    rw [if_neg hx, split_app b h.2]
theorem split_mem {c : UInt8} : ∀ {l : List UInt8}, ∀ p ∈ split c l, c ∉ p
  | [], p, h => by simp [split] at h; subst h; simp
  | x :: xs, p, h => by
    unfold split at h
    by_cases hx : (x == c) = true
    · rw [if_pos hx] at h
      rcases List.mem_cons.1 h with rfl | h
      · simp
      · exact split_mem p h
    · rw [if_neg hx] at h
      have hxc : c ≠ x := fun e => hx (by simp [e])
      cases hs : split c xs with
      | nil => exact absurd hs (split_ne c xs)
      | cons z zs =>
        rw [hs] at h
        rcases List.mem_cons.1 h with rfl | h
        · have := split_mem (l := xs) z (by rw [hs]; simp)
          simp [hxc, this]
        · exact split_mem (l := xs) p (by rw [hs]; simp [h])
theorem split_join {c : UInt8} : ∀ (l : List UInt8), (([c] : List UInt8).intercalate (split c l)) = l
  | [] => rfl
  | x :: xs => by
    have ih := split_join (c := c) xs
    unfold split
    split
    · rename_i h
      have h : x = c := by simpa using h
      subst h
      cases hs : split x xs with
      | nil => exact absurd hs (split_ne x xs)
      | cons z zs =>
        rw [hs] at ih
        simp only [List.intercalate] at ih ⊢
        simp [List.intersperse, ih]
    · cases hs : split c xs with
      | nil => exact absurd hs (split_ne c xs)
      | cons z zs =>
        rw [hs] at ih
        simp only [List.intercalate] at ih ⊢
        cases zs with
        | nil => simp at ih ⊢; exact ih
        | cons a t => simp [List.intersperse] at ih ⊢; exact ih
theorem indexByte_none {c : UInt8} {l : List UInt8} (h : indexByte l c = -1) : c ∉ l := by
  induction l with
  | nil => simp
  | cons x xs ih =>
    unfold indexByte at h
    have g := indexByte_ge xs c
    by_cases hx : (x == c) = true
    · rw [if_pos hx] at h; omega
    · rw [if_neg hx] at h
      by_cases hq : (indexByte xs c == -1) = true
      · have := ih (by simpa using hq)
        simp [this]
        intro e; exact hx (by simp [e])
      · rw [if_neg hq] at h; omega
theorem indexByte_some {c : UInt8} {l : List UInt8} {i : Nat} (h : indexByte l c = i) : i < l.length ∧ c ∉ l.take i ∧ l = l.take i ++ c :: l.drop (i + 1) := by
  induction l generalizing i with
  | nil => unfold indexByte at h; omega
  | cons x xs ih =>
    unfold indexByte at h
    have g := indexByte_ge xs c
    by_cases hx : (x == c) = true
    · rw [if_pos hx] at h
      obtain rfl : i = 0 := by omega
      have : x = c := by simpa using hx
      simp [this]
    · rw [if_neg hx] at h
      by_cases hq : (indexByte xs c == -1) = true
      · rw [if_pos hq] at h; omega
      · rw [if_neg hq] at h
        have hq' : indexByte xs c ≠ -1 := by simpa using hq
        obtain ⟨k, rfl⟩ : ∃ k, i = k + 1 := ⟨i - 1, by omega⟩
        obtain ⟨h1, h2, h3⟩ := ih (i := k) (by omega)
        refine ⟨by simp; omega, ?_, ?_⟩
        · simp [h2]; intro e; exact hx (by simp [e])
        · simp; exact h3
theorem indexByte_cases (l : List UInt8) (c : UInt8) : indexByte l c = -1 ∨ ∃ i : Nat, indexByte l c = i := by
  have := indexByte_ge l c
  by_cases h : indexByte l c = -1
  · exact .inl h
  · exact .inr ⟨(indexByte l c).toNat, by omega⟩

/-! what the program's own cutting makes -/
theorem index_one : ∀ (l : List UInt8) (c : UInt8), index l [c] = indexByte l c
  | [], c => rfl
  | x :: xs, c => by
    unfold index indexByte
    rw [index_one xs c]
    have : ([c] : List UInt8).isPrefixOf (x :: xs) = (x == c) := by
      show (c == x && List.isPrefixOf [] xs) = (x == c)
      rw [show (List.isPrefixOf ([] : List UInt8) xs) = true by cases xs <;> rfl, Bool.and_true, Bool.eq_iff_iff, beq_iff_eq, beq_iff_eq]
      exact ⟨Eq.symm, Eq.symm⟩
    rw [this]
theorem split_miss {c : UInt8} {l : List UInt8} (h : indexByte l c = -1) : split c l = [l] := split_none (indexByte_none h)
theorem split_hit {c : UInt8} {l : List UInt8} {i : Nat} (h : indexByte l c = i) : split c l = l.take i :: split c (l.drop (i + 1)) := by
  obtain ⟨_, h2, h3⟩ := indexByte_some h
  conv => lhs; rw [h3]
  exact split_app _ h2
theorem splitK_split (c : UInt8) : ∀ (n : Nat) (l : List UInt8), l.length ≤ n → splitK [c] 0 (count l [c]) l = split c l := by
  intro n
  induction n with
  | zero =>
    intro l h
    obtain rfl : l = [] := List.length_eq_zero_iff.1 (by omega)
    rw [count_miss (by rw [index_one]; rfl)]; rfl
  | succ n ih =>
    intro l h
    rcases indexByte_cases l c with hi | ⟨i, hi⟩
    · rw [count_miss (by rw [index_one]; exact hi), split_miss hi]; rfl
    · obtain ⟨h1, _, _⟩ := indexByte_some hi
      rw [count_hit (by simp) (by rw [index_one]; exact hi), split_hit hi, Nat.add_comm]
      unfold splitK
      rw [index_one, hi, if_neg (by rw [beq_iff_eq]; omega)]
      simp only [Int.toNat_natCast, Nat.add_zero, List.length_cons, List.length_nil, Nat.zero_add]
      rw [ih _ (by rw [List.length_drop]; omega)]
theorem splitB_split (c : UInt8) (s : ByteArray) : (splitB ⟨#[c]⟩ 0 (countB s ⟨#[c]⟩) s).map (·.data.toList) = split c s.data.toList := by
  rw [splitB_data]
  exact splitK_split c _ _ (Nat.le_refl _)
theorem split_len (c : UInt8) : ∀ l : List UInt8, (split c l).length = l.count c + 1
  | [] => rfl
  | x :: xs => by
    have ih := split_len c xs
    unfold split
    by_cases hx : (x == c) = true
    · rw [if_pos hx, List.count_cons, if_pos hx]; simp [ih]
    · rw [if_neg hx, List.count_cons, if_neg hx]
      cases hs : split c xs with
      | nil => exact absurd hs (split_ne c xs)
      | cons z zs => rw [hs] at ih; simpa using ih

/-! numerals -/
def isDig (c : UInt8) : Bool := decide (48 ≤ c.toNat ∧ c.toNat ≤ 57)
def val (l : List UInt8) : Nat := l.foldl (fun n c => 10 * n + (c.toNat - 48)) 0
/-- whether bytes are the numeral of an integer of at most 9 digits -/
def num (l : List UInt8) : Bool := l.all isDig && decide (l.length ≤ 9) && !l.isEmpty && (decide (l.length = 1) || decide (l.head? ≠ some 48))
theorem val_nil : val [] = 0 := rfl
theorem val_snoc (l : List UInt8) (c : UInt8) : val (l ++ [c]) = 10 * val l + (c.toNat - 48) := by simp [val]
theorem isDig_le {c : UInt8} (h : isDig c = true) : 48 ≤ c.toNat ∧ c.toNat ≤ 57 := by simpa [isDig] using h
theorem val_bd : ∀ (k : Nat) (l : List UInt8), l.length = k → l.all isDig = true → val l < 10 ^ k
  | 0, l, h, _ => by
    obtain rfl : l = [] := List.length_eq_zero_iff.1 h
    simp [val]
  | k + 1, l, h, hd => by
    obtain ⟨m, x, rfl⟩ : ∃ m x, l = m ++ [x] := ⟨l.dropLast, l.getLast (by intro e; subst e; simp at h), (List.dropLast_concat_getLast _).symm⟩
    simp at h
    rw [List.all_append, Bool.and_eq_true] at hd
    have := val_bd k m h hd.1
    have hx := isDig_le (c := x) (by simpa using hd.2)
    rw [val_snoc, Nat.pow_succ]
    omega
theorem u8_dig (d : Nat) (h : d < 10) : (UInt8.ofNat (48 + d)).toNat = 48 + d := by
  rw [UInt8.toNat_ofNat']; omega
theorem u8_of {c : UInt8} (h : isDig c = true) : UInt8.ofNat (48 + (c.toNat - 48)) = c := by
  have := isDig_le h
  apply UInt8.toNat_inj.1
  rw [u8_dig _ (by omega)]; omega
theorem isDig_of (d : Nat) (h : d < 10) : isDig (UInt8.ofNat (48 + d)) = true := by
  unfold isDig; rw [u8_dig d h]; simp; omega
theorem dec_all : ∀ u : Nat, (decDigits u).all isDig = true := by
  intro u
  induction u using Nat.strongRecOn with
  | _ u ih =>
    rw [decDigits]
    split
    · simpa using isDig_of u (by omega)
    · rw [List.all_append, ih (u / 10) (by omega)]
      simpa using isDig_of (u % 10) (by omega)
theorem dec_val : ∀ u : Nat, val (decDigits u) = u := by
  intro u
  induction u using Nat.strongRecOn with
  | _ u ih =>
    rw [decDigits]
    split
    · rw [show [UInt8.ofNat (48 + u)] = [] ++ [UInt8.ofNat (48 + u)] from rfl, val_snoc, val_nil, u8_dig u (by omega)]; omega
    · rw [val_snoc, ih (u / 10) (by omega), u8_dig _ (by omega)]; omega
theorem dec_ne (u : Nat) : decDigits u ≠ [] := by
  rw [decDigits]; split <;> simp
theorem dec_head (u : Nat) (h : 10 ≤ u) : (decDigits u).head? ≠ some 48 := by
  induction u using Nat.strongRecOn with
  | _ u ih =>
    rw [decDigits, dif_neg (by omega)]
    cases hd : decDigits (u / 10) with
    | nil => exact absurd hd (dec_ne _)
    | cons a t =>
      simp
      by_cases h2 : 10 ≤ u / 10
      · have := ih (u / 10) (by omega) h2
        rw [hd] at this; simpa using this
      · rw [decDigits, dif_pos (by omega)] at hd
        simp at hd
        rw [← hd.1]
        intro e
        replace e : UInt8.ofNat (48 + u / 10) = 48 := by simpa using e
        have := congrArg UInt8.toNat e
        rw [u8_dig _ (by omega)] at this
        have h48 : (48 : UInt8).toNat = 48 := rfl
        omega
theorem dec_len (u : Nat) (k : Nat) (h : u < 10 ^ (k + 1)) : (decDigits u).length ≤ k + 1 := by
  induction k generalizing u with
  | zero => rw [decDigits, dif_pos (by simpa using h)]; simp
  | succ k ih =>
    rw [decDigits]
    split
    · simp
    · have := ih (u / 10) (by rw [Nat.pow_succ] at h; omega)
      simp; omega
theorem dec_num (u : Nat) (h : u < 1000000000) : num (decDigits u) = true := by
  unfold num
  rw [dec_all, decide_eq_true (dec_len u 8 (by simpa using h))]
  have hne := dec_ne u
  by_cases h2 : u < 10
  · rw [decDigits, dif_pos h2]; simp
  · rw [decide_eq_true (dec_head u (by omega))]
    simp [hne]
theorem dec_of : ∀ (k : Nat) (l : List UInt8), l.length = k → l.all isDig = true → l ≠ [] → (l.length = 1 ∨ l.head? ≠ some 48) → decDigits (val l) = l ∧ (l.head? ≠ some 48 → 1 ≤ val l)
  | 0, l, h, _, hn, _ => absurd (List.length_eq_zero_iff.1 h) hn
  | k + 1, l, h, hd, hn, hh => by
    obtain ⟨m, x, rfl⟩ : ∃ m x, l = m ++ [x] := ⟨l.dropLast, l.getLast hn, (List.dropLast_concat_getLast _).symm⟩
    rw [List.all_append, Bool.and_eq_true] at hd
    have hx : isDig x = true := by simpa using hd.2
    have hb := isDig_le hx
    cases m with
    | nil =>
      rw [val_snoc, val_nil, decDigits, dif_pos (by omega)]
      refine ⟨by simp [u8_of hx], fun h0 => ?_⟩
      have : x ≠ 48 := by simpa using h0
      have : x.toNat ≠ 48 := fun e => this (UInt8.toNat_inj.1 (by rw [e]; rfl))
      omega
    | cons a t =>
      have hh' : (a :: t).head? ≠ some 48 := by
        rcases hh with h1 | h1
        · simp at h1
        · simpa using h1
      obtain ⟨h1, h2⟩ := dec_of k (a :: t) (by simpa using h) hd.1 (by simp) (.inr hh')
      have h3 := h2 hh'
      rw [val_snoc, decDigits, dif_neg (by omega), show (10 * val (a :: t) + (x.toNat - 48)) / 10 = val (a :: t) by omega, show (10 * val (a :: t) + (x.toNat - 48)) % 10 = x.toNat - 48 by omega, h1, u8_of hx]
      exact ⟨rfl, fun _ => by omega⟩
theorem num_dec {l : List UInt8} (h : num l = true) : decDigits (val l) = l := by
  unfold num at h
  simp only [Bool.and_eq_true, Bool.or_eq_true, decide_eq_true_eq, Bool.not_eq_true', List.isEmpty_eq_false_iff] at h
  exact (dec_of _ l rfl h.1.1.1 h.1.2 h.2).1
theorem num_val {l : List UInt8} (h : num l = true) : val l < 1000000000 := by
  unfold num at h
  simp only [Bool.and_eq_true, Bool.or_eq_true, decide_eq_true_eq, Bool.not_eq_true', List.isEmpty_eq_false_iff] at h
  have := val_bd _ l rfl h.1.1.1
  have h9 : 10 ^ l.length ≤ 10 ^ 9 := Nat.pow_le_pow_right (by decide) h.1.1.2
  omega
end Tx
end Go.Proofs.YtndhjkammoeikaaGreatDoor
/- Plain laws for the texts of entries: what is parsed, what is printed. -/
namespace Go.Proofs.YtndhjkammoeikaaGreatDoor
namespace Tx
open Go.Lib
theorem num_ne {l : List UInt8} (h : num l = true) : l ≠ [] := by
  unfold num at h
  simp only [Bool.and_eq_true, Bool.or_eq_true, decide_eq_true_eq, Bool.not_eq_true', List.isEmpty_eq_false_iff] at h
  exact h.1.2
theorem num_nil : num [] = false := rfl
/-- the entry of a line -/
def pline (b : List UInt8) : Option Ent :=
  match split 32 b with
  | [x, y, z] => if num x && num y && !z.isEmpty then some ⟨val x, val y, ⟨z.toArray⟩⟩ else none
  | _ => none
/-- the entries of the lines ahead of the first wrong one -/
def good : List (List UInt8) → List Ent
  | [] => []
  | b :: r => match pline b with
    | some e => e :: good r
    | none => []
theorem good_len : ∀ ls, (good ls).length ≤ ls.length
  | [] => Nat.le_refl _
  | b :: r => by
    unfold good
    have := good_len r
    cases pline b <;> simp <;> omega
theorem good_app : ∀ (a b : List (List UInt8)), (good a).length = a.length → good (a ++ b) = good a ++ good b
  | [], b, _ => rfl
  | x :: a, b, h => by
    rw [List.cons_append]
    have e1 : ∀ r, good (x :: r) = match pline x with | some e => e :: good r | none => [] := fun _ => rfl
    rw [e1] at h
    rw [e1, e1]
    cases hp : pline x with
    | none => rw [hp] at h; simp at h
    | some e =>
      rw [hp] at h
      simp at h ⊢
      exact good_app a b h
theorem good_one {b : List UInt8} {e : Ent} (h : pline b = some e) : good [b] = [e] := by unfold good; rw [h]; rfl
theorem good_next {a : List (List UInt8)} {b : List UInt8} {e : Ent} (h : (good a).length = a.length) (hb : pline b = some e) :
    good (a ++ [b]) = good a ++ [e] ∧ (good (a ++ [b])).length = (a ++ [b]).length := by
  have := good_app a [b] h
  rw [good_one hb] at this
  exact ⟨this, by rw [this]; simp [h]⟩
/-- the entries of a text, the index of the first wrong line, the error -/
def parse (s : List UInt8) : List Ent × Int × Int :=
  if (good (split 10 s).dropLast).length < (split 10 s).dropLast.length then ([], ((good (split 10 s).dropLast).length : Int), 25)
  else if (split 10 s).getLast? ≠ some [] then ([], ((split 10 s).dropLast.length : Int), 25)
  else if Mo.entries (good (split 10 s).dropLast) ≠ 0 then ([], ((split 10 s).dropLast.length : Int), Mo.entries (good (split 10 s).dropLast))
  else (good (split 10 s).dropLast, 0, 0)
theorem parse_bad {s : List UInt8} {pre more : List (List UInt8)} {b : List UInt8} (h : split 10 s = pre ++ b :: more) (hm : more ≠ []) (hg : (good pre).length = pre.length) (hb : pline b = none) :
    parse s = ([], (pre.length : Int), 25) := by
  have hd : (split 10 s).dropLast = pre ++ b :: more.dropLast := by
    rw [h, List.dropLast_append_of_ne_nil (by simp), List.dropLast_cons_of_ne_nil hm]
  have hgd : good (pre ++ b :: more.dropLast) = good pre := by
    rw [good_app _ _ hg]
    conv => lhs; rhs; unfold good
    rw [hb]; simp
  unfold parse
  rw [hd, hgd, hg, if_pos (by simp)]
theorem parse_last {s : List UInt8} {pre : List (List UInt8)} {b : List UInt8} (h : split 10 s = pre ++ [b]) (hm : b ≠ []) (hg : (good pre).length = pre.length) :
    parse s = ([], (pre.length : Int), 25) := by
  unfold parse
  rw [h, List.dropLast_concat, hg, if_neg (by omega), if_pos (by simp [hm])]
theorem parse_end {s : List UInt8} {pre : List (List UInt8)} (h : split 10 s = pre ++ [[]]) (hg : (good pre).length = pre.length) :
    parse s = if Mo.entries (good pre) ≠ 0 then ([], (pre.length : Int), Mo.entries (good pre)) else (good pre, 0, 0) := by
  unfold parse
  rw [h, List.dropLast_concat, hg, if_neg (by omega), if_neg (by simp)]
/-- what is parsed has been cut as it is -/
theorem parse_zero {s : List UInt8} {i : Int} {y : List Ent} (h : parse s = (y, i, 0)) : i = 0 ∧ Mo.entries y = 0 ∧ ∃ pre, split 10 s = pre ++ [[]] ∧ good pre = y ∧ pre.length = y.length := by
  unfold parse at h
  split at h
  · simp at h
  · rename_i h1
    split at h
    · simp at h
    · rename_i h2
      split at h
      · rename_i h3
        simp at h
        exact absurd h.2.2 h3
      · rename_i h3
        simp at h h3
        obtain ⟨h4, h5⟩ := h
        refine ⟨h5.symm, by rw [← h4]; exact h3, (split 10 s).dropLast, ?_, h4, ?_⟩
        · have hne := split_ne 10 s
          have e := List.dropLast_concat_getLast hne
          have : (split 10 s).getLast hne = [] := by
            rw [List.getLast?_eq_some_getLast hne] at h2
            simpa using h2
          rw [this] at e
          exact e.symm
        · have := good_len (split 10 s).dropLast
          rw [← h4]
          omega

/-! the taker -/
def wd : List (List UInt8) → List UInt8
  | [] => []
  | x :: _ => x
def tl : List (List UInt8) → List (List UInt8)
  | [] => []
  | x :: r => if x.isEmpty then [] else r
def bad (ws : List (List UInt8)) : Bool := (wd ws).isEmpty
theorem bad_num {ws : List (List UInt8)} (h : bad ws = true) : num (wd ws) = false := by
  have : wd ws = [] := by simpa [bad] using h
  rw [this]; rfl
theorem tk_none {b : List UInt8} {f t : Bool} (hf : f = num (wd (split 32 b))) (ht : t = num (wd (tl (split 32 b))))
    (h : (f && t && !(bad (tl (tl (split 32 b)))) && (tl (tl (tl (split 32 b)))).isEmpty) = false) : pline b = none := by
  subst hf ht
  unfold pline
  split
  · rename_i x y z hs
    rw [hs] at h
    rw [if_neg]
    intro hh
    simp only [Bool.and_eq_true] at hh
    obtain ⟨⟨h1, h2⟩, h3⟩ := hh
    have n1 : x.isEmpty = false := by simpa using num_ne h1
    have n2 : y.isEmpty = false := by simpa using num_ne h2
    have n3 : z.isEmpty = false := by simpa using h3
    simp [wd, tl, bad, n1, n2, n3, h1, h2] at h
  · rfl
theorem tk_some {b : List UInt8} (h1 : num (wd (split 32 b)) = true) (h2 : num (wd (tl (split 32 b))) = true) (h3 : bad (tl (tl (split 32 b))) = false) (h4 : (tl (tl (tl (split 32 b)))).isEmpty = true) :
    pline b = some ⟨val (wd (split 32 b)), val (wd (tl (split 32 b))), ⟨(wd (tl (tl (split 32 b)))).toArray⟩⟩ := by
  unfold pline
  match hs : split 32 b with
  | [] => exact absurd hs (split_ne _ _)
  | x :: r =>
    rw [hs] at h1 h2 h3 h4
    have n1 : x.isEmpty = false := by simpa [wd] using num_ne h1
    simp only [wd, tl, n1] at h1 h2 h3 h4 ⊢
    simp only [Bool.false_eq_true, if_false] at h2 h3 h4 ⊢
    match r with
    | [] => simp [wd, num_nil] at h2
    | y :: r =>
      have n2 : y.isEmpty = false := by simpa [wd] using num_ne h2
      simp only [wd, tl, n2, Bool.false_eq_true, if_false] at h2 h3 h4 ⊢
      match r with
      | [] => simp [bad, wd] at h3
      | z :: r =>
        have n3 : z.isEmpty = false := by simpa [bad, wd] using h3
        simp only [wd, tl, n3, Bool.false_eq_true, if_false] at h4 ⊢
        match r with
        | [] => simp [h1, h2, n3]
        | _ :: _ => simp at h4

/-! what is printed -/
def body (e : Ent) : List UInt8 := itoa e.f ++ 32 :: (itoa e.t ++ 32 :: e.c.data.toList)
def line (e : Ent) : List UInt8 := body e ++ [10]
def text (l : List Ent) : List UInt8 := l.flatMap line
theorem dig_ne {c x : UInt8} (h : isDig c = true) (hx : x.toNat < 48) : c ≠ x := by
  intro e; subst e
  have := isDig_le h
  omega
theorem dec_mem (u : Nat) (x : UInt8) (hx : x.toNat < 48) : x ∉ decDigits u := by
  intro h
  have := List.all_eq_true.1 (dec_all u) x h
  exact dig_ne this hx rfl
theorem itoa_nat {n : Int} (h : 0 ≤ n) : itoa n = decDigits n.toNat := by unfold itoa; rw [if_neg (by omega)]
theorem itoa_mem {n : Int} (h : 0 ≤ n) (x : UInt8) (hx : x.toNat < 48) : x ∉ itoa n := by rw [itoa_nat h]; exact dec_mem _ _ hx
theorem cause_mem {c : ByteArray} (h : 0 ≤ Mo.num c) : (10 : UInt8) ∉ c.data.toList ∧ (32 : UInt8) ∉ c.data.toList ∧ c.data.toList ≠ [] := by
  rcases num_cases c with rfl | rfl | rfl | rfl | rfl | rfl | h'
  · decide
  · decide
  · decide
  · decide
  · decide
  · decide
  · rw [_root_.Go.Proofs.YtndhjkammoeikaaGreatDoor.num_ne c h'] at h; cases h
theorem body_mem {e : Ent} (h : Mo.EOk e) : (10 : UInt8) ∉ body e := by
  obtain ⟨h1, h2⟩ := h
  have hc := cause_mem h2.1
  unfold body
  simp only [List.mem_append, List.mem_cons, not_or]
  exact ⟨itoa_mem (by omega) _ (by decide), by decide, itoa_mem (by omega) _ (by decide), by decide, hc.1⟩
theorem body_split {e : Ent} (h : Mo.EOk e) : split 32 (body e) = [itoa e.f, itoa e.t, e.c.data.toList] := by
  obtain ⟨h1, h2⟩ := h
  have hc := cause_mem h2.1
  unfold body
  rw [split_app _ (itoa_mem (by omega) _ (by decide)), split_app _ (itoa_mem (by omega) _ (by decide)), split_none hc.2.1]
theorem itoa_num {n : Int} (h0 : 0 ≤ n) (h1 : n < 1000000000) : num (itoa n) = true ∧ (val (itoa n) : Int) = n := by
  rw [itoa_nat h0]
  exact ⟨dec_num _ (by omega), by rw [dec_val]; omega⟩
theorem body_pline {e : Ent} (h : Mo.EOk e) : pline (body e) = some e := by
  have hs := body_split h
  obtain ⟨h1, h2⟩ := h
  have hc := cause_mem h2.1
  obtain ⟨a1, a2⟩ := itoa_num (n := e.f) (by omega) (by omega)
  obtain ⟨b1, b2⟩ := itoa_num (n := e.t) (by omega) (by omega)
  unfold pline
  rw [hs]
  simp only [a1, b1, a2, b2, Bool.and_true, Bool.true_and]
  rw [if_pos (by simpa using hc.2.2)]
theorem text_split : ∀ {l : List Ent}, (∀ e ∈ l, Mo.EOk e) → split 10 (text l) = l.map body ++ [[]]
  | [], _ => rfl
  | e :: l, h => by
    have he := h e (by simp)
    show split 10 ((body e ++ [10]) ++ text l) = _
    rw [List.append_assoc, List.singleton_append, split_app _ (body_mem he), text_split (fun x hx => h x (by simp [hx]))]
    rfl
theorem good_bodies : ∀ {l : List Ent}, (∀ e ∈ l, Mo.EOk e) → good (l.map body) = l
  | [], _ => rfl
  | e :: l, h => by
    show good (body e :: l.map body) = _
    unfold good
    rw [body_pline (h e (by simp))]
    simp [good_bodies (l := l) (fun x hx => h x (by simp [hx]))]
theorem parse_text {l : List Ent} (h : Mo.entries l = 0) : parse (text l) = (l, 0, 0) := by
  obtain ⟨_, h2, _⟩ := Mo.entries_ok h
  rw [parse_end (text_split h2) (by rw [good_bodies h2]; simp), good_bodies h2, if_neg (by simpa using h)]
theorem text_snoc (l : List Ent) (e : Ent) : text (l ++ [e]) = text l ++ (body e ++ [10]) := by simp [text, line]
theorem cut_split : ∀ (m : List Ent) (e : Ent), (∀ x ∈ m, Mo.EOk x) → Mo.EOk e → split 10 (text m ++ body e) = m.map body ++ [body e]
  | [], e, _, he => split_none (body_mem he)
  | a :: m, e, hm, he => by
    show split 10 (((body a ++ [10]) ++ text m) ++ body e) = _
    rw [List.append_assoc, List.append_assoc, List.singleton_append, split_app _ (body_mem (hm a (by simp))), cut_split m e (fun x hx => hm x (by simp [hx])) he]
    rfl
theorem parse_cut {l : List Ent} (h : Mo.entries l = 0) (hn : l ≠ []) : parse ((text l).take ((text l).length - 1)) = ([], (l.length : Int) - 1, 25) := by
  obtain ⟨_, h2, _⟩ := Mo.entries_ok h
  obtain ⟨m, e, rfl⟩ : ∃ m e, l = m ++ [e] := ⟨l.dropLast, l.getLast hn, (List.dropLast_concat_getLast _).symm⟩
  have hm : ∀ x ∈ m, Mo.EOk x := fun x hx => h2 x (by simp [hx])
  have he := h2 e (by simp)
  have et : (text (m ++ [e])).take ((text (m ++ [e])).length - 1) = text m ++ body e := by
    rw [text_snoc, ← List.append_assoc, List.length_append]
    rw [List.take_append_of_le_length (by simp), List.take_of_length_le (by simp)]
  have hs := cut_split m e hm he
  have hb : body e ≠ [] := by unfold body; simp
  rw [et, parse_last hs hb (by rw [good_bodies hm]; simp)]
  simp
theorem text_lines {l : List Ent} (h : Mo.entries l = 0) : (split 10 (text l)).length = l.length + 1 := by
  obtain ⟨_, h2, _⟩ := Mo.entries_ok h
  rw [text_split h2]; simp
theorem pline_body {b : List UInt8} {e : Ent} (h : pline b = some e) : body e = b := by
  unfold pline at h
  split at h
  · rename_i x y z hs
    split at h
    · rename_i hc
      simp only [Bool.and_eq_true] at hc
      simp at h
      subst h
      have hj := split_join (c := 32) b
      rw [hs] at hj
      simp [List.intercalate, List.intersperse] at hj
      unfold body
      simp only [itoa_nat (Int.natCast_nonneg _), Int.toNat_natCast, num_dec hc.1.1, num_dec hc.1.2]
      exact hj
    · cases h
  · cases h
theorem good_text : ∀ (pre : List (List UInt8)), (good pre).length = pre.length → text (good pre) = pre.flatMap (· ++ [10])
  | [], _ => rfl
  | b :: r, h => by
    unfold good at h ⊢
    cases hp : pline b with
    | none => rw [hp] at h; simp at h
    | some e =>
      rw [hp] at h
      simp at h ⊢
      show line e ++ text (good r) = _
      rw [good_text r h]
      unfold line
      rw [pline_body hp]
      simp
theorem join_lines : ∀ (pre : List (List UInt8)), ([10] : List UInt8).intercalate (pre ++ [[]]) = pre.flatMap (· ++ [10])
  | [] => rfl
  | b :: r => by
    have ih := join_lines r
    cases r with
    | nil => simp [List.intercalate, List.intersperse]
    | cons a t =>
      simp [List.intercalate, List.intersperse] at ih ⊢
      exact ih
theorem text_parse {s : List UInt8} {i : Int} {y : List Ent} (h : parse s = (y, i, 0)) : text y = s := by
  obtain ⟨_, _, pre, h1, h2, h3⟩ := parse_zero h
  have hj := split_join (c := 10) s
  rw [h1, join_lines] at hj
  rw [← h2, good_text pre (by rw [h2]; exact h3.symm)]
  exact hj
end Tx
end Go.Proofs.YtndhjkammoeikaaGreatDoor
namespace Go.Proofs.YtndhjkammoeikaaGreatDoor
open Go.RowKit
set_option maxHeartbeats 4000000
set_option maxRecDepth 20000
theorem conv1 (W : World) (n : Int) : (convert 247 9 (.slice (some ⟨W.heap.size, 0, none⟩) 1 1)).run Tryz.prog (W.alloc (.cells #[.int .u8 n] 5)) = .ok (.string ⟨#[UInt8.ofNat n.toNat]⟩) (W.alloc (.cells #[.int .u8 n] 5)) :=
  run_convert_bytes_arg _ 247 5 (by kernel_rfl) (by kernel_rfl) W.heap.size 0 1 1 [n] rfl (fun i hi => by
    obtain rfl : i = 0 := by omega
    exact cell_at (heap_new rfl) rfl) 9 (by kernel_rfl)
theorem dec_small (n : Nat) (h : n < 10) : Lib.decDigits n = [UInt8.ofNat (48 + n)] := by rw [Lib.decDigits, dif_pos h]
theorem dec_big (n : Nat) (h : ¬ n < 10) : Lib.decDigits n = Lib.decDigits (n / 10) ++ [UInt8.ofNat (48 + n % 10)] := by rw [Lib.decDigits, dif_neg h]
theorem mk_app (a b : List UInt8) : (⟨a.toArray⟩ : ByteArray) ++ ⟨b.toArray⟩ = ⟨(a ++ b).toArray⟩ := by
  apply ByteArray.ext; simp
theorem c143 : ∀ (n : Nat) (w : World), n ≤ 1000000000 → Calls Tryz.prog 143 #[.int .i64 n] w fun en w' => en = .returned (.string ⟨(Lib.decDigits n).toArray⟩) ∧ Below w.heap.size w w' := by
  intro n
  induction n using Nat.strongRecOn with
  | _ n ih =>
  intro w hn
  by_cases h : n < 10
  · rw [dec_small n h]
    have hc := conv1 w (48 + n)
    have hx : (48 + (n : Int)).toNat = 48 + n := by omega
    rw [hx] at hc
    obtain ⟨E, hE⟩ : ∃ E : ByteArray, E = ⟨[UInt8.ofNat (48 + n)].toArray⟩ := ⟨_, rfl⟩
    rw [← hE] at hc ⊢
    clear ih hx hn hE
    go_enter Tryz.func143, Tryz.ntmps143
    go_wp2
    go_ret
    exact ⟨rfl, (Below.refl _ _).alloc (Nat.le_refl _) _⟩
  · rw [dec_big n h]
    obtain ⟨m, hm⟩ : ∃ m, m = n / 10 := ⟨_, rfl⟩
    obtain ⟨r, hr⟩ : ∃ r : Int, r = (n : Int) % 10 := ⟨_, rfl⟩
    have ih2 := fun w => ih m (by omega) w (by omega)
    have hx : (48 + r).toNat = 48 + n % 10 := by omega
    rw [← hm]
    have hap := mk_app (Lib.decDigits m) [UInt8.ofNat (48 + n % 10)]
    obtain ⟨D, hD⟩ : ∃ D : ByteArray, D = ⟨(Lib.decDigits m).toArray⟩ := ⟨_, rfl⟩
    rw [← hD] at hap ih2
    obtain ⟨E, hE⟩ : ∃ E : ByteArray, E = ⟨(Lib.decDigits m ++ [UInt8.ofNat (48 + n % 10)]).toArray⟩ := ⟨_, rfl⟩
    rw [← hE] at hap ⊢
    obtain ⟨F, hF⟩ : ∃ F : ByteArray, F = ⟨[UInt8.ofNat (48 + n % 10)].toArray⟩ := ⟨_, rfl⟩
    rw [← hF] at hap
    have hcv : ∀ (W : World) (g : Nat), W.heap[g]? = some (.cells #[.int .u8 (48 + r)] 5 (0, 0)) → (convert 247 9 (.slice (some ⟨g, 0, none⟩) 1 1)).run Tryz.prog W = .ok (.string F) W := by
      intro W g hg
      have := run_convert_bytes_arg (P := Tryz.prog) W 247 5 (by kernel_rfl) (by kernel_rfl) g 0 1 1 [48 + r] rfl (fun i hi => by
        obtain rfl : i = 0 := by omega
        exact cell_at hg rfl) 9 (by kernel_rfl)
      rw [this, hF]
      unfold strOfNums
      simp only [List.map_cons, List.map_nil, hx]
    have hsz : ¬ 9223372036854775807 < D.size + F.size := by
      have h1 : D.size = (Lib.decDigits m).length := by rw [hD]; simp [ByteArray.size]
      have h2 : F.size = 1 := by rw [hF]; rfl
      have h3 := Tx.dec_len m 9 (by omega)
      omega
    have HSZ := Lib.hid hsz
    clear hsz
    have IH := Lib.hid ih2
    have HCV := Lib.hid hcv
    have HAP := Lib.hid hap
    have hr1 : 0 ≤ r := by omega
    have hr2 : r < 10 := by omega
    have e1 : IntKind.i64.wrap (m : Int) = (m : Int) := by rw [IntKind.wrap_i64]; omega
    have e2 : (n : Int).tmod 10 = r := by rw [Int.tmod_eq_emod_of_nonneg (by omega)]; omega
    have e3 : (n : Int) / 10 = (m : Int) := by omega
    have e4 : (n : Int) % 10 = r := by omega
    have e5 : IntKind.i64.wrap (48 + r) = 48 + r := by rw [IntKind.wrap_i64]; omega
    have e6 : IntKind.u8.wrap (48 + r) = 48 + r := by
      have : IntKind.u8.wrap (48 + r) = (48 + r) % 256 := by rfl
      omega
    clear ih ih2 hD hE hx hn hcv hF hap hm hr
    go_enter Tryz.func143, Tryz.ntmps143
    go_wp2
    refine wp_region_float 3 (w.heap.size) (by kernel_rfl) (by kernel_rfl) (by omega) (fun _ _ d _ _ h => by cases d <;> exact h) ?_
    simp only [List.take_succ_cons, List.take_zero, List.drop_succ_cons, List.drop_zero]
    repeat (first | (refine wpSoft_skip (by rfl) ?_; simp only [Act.put, List.setIfInBounds_toArray, List.set_cons_zero, List.set_cons_succ]) | (refine wpSoft_step ?_ (by rfl) ?_ ?_; rotate_left; (intro wq hq hcq; go_simp; first | exact rfl | exact ⟨rfl, rfl⟩ | (go_at_call 143; exact IH.out _)); simp only [Act.put, List.setIfInBounds_toArray, List.set_cons_zero, List.set_cons_succ]))
    intro w1 hb1
    refine wpRest_step (by rfl) (fun K hK => ?_)
    go_simp
    refine hK _ _ hb1 ?_
    clear hK K
    intro w2 hg2
    have hb2 := hb1.call hg2 rfl
    clear hg2
    refine wpRest_step (by rfl) (fun K hK => ?_)
    go_simp
    refine hK _ _ hb2 ?_
    clear hK K
    intro w3 hg3
    have hb3 := hb2.call hg3 rfl
    clear hg3
    refine wpRest_step (by rfl) (fun K hK => ?_)
    go_simp
    refine hK _ _ hb3 ?_
    clear hK K
    intro w4 hg4
    have hb4 := hb3.call hg4 rfl
    clear hg4
    refine wpRest_step (by rfl) (fun K hK => ?_)
    go_simp
    refine hK _ _ hb4 ?_
    clear hK K
    intro w5 hg5
    have hb5 := hb4.call hg5 rfl
    clear hg5
    refine wpRest_step (by rfl) (fun K hK => ?_)
    go_simp
    have hal := hb5.alloc hb5.size (Obj.cells #[.int .u8 (48 + r)] 5)
    refine hK _ _ hal ?_
    clear hK K
    intro w6 hg6
    have hb6 := hal.call hg6 rfl
    have hT := blkb (heap_new (w := w5) (o := (Obj.cells #[.int .u8 (48 + r)] 5)) rfl) hg6
    have hcv := HCV.out _ _ hT
    clear hal hg6
    refine wpRest_step (by rfl) (fun K hK => ?_)
    go_simp
    refine hK _ _ hb6 ?_
    clear hK K
    intro w7 hg7
    have hb7 := hb6.call hg7 rfl
    clear hg7 hcv hT
    have hap := HAP.out
    refine wpRest_step (by rfl) (fun K hK => ?_)
    go_simp
    rw [if_neg HSZ.out]
    go_simp
    refine hK _ _ hb7 ?_
    clear hK K
    intro w8 hg8
    have hb8 := hb7.call hg8 rfl
    clear hg8 hap
    refine wpRest_step (by rfl) (fun K hK => ?_)
    go_simp
    refine hK _ _ hb8 ?_
    clear hK K
    intro w9 hg9
    have hb9 := hb8.call hg9 rfl
    clear hg9
    show Exit.then _ _ _ _ _
    go_wp2
    go_ret
    exact ⟨rfl, hb9⟩
end Go.Proofs.YtndhjkammoeikaaGreatDoor
namespace Go.Proofs.YtndhjkammoeikaaGreatDoor
open Go.RowKit
set_option maxHeartbeats 4000000
set_option maxRecDepth 20000

theorem mk_size (l : List UInt8) : (⟨l.toArray⟩ : ByteArray).size = l.length := by simp [ByteArray.size]
theorem mk_data (s : ByteArray) : (⟨s.data.toList.toArray⟩ : ByteArray) = s := by cases s; simp
theorem prLine_body (e : Ent) : (Mo.prLine e).data.toList = Tx.line e := by
  unfold Mo.prLine Mo.line3 Tx.line Tx.body
  simp
theorem printV_text (l : List Ent) : Mo.printV l = ⟨(Tx.text l).toArray⟩ := by
  unfold Mo.printV
  congr 2
  have : ∀ xs : List (List UInt8), Lib.join xs [] = xs.flatten := by
    intro xs
    cases xs with
    | nil => rfl
    | cons x r => rw [Lib.join_cons]; simp [Lib.joinTail]
  rw [this]
  unfold Tx.text
  induction l with
  | nil => rfl
  | cons e l ih => simp only [List.map_cons, List.flatten_cons, List.flatMap_cons, ih, prLine_body]
def accT (l : List Ent) (k : Nat) : ByteArray := ⟨(Tx.text (l.take k)).toArray⟩
theorem text_take {l : List Ent} {k : Nat} {e : Ent} (h : l[k]? = some e) : Tx.text (l.take (k + 1)) = Tx.text (l.take k) ++ (Tx.body e ++ [10]) := by
  rw [List.take_succ, h]; exact Tx.text_snoc _ _
theorem acc_step {l : List Ent} {k x y : Nat} {e : Ent} (h : l[k]? = some e) (hx : e.f = x) (hy : e.t = y) :
    ((((((accT l k ++ ⟨(Lib.decDigits x).toArray⟩) ++ { data := #[32] }) ++ ⟨(Lib.decDigits y).toArray⟩) ++ { data := #[32] }) ++ e.c) ++ { data := #[10] }) = accT l (k + 1) := by
  unfold accT
  rw [text_take h]
  unfold Tx.body
  rw [hx, hy, Tx.itoa_nat (Int.natCast_nonneg _), Tx.itoa_nat (Int.natCast_nonneg _)]
  apply ByteArray.ext
  simp
theorem acc_size {l : List Ent} (h : ∀ e ∈ l, Mo.EOk e) (k : Nat) : (accT l k).size ≤ 40 * k := by
  induction k with
  | zero => rw [show accT l 0 = ⟨#[]⟩ from rfl]; decide
  | succ k ih =>
    cases hk : l[k]? with
    | none =>
      have : accT l (k + 1) = accT l k := by
        unfold accT
        have := List.getElem?_eq_none_iff.1 hk
        rw [List.take_of_length_le this, List.take_of_length_le (by omega)]
      rw [this]; omega
    | some e =>
      have he := h e (List.mem_of_getElem? hk)
      obtain ⟨⟨h1, h2, h3⟩, h4, _⟩ := he
      rw [← acc_step (x := e.f.toNat) (y := e.t.toNat) hk (by omega) (by omega)]
      simp only [ByteArray.size_append, mk_size]
      have a1 := Tx.dec_len e.f.toNat 9 (by omega)
      have a2 := Tx.dec_len e.t.toNat 9 (by omega)
      have a3 := Mo.num_size h4
      have b1 : ([32] : List UInt8).length = 1 := rfl
      have b2 : ([10] : List UInt8).length = 1 := rfl
      omega
theorem c78 (A : Option Addr) (cap : Nat) (l : List Ent) (w : World) (h : Mo.entries l = 0) (H : RdL w 3 Ent.enc A l) :
    Calls Tryz.prog 78 #[.slice A l.length cap] w fun en w' => en = .returned (.string ⟨(Tx.text l).toArray⟩) ∧ Below w.heap.size w w' := by
  obtain ⟨h64, hok, _⟩ := Mo.entries_ok h
  obtain ⟨n, hn⟩ : ∃ n, n = l.length := ⟨_, rfl⟩
  rw [← hn] at h64 ⊢
  have Hn := Lib.hid hn
  have HOK := Lib.hid hok
  have H0 := Lib.hid h
  clear hn hok h
  go_enter Tryz.func78, Tryz.ntmps78
  go_wp2
  go_loopw [3, 4] (fun x i wr => ∃ k : Nat, k ≤ n ∧ i = .int .i64 k ∧ x = .string (accT l k) ∧ Below w.heap.size w wr) (fun _ i _ => n - (intOf i).toNat)
  case atStart => exact ⟨0, Nat.zero_le _, rfl, rfl, Below.refl _ _⟩
  case round =>
    obtain ⟨k, hk, rfl, rfl, hB⟩ := hrel
    by_cases hlt : k < n
    · obtain ⟨b, off, e, rfl, hx, hb, hc⟩ := (H.below hB).at Ent.len (by rw [← Hn.out]; exact hlt)
      have q0 : wr.cell? ⟨b, off + k * 3, none⟩ = some (.int .i64 e.f) := hc 0 (by omega)
      have q1 : wr.cell? ⟨b, off + k * 3 + 1, none⟩ = some (.int .i64 e.t) := hc 1 (by omega)
      have q2 : wr.cell? ⟨b, off + k * 3 + 2, none⟩ = some (.string e.c) := hc 2 (by omega)
      clear hc
      obtain ⟨⟨h1, h2, h3⟩, h4, _⟩ := HOK.out e (List.mem_of_getElem? hx)
      obtain ⟨x, hxe⟩ : ∃ x : Nat, e.f = x := ⟨e.f.toNat, by omega⟩
      obtain ⟨y, hye⟩ : ∃ y : Nat, e.t = y := ⟨e.t.toNat, by omega⟩
      have hst := acc_step hx hxe hye
      have sS := acc_size HOK.out k
      have sX : ByteArray.size ⟨(Lib.decDigits x).toArray⟩ ≤ 10 := by rw [mk_size]; exact Tx.dec_len x 9 (by omega)
      have sY : ByteArray.size ⟨(Lib.decDigits y).toArray⟩ ≤ 10 := by rw [mk_size]; exact Tx.dec_len y 9 (by omega)
      have sC := Mo.num_size h4
      have c1 := fun w => c143 x w (by omega)
      have c2 := fun w => c143 y w (by omega)
      rw [hxe] at q0
      rw [hye] at q1
      obtain ⟨X, hX⟩ : ∃ X : ByteArray, X = ⟨(Lib.decDigits x).toArray⟩ := ⟨_, rfl⟩
      obtain ⟨Y, hY⟩ : ∃ X : ByteArray, X = ⟨(Lib.decDigits y).toArray⟩ := ⟨_, rfl⟩
      obtain ⟨S, hS⟩ : ∃ X : ByteArray, X = accT l k := ⟨_, rfl⟩
      obtain ⟨S2, hS2⟩ : ∃ X : ByteArray, X = accT l (k + 1) := ⟨_, rfl⟩
      obtain ⟨C, hC⟩ : ∃ X : ByteArray, X = e.c := ⟨_, rfl⟩
      rw [← hX] at hst sX c1
      rw [← hY] at hst sY c2
      rw [← hS] at hst sS ⊢
      rw [← hS2] at hst
      rw [← hC] at hst sC q2
      have HST := Lib.hid hst
      have HS2 := Lib.hid hS2
      have C1 := Lib.hid c1
      have C2 := Lib.hid c2
      clear hx h1 h2 h3 h4 hxe hye hst c1 c2 hX hY hS hS2 hC H
      go_wp2
      refine wp_region_growG (by kernel_rfl) (by kernel_rfl) ?_
      repeat (go_big_quiet_step ((first | ((rw [if_neg (by omega)]; exact ⟨rfl, rfl⟩)) | (go_at_call_of 143 x; exact Calls.gw_of (C1.out _)) | (go_at_call_of 143 y; exact Calls.gw_of (C2.out _)))))
      refine wpQuiet_nil (gw_out ?_)
      intro w2 hb2
      rw [HST.out, HS2.out]
      go_wp2
      go_roundw
      case rel => exact ⟨k + 1, by omega, by go_num, rfl, hB.call hb2 rfl⟩
      case measure => simp [intOf]; omega
    · obtain rfl : k = n := by omega
      have e : accT l k = ⟨(Tx.text l).toArray⟩ := by unfold accT; rw [List.take_of_length_le (by rw [← Hn.out]; exact Nat.le_refl _)]
      rw [e]
      clear e
      go_wp2
      go_ret
      exact ⟨rfl, hB⟩

end Go.Proofs.YtndhjkammoeikaaGreatDoor
namespace Go.Proofs.YtndhjkammoeikaaGreatDoor
open Go.RowKit
set_option maxHeartbeats 4000000
set_option maxRecDepth 20000

namespace Tx
theorem dig_digI (c : UInt8) : Mo.digI (c.toNat : Int) = isDig c := by
  unfold Mo.digI isDig
  rw [← Bool.decide_and]
  congr 1
  simp
  omega
theorem num_mk {l : List UInt8} (h1 : l.all isDig = true) (h2 : l.length ≤ 9) (h3 : l ≠ []) (h4 : l.length = 1 ∨ l.head? ≠ some 48) : num l = true := by
  unfold num
  rw [h1, decide_eq_true h2, show l.isEmpty = false by simpa using h3]
  rcases h4 with h4 | h4
  · rw [decide_eq_true h4]; rfl
  · rw [decide_eq_true h4]; simp
theorem num_dig {l : List UInt8} {k : Nat} {c : UInt8} (h : l[k]? = some c) (hc : isDig c = false) : num l = false := by
  unfold num
  have : l.all isDig = false := by
    rw [List.all_eq_false]
    exact ⟨c, List.mem_of_getElem? h, by simp [hc]⟩
  rw [this]; rfl
theorem num_long {l : List UInt8} (h : 9 < l.length) : num l = false := by
  unfold num
  rw [decide_eq_false (by omega : ¬ l.length ≤ 9)]; simp
theorem num_zero {l : List UInt8} (h : 1 < l.length) (h0 : l.head? = some 48) : num l = false := by
  unfold num
  rw [decide_eq_false (by omega : ¬ l.length = 1), h0]; simp
def iv (l : List UInt8) : Nat := if l.all isDig && decide (l.length ≤ 9) then val l else 0
theorem iv_num {l : List UInt8} (h : num l = true) : iv l = val l := by
  unfold num at h
  simp only [Bool.and_eq_true, Bool.or_eq_true, decide_eq_true_eq, Bool.not_eq_true', List.isEmpty_eq_false_iff] at h
  unfold iv
  rw [if_pos (by simp [h.1.1.1, h.1.1.2])]
theorem iv_dig {l : List UInt8} {k : Nat} {c : UInt8} (h : l[k]? = some c) (hc : isDig c = false) : iv l = 0 := by
  unfold iv
  have : l.all isDig = false := by
    rw [List.all_eq_false]
    exact ⟨c, List.mem_of_getElem? h, by simp [hc]⟩
  rw [this]; rfl
theorem iv_long {l : List UInt8} (h : 9 < l.length) : iv l = 0 := by
  unfold iv
  rw [decide_eq_false (by omega : ¬ l.length ≤ 9)]; simp
theorem iv_mk {l : List UInt8} (h1 : l.all isDig = true) (h2 : l.length ≤ 9) : iv l = val l := by
  unfold iv; rw [h1, decide_eq_true h2]; rfl
def dv (l : List UInt8) : Nat := if num l then val l else 0
theorem byte_at (s : ByteArray) (k : Nat) (h : k < s.size) : s.data.toList[k]? = some (s[k]'h) := by
  rw [Array.getElem?_toList]
  exact Array.getElem?_eq_getElem h
theorem take_at {l : List UInt8} {k : Nat} {c : UInt8} (h : l[k]? = some c) : l.take (k + 1) = l.take k ++ [c] := by rw [List.take_succ, h]; rfl
theorem all_take {l : List UInt8} {k : Nat} {c : UInt8} (h : l[k]? = some c) (ha : (l.take k).all isDig = true) (hc : isDig c = true) : (l.take (k + 1)).all isDig = true := by
  rw [take_at h, List.all_append, ha]; simp [hc]
theorem val_take {l : List UInt8} {k : Nat} {c : UInt8} (h : l[k]? = some c) : val (l.take (k + 1)) = 10 * val (l.take k) + (c.toNat - 48) := by rw [take_at h, val_snoc]
theorem val_take_bd {l : List UInt8} {k : Nat} (hk : k ≤ 9) (ha : (l.take k).all isDig = true) : val (l.take k) < 1000000000 := by
  have h1 := val_bd _ (l.take k) rfl ha
  have h2 : (l.take k).length ≤ 9 := Nat.le_trans (List.length_take_le _ _) hk
  have := Nat.pow_le_pow_right (n := 10) (by decide) h2
  omega
theorem size_len (s : ByteArray) : s.data.toList.length = s.size := by rw [Array.length_toList]; rfl
theorem head_at (s : ByteArray) (h : 0 < s.size) : s.data.toList.head? = some (s[0]'h) := by
  rw [← byte_at s 0 h]
  cases s.data.toList <;> rfl
end Tx
/-- the reference's Digits -/
theorem c144 (s : ByteArray) (w : World) : Calls Tryz.prog 144 #[.string s] w fun en w' => en = .returned (.tuple #[.int .i64 (Tx.dv s.data.toList), .bool (Tx.num s.data.toList)]) ∧ w = w' := by
  have hl := Tx.size_len s
  have HL := Lib.hid hl
  by_cases h0 : s.size = 0
  · have hn : Tx.num s.data.toList = false := by
      cases hs : s.data.toList with
      | nil => rfl
      | cons a t => rw [hs] at hl; simp at hl; omega
    unfold Tx.dv
    rw [hn]
    have hz : ((s.size : Int) == 0) = true := by simpa using h0
    have hz2 : (s.size == 0) = true := by simpa using h0
    clear hl hn HL
    go_enter Tryz.func144, Tryz.ntmps144
    go_wp2
    go_ret2
    simp
  · by_cases h9 : 9 < s.size
    · have hn : Tx.num s.data.toList = false := Tx.num_long (by omega)
      unfold Tx.dv
      rw [hn]
      have hz : ((s.size : Int) == 0) = false := by simpa using h0
      have hz2 : (s.size == 0) = false := by simpa using h0
      have h9' : (9 : Int) < (s.size : Int) := by omega
      clear hl hn HL h0 h9
      go_enter Tryz.func144, Tryz.ntmps144
      go_wp2
      go_ret2
      simp
    · have hpos : 0 < s.size := by omega
      have hh := Tx.head_at s hpos
      by_cases hz0 : 1 < s.size ∧ s[0]'hpos = 48
      · obtain ⟨h1, hc⟩ := hz0
        have hn : Tx.num s.data.toList = false := Tx.num_zero (by omega) (by rw [hh, hc])
        unfold Tx.dv
        rw [hn]
        have hz : ((s.size : Int) == 0) = false := by simpa using h0
        have hz2 : (s.size == 0) = false := by simpa using h0
        have h9' : (s.size : Int) ≤ 9 := by omega
        have h1' : (1 : Int) < (s.size : Int) := by omega
        have hcc : (((s[0]'hpos).toNat : Int) == 48) = true := by rw [hc]; rfl
        have hcc2 : ((s[0]'hpos).toNat == 48) = true := by rw [hc]; rfl
        clear hl hn HL h0 h9 hh hc
        go_enter Tryz.func144, Tryz.ntmps144
        go_wp2
        go_ret2
        simp
      · have hh4 : s.data.toList.length = 1 ∨ s.data.toList.head? ≠ some 48 := by
          by_cases h1 : s.size = 1
          · left; omega
          · right
            rw [hh]
            intro e
            exact hz0 ⟨by omega, by simpa using e⟩
        have HH4 := Lib.hid hh4
        have hz : ((s.size : Int) == 0) = false := by simpa using h0
        have hz2 : (s.size == 0) = false := by simpa using h0
        have h9' : (s.size : Int) ≤ 9 := by omega
        have hg : (1 < s.size ∧ ((((s[0]'hpos).toNat : Int) == 48) = false ∧ ((s[0]'hpos).toNat == 48) = false)) ∨ s.size = 1 := by
          by_cases h1 : s.size = 1
          · exact .inr h1
          · refine .inl ⟨by omega, ?_⟩
            have hne : s[0]'hpos ≠ 48 := fun e => hz0 ⟨by omega, e⟩
            have : (s[0]'hpos).toNat ≠ 48 := fun e => hne (UInt8.toNat_inj.1 (by rw [e]; rfl))
            exact ⟨by simpa using (by omega : ((s[0]'hpos).toNat : Int) ≠ 48), by simpa using this⟩
        have HH := Lib.hid hh
        clear hl hh4 hz0 hh h0 h9
        rcases hg with ⟨h1, hc1, hc2⟩ | h1
        · have h1' : (1 : Int) < (s.size : Int) := by omega
          go_enter Tryz.func144, Tryz.ntmps144
          go_wp2
          go_loop [4, 5] (fun x i => ∃ k : Nat, k ≤ s.size ∧ i = .int .i64 k ∧ x = .int .i64 (Tx.val (s.data.toList.take k)) ∧ Hid ((s.data.toList.take k).all Tx.isDig = true)) (fun _ i => s.size - (intOf i).toNat)
          case atStart => exact ⟨0, Nat.zero_le _, rfl, rfl, rfl⟩
          case round =>
            obtain ⟨k, hk, rfl, rfl, HA⟩ := hrel
            by_cases hlt : k < s.size
            · have hb := Tx.byte_at s k hlt
              have hvb := Tx.val_take_bd (l := s.data.toList) (k := k) (by omega) HA.out
              by_cases hd : Tx.isDig (s[k]'hlt) = true
              · have hv2 := Lib.hid (Tx.val_take hb)
                have HA2 := Lib.hid (Tx.all_take hb HA.out hd)
                have hle := Tx.isDig_le hd
                have hdi : Mo.digI ((s[k]'hlt).toNat : Int) = true := by rw [Tx.dig_digI]; exact hd
                obtain ⟨V, hV⟩ : ∃ V, V = Tx.val (s.data.toList.take k) := ⟨_, rfl⟩
                rw [← hV] at hv2 hvb ⊢
                have hle1 : (48 : Int) ≤ ((s[k]'hlt).toNat : Int) := by omega
                have hle2 : ((s[k]'hlt).toNat : Int) ≤ 57 := by omega
                clear hb hd hV hle HA
                go_wp2_with fail
                refine (c173 _ _).mono ?_
                rintro e w' ⟨rfl, rfl⟩
                go_wp2
                go_round
                case rel => exact ⟨k + 1, by omega, by go_num, by rw [hv2.out]; simp; omega, HA2⟩
                case measure => simp [intOf]; omega
              · have hd : Tx.isDig (s[k]'hlt) = false := by simpa using hd
                have hn := Tx.num_dig hb hd
                have HN : Hid (Tx.dv s.data.toList = 0 ∧ Tx.num s.data.toList = false) := Lib.hid ⟨by unfold Tx.dv; rw [hn]; rfl, hn⟩
                have hdi : Mo.digI ((s[k]'hlt).toNat : Int) = false := by rw [Tx.dig_digI]; exact hd
                clear hb hd hn HA
                go_wp2_with fail
                refine (c173 _ _).mono ?_
                rintro e w' ⟨rfl, rfl⟩
                go_wp2
                go_ret2
                rw [HN.out.1, HN.out.2]
                exact ⟨rfl, rfl⟩
            · obtain rfl : k = s.size := by omega
              have e := List.take_of_length_le (Nat.le_of_eq HL.out)
              rw [e] at HA ⊢
              have hn : Tx.num s.data.toList = true := Tx.num_mk HA.out (by rw [HL.out]; omega) (by intro h; have := HL.out; rw [h] at this; simp at this; omega) HH4.out
              have HN : Hid (Tx.dv s.data.toList = Tx.val s.data.toList ∧ Tx.num s.data.toList = true) := Lib.hid ⟨by unfold Tx.dv; rw [hn]; rfl, hn⟩
              clear e hn HA
              go_wp2
              go_ret2
              rw [HN.out.1, HN.out.2]
              exact ⟨rfl, rfl⟩
        · have h1' : (s.size : Int) ≤ 1 := by omega
          have H1 := Lib.hid h1
          clear h1
          go_enter Tryz.func144, Tryz.ntmps144
          go_wp2
          go_loop [4, 5] (fun x i => ∃ k : Nat, k ≤ s.size ∧ i = .int .i64 k ∧ x = .int .i64 (Tx.val (s.data.toList.take k)) ∧ Hid ((s.data.toList.take k).all Tx.isDig = true)) (fun _ i => s.size - (intOf i).toNat)
          case atStart => exact ⟨0, Nat.zero_le _, rfl, rfl, rfl⟩
          case round =>
            obtain ⟨k, hk, rfl, rfl, HA⟩ := hrel
            by_cases hlt : k < s.size
            · have hb := Tx.byte_at s k hlt
              have hvb := Tx.val_take_bd (l := s.data.toList) (k := k) (by omega) HA.out
              by_cases hd : Tx.isDig (s[k]'hlt) = true
              · have hv2 := Lib.hid (Tx.val_take hb)
                have HA2 := Lib.hid (Tx.all_take hb HA.out hd)
                have hle := Tx.isDig_le hd
                have hdi : Mo.digI ((s[k]'hlt).toNat : Int) = true := by rw [Tx.dig_digI]; exact hd
                obtain ⟨V, hV⟩ : ∃ V, V = Tx.val (s.data.toList.take k) := ⟨_, rfl⟩
                rw [← hV] at hv2 hvb ⊢
                have hle1 : (48 : Int) ≤ ((s[k]'hlt).toNat : Int) := by omega
                have hle2 : ((s[k]'hlt).toNat : Int) ≤ 57 := by omega
                clear hb hd hV hle HA
                go_wp2_with fail
                refine (c173 _ _).mono ?_
                rintro e w' ⟨rfl, rfl⟩
                go_wp2
                go_round
                case rel => exact ⟨k + 1, by omega, by go_num, by rw [hv2.out]; simp; omega, HA2⟩
                case measure => simp [intOf]; omega
              · have hd : Tx.isDig (s[k]'hlt) = false := by simpa using hd
                have hn := Tx.num_dig hb hd
                have HN : Hid (Tx.dv s.data.toList = 0 ∧ Tx.num s.data.toList = false) := Lib.hid ⟨by unfold Tx.dv; rw [hn]; rfl, hn⟩
                have hdi : Mo.digI ((s[k]'hlt).toNat : Int) = false := by rw [Tx.dig_digI]; exact hd
                clear hb hd hn HA
                go_wp2_with fail
                refine (c173 _ _).mono ?_
                rintro e w' ⟨rfl, rfl⟩
                go_wp2
                go_ret2
                rw [HN.out.1, HN.out.2]
                exact ⟨rfl, rfl⟩
            · obtain rfl : k = s.size := by omega
              have e := List.take_of_length_le (Nat.le_of_eq HL.out)
              rw [e] at HA ⊢
              have hn : Tx.num s.data.toList = true := Tx.num_mk HA.out (by rw [HL.out]; omega) (by intro h; have := HL.out; rw [h] at this; simp at this; omega) HH4.out
              have HN : Hid (Tx.dv s.data.toList = Tx.val s.data.toList ∧ Tx.num s.data.toList = true) := Lib.hid ⟨by unfold Tx.dv; rw [hn]; rfl, hn⟩
              clear e hn HA
              go_wp2
              go_ret2
              rw [HN.out.1, HN.out.2]
              exact ⟨rfl, rfl⟩
end Go.Proofs.YtndhjkammoeikaaGreatDoor
namespace Go.Proofs.YtndhjkammoeikaaGreatDoor
open Go.RowKit
set_option maxHeartbeats 4000000
set_option maxRecDepth 20000

/-- the program's integer -/
theorem c172 (s : ByteArray) (w : World) (hs : s.size ≤ 1000000) : Calls Tryz.prog 172 #[.string s] w fun en w' => en = .returned (.tuple #[.int .i64 (Tx.iv s.data.toList), .bool (Tx.num s.data.toList)]) ∧ Below w.heap.size w w' := by
  have HL := Lib.hid (Tx.size_len s)
  go_enter Tryz.func172, Tryz.ntmps172
  go_wp2
  go_loopg [4] (s.size + 1) (fun g x wr => ∃ pos : Nat, pos + g = s.size + 1 ∧ pos ≤ s.size ∧ wr.heap[w.heap.size]? = some (.stringIter s pos) ∧ Below w.heap.size w wr ∧ x = .int .i64 (Tx.val (s.data.toList.take pos)) ∧ Hid ((s.data.toList.take pos).all Tx.isDig = true) ∧ Hid (pos = 0 ∨ s.size ≤ 9))
  case atStart => exact ⟨0, by omega, Nat.zero_le _, World.iter_heap w s 0, (Below.refl _ _).alloc (Nat.le_refl _) _, rfl, rfl, .inl rfl⟩
  case round =>
    obtain ⟨pos, hpg, hps, hit, hB, rfl, HA, HP⟩ := hrel
    by_cases hp : pos < s.size
    · have hb := Tx.byte_at s pos hp
      by_cases ha : (s[pos]'hp).toNat < 128
      · have hnx : ∀ ty, (Instr.next (.pointer (some ⟨w.heap.size, 0, none⟩)) true ty).run Tryz.prog wr = _ := fun ty => Lib.run_next_ascii_at wr w.heap.size s pos ty hit hp ha
        have hit2 := Lib.iterAt_heap wr w.heap.size s pos (pos + 1) hit
        have hB2 := Lib.below_iterAt hB (k := w.heap.size) (Nat.le_refl _) s (pos + 1)
        obtain ⟨W1, hW1⟩ : ∃ W1, W1 = wr.iterAt w.heap.size s (pos + 1) := ⟨_, rfl⟩
        obtain ⟨c, hc⟩ : ∃ c : Nat, c = (s[pos]'hp).toNat := ⟨_, rfl⟩
        rw [← hc] at hnx ha
        rw [← hW1] at hnx hit2 hB2
        have hdd : Tx.isDig (s[pos]'hp) = decide (48 ≤ c ∧ c ≤ 57) := by unfold Tx.isDig; rw [hc]
        have HB := Lib.hid hb
        have HC := Lib.hid hc
        clear hb hc hW1 hit hB
        rcases (show (0 ≤ c ∧ c ≤ 47) ∨ (48 ≤ c ∧ c ≤ 57) ∨ (58 ≤ c ∧ c ≤ 127) by omega) with h | h | h
        · have f0 : ((c : Int) < 48) := by omega
          have f1 : ¬ (57 < (c : Int)) := by omega
          have hd : Tx.isDig (s[pos]'hp) = false := by rw [hdd]; simp; omega
          have HN : Hid (Tx.iv s.data.toList = 0 ∧ Tx.num s.data.toList = false) := Lib.hid ⟨Tx.iv_dig HB.out hd, Tx.num_dig HB.out hd⟩
          clear h hd hdd
          go_wp2
          go_ret2
          rw [HN.out.1, HN.out.2]
          exact ⟨rfl, hB2⟩
        · have f0 : ¬ ((c : Int) < 48) := by omega
          have f1 : ¬ (57 < (c : Int)) := by omega
          have hd : Tx.isDig (s[pos]'hp) = true := by rw [hdd]; simp; omega
          by_cases h9 : 9 < s.size
          · have h9' : (9 : Int) < (s.size : Int) := by omega
            have HN : Hid (Tx.iv s.data.toList = 0 ∧ Tx.num s.data.toList = false) := Lib.hid ⟨Tx.iv_long (by rw [HL.out]; omega), Tx.num_long (by rw [HL.out]; omega)⟩
            clear h hd hdd
            go_wp2
            go_ret2
            rw [HN.out.1, HN.out.2]
            exact ⟨rfl, hB2⟩
          · have h9' : (s.size : Int) ≤ 9 := by omega
            have hvb := Tx.val_take_bd (l := s.data.toList) (k := pos) (by omega) HA.out
            have hv2 := Lib.hid (Tx.val_take HB.out)
            have HA2 := Lib.hid (Tx.all_take HB.out HA.out hd)
            have HP2 : Hid (pos + 1 = 0 ∨ s.size ≤ 9) := Lib.hid (.inr (by omega))
            obtain ⟨V, hV⟩ : ∃ V, V = Tx.val (s.data.toList.take pos) := ⟨_, rfl⟩
            rw [← hV] at hv2 hvb ⊢
            have hle1 : (48 : Int) ≤ (c : Int) := by omega
            have hle2 : (c : Int) ≤ 57 := by omega
            clear hd hdd hV HA HP h h9
            go_wp2
            go_roundg (s.size + 1 - (pos + 1))
            case measure => omega
            case rel => exact ⟨pos + 1, by omega, by omega, hit2, hB2, by rw [hv2.out, ← HC.out]; simp; omega, HA2, HP2⟩
        · have f0 : ¬ ((c : Int) < 48) := by omega
          have f1 : (57 < (c : Int)) := by omega
          have hd : Tx.isDig (s[pos]'hp) = false := by rw [hdd]; simp; omega
          have HN : Hid (Tx.iv s.data.toList = 0 ∧ Tx.num s.data.toList = false) := Lib.hid ⟨Tx.iv_dig HB.out hd, Tx.num_dig HB.out hd⟩
          clear h hd hdd
          go_wp2
          go_ret2
          rw [HN.out.1, HN.out.2]
          exact ⟨rfl, hB2⟩
      · have hnx : ∀ ty, (Instr.next (.pointer (some ⟨w.heap.size, 0, none⟩)) true ty).run Tryz.prog wr = _ := fun ty => Lib.run_next_any_at wr w.heap.size s pos ty hit hp
        have hB2 := Lib.below_iterAt hB (k := w.heap.size) (Nat.le_refl _) s (pos + (Utf8.decode s pos).2)
        have hdh := (decode_high s pos hp (by omega)).1
        have hd : Tx.isDig (s[pos]'hp) = false := by unfold Tx.isDig; simp; omega
        have HN : Hid (Tx.iv s.data.toList = 0 ∧ Tx.num s.data.toList = false) := Lib.hid ⟨Tx.iv_dig hb hd, Tx.num_dig hb hd⟩
        obtain ⟨W1, hW1⟩ : ∃ W1, W1 = wr.iterAt w.heap.size s (pos + (Utf8.decode s pos).2) := ⟨_, rfl⟩
        obtain ⟨c, hc⟩ : ∃ c : Nat, c = (Utf8.decode s pos).1 := ⟨_, rfl⟩
        rw [← hc] at hnx hdh
        rw [← hW1] at hnx hB2
        have f0 : ¬ ((c : Int) < 48) := by omega
        have f1 : 57 < (c : Int) := by omega
        clear hb hc hW1 hit hB hd
        go_wp2
        go_ret2
        rw [HN.out.1, HN.out.2]
        exact ⟨rfl, hB2⟩
    · have hnx : ∀ ty, (Instr.next (.pointer (some ⟨w.heap.size, 0, none⟩)) true ty).run Tryz.prog wr = _ := fun ty => Lib.run_next_end_at wr w.heap.size s pos ty hit hp
      obtain rfl : pos = s.size := by omega
      have e := List.take_of_length_le (Nat.le_of_eq HL.out)
      rw [e] at HA ⊢
      clear e
      by_cases h0 : s.size = 0
      · have hse : s = ByteArray.empty := by
          cases s with | mk d =>
          have : d.size = 0 := h0
          have hd : d = #[] := Array.eq_empty_of_size_eq_zero this
          subst hd; rfl
        have hE : s.toList.isEmpty = true := by rw [hse, ByteArray.toList_eq]; rfl
        have HN : Hid (Tx.iv s.data.toList = Tx.val s.data.toList ∧ Tx.num s.data.toList = false) := Lib.hid ⟨by rw [hse]; rfl, by rw [hse]; rfl⟩
        clear hse hit h0
        go_wp2
        go_quiet (fail)
        go_wp2
        go_ret2
        rw [HN.out.1, HN.out.2]
        exact ⟨rfl, below_drewN hB _⟩
      · have hpos : 0 < s.size := by omega
        have hE : s.toList.isEmpty = false := by
          rw [ByteArray.toList_eq]
          have : s.data.toList.length ≠ 0 := by simpa using h0
          cases hh : s.data.toList with
          | nil => rw [hh] at this; exact absurd rfl this
          | cons _ _ => rfl
        have h9 : s.size ≤ 9 := by have := HP.out; omega
        have hh := Tx.head_at s hpos
        have hne : s.data.toList ≠ [] := by intro e; rw [e] at hh; simp at hh
        have hiv := Tx.iv_mk HA.out (by rw [HL.out]; exact h9)
        by_cases h1 : s.size = 1
        · have HN : Hid (Tx.iv s.data.toList = Tx.val s.data.toList ∧ Tx.num s.data.toList = true) := Lib.hid ⟨hiv, Tx.num_mk HA.out (by rw [HL.out]; exact h9) hne (.inl (by rw [HL.out]; exact h1))⟩
          have h1i : ((s.size : Int) == 1) = true := by simp; omega
          have h1n : (s.size == 1) = true := by simpa using h1
          clear hit h0 h1 hiv hne hh HP h9
          go_wp2
          go_quiet (fail)
          go_wp2
          go_ret2
          rw [HN.out.1, HN.out.2]
          exact ⟨rfl, below_drewN hB _⟩
        · have h1i : ((s.size : Int) == 1) = false := by simp; omega
          have h1n : (s.size == 1) = false := by simpa using h1
          have hpi : (0 : Int) < (s.size : Int) := by omega
          by_cases hz : s[0]'hpos = 48
          · have HN : Hid (Tx.iv s.data.toList = Tx.val s.data.toList ∧ Tx.num s.data.toList = false) := Lib.hid ⟨hiv, Tx.num_zero (by rw [HL.out]; omega) (by rw [hh, hz])⟩
            have hc : (((s[0]'hpos).toNat : Int) != 48) = false := by rw [hz]; rfl
            have hc2 : ((s[0]'hpos).toNat != 48) = false := by rw [hz]; rfl
            clear hit h0 h1 hiv hne hh HP h9 hz
            go_wp2
            go_quiet (fail)
            go_wp2
            go_ret2
            rw [HN.out.1, HN.out.2]
            exact ⟨rfl, below_drewN hB _⟩
          · have HN : Hid (Tx.iv s.data.toList = Tx.val s.data.toList ∧ Tx.num s.data.toList = true) := Lib.hid ⟨hiv, Tx.num_mk HA.out (by rw [HL.out]; exact h9) hne (.inr (by rw [hh]; intro e; exact hz (by simpa using e)))⟩
            have hz1 : (s[0]'hpos).toNat ≠ 48 := fun e => hz (UInt8.toNat_inj.1 (by rw [e]; rfl))
            have hc : (((s[0]'hpos).toNat : Int) != 48) = true := by simp; omega
            have hc2 : ((s[0]'hpos).toNat != 48) = true := by simpa using hz1
            clear hit h0 h1 hiv hne hh HP h9 hz hz1
            go_wp2
            go_quiet (fail)
            go_wp2
            go_ret2
            rw [HN.out.1, HN.out.2]
            exact ⟨rfl, below_drewN hB _⟩

end Go.Proofs.YtndhjkammoeikaaGreatDoor
namespace Go.Proofs.YtndhjkammoeikaaGreatDoor
open Go.RowKit
set_option maxHeartbeats 4000000
set_option maxRecDepth 20000

namespace Tx
def bs (l : List UInt8) : ByteArray := ⟨l.toArray⟩
theorem bs_data (s : ByteArray) : bs s.data.toList = s := by unfold bs; exact mk_data s
theorem bs_toList (l : List UInt8) : (bs l).data.toList = l := rfl
theorem bs_size (l : List UInt8) : (bs l).size = l.length := mk_size l
theorem bs_app (l : List UInt8) (s : ByteArray) (k : Nat) (h : k < s.size) : bs l ++ s.extract k (k + 1) = bs (l ++ [s[k]'h]) := by
  apply ByteArray.ext
  apply Array.ext'
  have hk : k < s.data.toList.length := by rw [size_len]; exact h
  have e : (s.data.toList.drop k).take 1 = [s[k]'h] := by
    rw [List.drop_eq_getElem_cons hk]
    simp
    rfl
  have e2 : (s.extract k (k + 1)).data.toList = [s[k]'h] := by
    rw [Go.Lib.extract_data, show k + 1 - k = 1 by omega, e]
  show (bs l ++ s.extract k (k + 1)).data.toList = l ++ [s[k]'h]
  rw [ByteArray.data_append, Array.toList_append, e2]
  rfl
def cells (ls : List (List UInt8)) : List Value := ls.map fun l => .string (bs l)
theorem cells_len (ls : List (List UInt8)) : (cells ls).length = ls.length := by simp [cells]
theorem cells_app (a b : List (List UInt8)) : cells (a ++ b) = cells a ++ cells b := by simp [cells]
theorem cells_last (a : List (List UInt8)) (x : List UInt8) : (cells (a ++ [x]))[a.length]? = some (.string (bs x)) := by simp [cells]
theorem cells_set (a : List (List UInt8)) (x y : List UInt8) : (cells (a ++ [x])).set a.length (.string (bs y)) = cells (a ++ [y]) := by simp [cells]
theorem split_exists (c : UInt8) (l : List UInt8) : ∃ pre last, split c l = pre ++ [last] := ⟨_, _, (List.dropLast_concat_getLast (split_ne c l)).symm⟩
theorem split_len_le (c : UInt8) (l : List UInt8) : (split c l).length ≤ l.length + 1 := by
  rw [split_len]
  have := List.count_le_length (a := c) (l := l)
  omega
theorem piece_le {c : UInt8} : ∀ {l : List UInt8}, ∀ p ∈ split c l, p.length ≤ l.length
  | [], p, h => by simp [split] at h; subst h; simp
  | x :: xs, p, h => by
    unfold split at h
    by_cases hx : (x == c) = true
    · rw [if_pos hx] at h
      rcases List.mem_cons.1 h with rfl | h
      · simp
      · have := piece_le p h; simp; omega
    · rw [if_neg hx] at h
      cases hs : split c xs with
      | nil => exact absurd hs (split_ne c xs)
      | cons z zs =>
        rw [hs] at h
        rcases List.mem_cons.1 h with rfl | h
        · have := piece_le (l := xs) z (by rw [hs]; simp); simp; omega
        · have := piece_le (l := xs) p (by rw [hs]; simp [h]); simp; omega
end Tx
/-- the reference's Split -/
theorem c80 (s : ByteArray) (c : UInt8) (w : World) (hs : s.size ≤ 1000000) :
    Calls Tryz.prog 80 #[.string s, .int .u8 (c.toNat : Int)] w fun en w' => ∃ x, en = .returned x ∧ w'.ownsRow w.heap.size 9 1 x (Tx.split c s.data.toList).length (Tx.cells (Tx.split c s.data.toList)) ∧ Below w.heap.size w w' := by
  obtain ⟨i0, hi, hz0, hz1, hz2⟩ := info_parts info9
  have HL := Lib.hid (Tx.size_len s)
  obtain ⟨ci, hci⟩ : ∃ ci : Int, ci = (c.toNat : Int) := ⟨_, rfl⟩
  rw [← hci]
  have HCI := Lib.hid hci
  clear hci
  go_enter Tryz.func80, Tryz.ntmps80
  go_wp2
  go_loopw [5, 6] (fun x i wr => ∃ k : Nat, k ≤ s.size ∧ i = .int .i64 k ∧ wr.ownsRow w.heap.size 9 1 x (Tx.split c (s.data.toList.take k)).length (Tx.cells (Tx.split c (s.data.toList.take k))) ∧ Below w.heap.size w wr) (fun _ i _ => s.size - (intOf i).toNat)
  case atStart =>
    exact ⟨0, Nat.zero_le _, rfl, ⟨rfl, .inr ⟨_, 1, _, rfl, Nat.le_refl _, heap_alloc_new _ _, Nat.le_refl _, by unfold maxLen; omega, rfl, rfl⟩⟩, (Below.refl _ _).alloc (Nat.le_refl _) _⟩
  case round =>
    obtain ⟨k, hk, rfl, hown, hB⟩ := hrel
    obtain ⟨pre, last, hsp⟩ := Tx.split_exists c (s.data.toList.take k)
    by_cases hlt : k < s.size
    · have hb := Tx.byte_at s k hlt
      have hnx := Tx.split_snoc c (s.data.toList.take k) (s[k]'hlt) pre last hsp
      rw [← Tx.take_at hb] at hnx
      have hle := Tx.split_len_le c (s.data.toList.take k)
      have hle2 : (s.data.toList.take k).length ≤ k := List.length_take_le _ _
      have hpl := Tx.piece_le (c := c) (l := s.data.toList.take k) last (by rw [hsp]; simp)
      rw [hsp] at hown hle
      obtain ⟨m, hm⟩ : ∃ m, m = pre.length := ⟨_, rfl⟩
      have hlm : (pre ++ [last]).length = m + 1 := by simp [hm]
      rw [hlm] at hown hle
      have hsz : (Tx.bs last).size ≤ k := by rw [Tx.bs_size]; omega
      have hml : m + 1 ≤ 1000001 := by omega
      clear hle hle2 hpl
      by_cases hc : ((s[k]'hlt) == c) = true
      · rw [if_pos hc] at hnx
        have HNX := Lib.hid hnx
        have HM := Lib.hid hm
        have hce : (((s[k]'hlt).toNat : Int) == ci) = true := by rw [HCI.out]; simp at hc; simp [hc]
        clear hnx hm hlm hc hb hsp
        have hsz2 := hB.size
        go_wp2_with (at_builtin; refine wpList_append_own _ rfl _ _ 88 rfl w.heap.size 9 i0 (.string ByteArray.empty) 1 16 Tryz.underlying88 hi hz0 hz1 hz2 rfl (by decide) _ _ _ rfl (hown.alloc _) ⟨wr.heap.size, 0, none⟩ 1 1 [.string { data := #[] }] rfl rfl (news_one _ _ rfl) (by intro x hx; simp at hx; first | (subst hx; rfl) | (rcases hx with rfl | rfl <;> rfl) | (rcases hx with rfl | rfl | rfl <;> rfl)) (by unfold maxLen; omega) (by omega) (by simp; omega) ?_)
        intro x' w3 hown3 hg3 _
        have hB3 : Below w.heap.size w w3 := (hB.alloc hB.size _).grown hg3 (by have := hB.size; simp; omega) (fun g hg => (hown.lt g hg).1)
        have HO := Lib.hid hown3
        clear hown3 hg3 hown
        go_wp2
        go_roundw
        case rel => exact ⟨k + 1, by omega, by go_num, by rw [HNX.out, Tx.cells_app, List.length_append, List.length_append, List.length_singleton, List.length_singleton, ← HM.out]; exact HO.out, hB3⟩
        case measure => simp [intOf]; omega
      · rw [if_neg hc] at hnx
        have hce : (((s[k]'hlt).toNat : Int) == ci) = false := by
          rw [HCI.out]
          simp at hc ⊢
          intro e; exact hc (UInt8.toNat_inj.1 (by omega))
        obtain ⟨g, cap', rfl, hgB, hgl⟩ := hown.form (by omega)
        have hc1 := hown.cellAt m (by omega)
        rw [hm, Tx.cells_last, ← hm] at hc1
        have HNX := Lib.hid hnx
        have HM := Lib.hid hm
        have hap := Tx.bs_app last s k hlt
        obtain ⟨L0, hL0⟩ : ∃ L, L = Tx.bs last := ⟨_, rfl⟩
        obtain ⟨L1, hL1⟩ : ∃ L, L = Tx.bs (last ++ [s[k]'hlt]) := ⟨_, rfl⟩
        rw [← hL0] at hap hc1 hsz
        rw [← hL1] at hap
        have HL1 := Lib.hid hL1
        have hes : (s.extract k (k + 1)).size = 1 := by rw [ByteArray.size_extract]; omega
        have hw1 : IntKind.i64.wrap ((k : Int) + 1) = (k : Int) + 1 := by rw [IntKind.wrap_i64]; omega
        have hw2 : IntKind.i64.wrap ((m : Int) + 1 - 1) = (m : Int) := by rw [IntKind.wrap_i64]; omega
        have hk1 : (k : Int) + 1 ≤ (s.size : Int) := by omega
        have hx1 : ((k : Int) + 1).toNat = k + 1 := by omega
        clear hnx hm hlm hc hb hsp hL0 hL1
        go_wp2
        refine wp_region_splitG 17 (by kernel_rfl) (by kernel_rfl) ?_
        simp only [List.take_succ_cons, List.take_zero, List.drop_succ_cons, List.drop_zero]
        repeat (go_big_quiet_step ((first | ((rw [if_neg (by omega)]; exact ⟨rfl, rfl⟩)))))
        refine wpQuiet_nil (gw_out ?_)
        intro w1 hb1
        have hown1 := own_below hown hb1
        have hB1 := hB.call hb1 rfl
        have hfz := hown1.frozenAt m
        have hc1' := hown1.cellAt m (by omega)
        rw [HM.out, Tx.cells_last, ← HM.out] at hc1'
        have hst := hown1.stored m (.string L1)
        rw [HL1.out, HM.out, Tx.cells_set, ← HM.out, ← HL1.out] at hst
        have HO := Lib.hid hst.1
        have hB3 := hB1.setCell (p := ⟨g, m, none⟩) hgB (.string L1)
        clear hst hown hb1 hc1 hown1
        go_wp2
        go_roundw
        case rel => exact ⟨k + 1, by omega, by go_num, by rw [HNX.out, List.length_append, List.length_singleton, ← HM.out]; exact HO.out, hB3⟩
        case measure => simp [intOf]; omega
    · obtain rfl : k = s.size := by omega
      rw [List.take_of_length_le (Nat.le_of_eq HL.out)] at hown
      have HO := Lib.hid hown
      clear hown hsp
      go_wp2
      go_ret
      exact ⟨_, rfl, HO.out, hB⟩
end Go.Proofs.YtndhjkammoeikaaGreatDoor
namespace Go.Proofs.YtndhjkammoeikaaGreatDoor
open Go.RowKit
set_option maxHeartbeats 8000000
set_option maxRecDepth 20000

/-- what is parsed, with its index and its error -/
def PR (w : World) (p : List Ent × Int × Int) (e : Ending) (w' : World) : Prop := ∃ A cap, e = .returned (.tuple #[.slice A p.1.length cap, .int .i64 p.2.1, .int .i64 p.2.2]) ∧ RdL w' 3 Ent.enc A p.1 ∧ Below w.heap.size w w'
theorem PR.nil {w w' : World} (i e : Int) (h : Below w.heap.size w w') : PR w ([], i, e) (.returned (.tuple #[.slice none 0 0, .int .i64 i, .int .i64 e])) w' := ⟨none, 0, rfl, ⟨rfl, fun h => absurd h (by simp)⟩, h⟩
theorem PR.list {w w' : World} {l : List Ent} {A : Option Addr} {n cap : Nat} (hn : n = l.length) (hr : RdL w' 3 Ent.enc A l) (h : Below w.heap.size w w') : PR w (l, 0, 0) (.returned (.tuple #[.slice A n cap, .int .i64 0, .int .i64 0])) w' := ⟨A, cap, by rw [hn], hr, h⟩
def Tx.parseS (s : List UInt8) : List Ent × Int × Int := if 4096 < s.length then ([], 0, 26) else Tx.parse s
theorem c80_10 (s : ByteArray) (w : World) (hs : s.size ≤ 1000000) :
    Calls Tryz.prog 80 #[.string s, .int .u8 10] w fun en w' => ∃ x, en = .returned x ∧ w'.ownsRow w.heap.size 9 1 x (Tx.split 10 s.data.toList).length (Tx.cells (Tx.split 10 s.data.toList)) ∧ Below w.heap.size w w' := c80 s 10 w hs
theorem c80_32 (b : List UInt8) (w : World) (hs : b.length ≤ 1000000) :
    Calls Tryz.prog 80 #[.string (Tx.bs b), .int .u8 32] w fun en w' => ∃ x, en = .returned x ∧ w'.ownsRow w.heap.size 9 1 x (Tx.split 32 b).length (Tx.cells (Tx.split 32 b)) ∧ Below w.heap.size w w' := c80 (Tx.bs b) 32 w (by rw [Tx.bs_size]; exact hs)
theorem c144b (b : List UInt8) (w : World) : Calls Tryz.prog 144 #[.string (Tx.bs b)] w fun en w' => en = .returned (.tuple #[.int .i64 (Tx.dv b), .bool (Tx.num b)]) ∧ w = w' := c144 (Tx.bs b) w
theorem ws3 (ws : List (List UInt8)) : ws.length ≠ 3 ∨ ∃ x y z, ws = [x, y, z] := by
  match ws with
  | [x, y, z] => exact .inr ⟨x, y, z, rfl⟩
  | [] => exact .inl (by simp)
  | [_] => exact .inl (by simp)
  | [_, _] => exact .inl (by simp)
  | _ :: _ :: _ :: _ :: _ => exact .inl (by simp)
theorem empty_bs (l : List UInt8) : (Tx.bs l).toList.isEmpty = l.isEmpty := by rw [ByteArray.toList_eq]; rfl
theorem pline_ne {b : List UInt8} (h : (Tx.split 32 b).length ≠ 3) : Tx.pline b = none := by
  unfold Tx.pline
  split
  · rename_i hs; rw [hs] at h; simp at h
  · rfl
theorem pline_3 {b x y z : List UInt8} (h : Tx.split 32 b = [x, y, z]) : Tx.pline b = if Tx.num x && Tx.num y && !z.isEmpty then some ⟨Tx.val x, Tx.val y, Tx.bs z⟩ else none := by
  unfold Tx.pline; rw [h]; rfl
theorem lines_at {ls : List (List UInt8)} {k : Nat} {b last : List UInt8} (h : ls[k]? = some b) : ls ++ [last] = ls.take k ++ b :: (ls.drop (k + 1) ++ [last]) := by
  obtain ⟨hk, rfl⟩ := List.getElem?_eq_some_iff.1 h
  have h1 := List.take_append_drop k ls
  rw [List.drop_eq_getElem_cons hk] at h1
  calc ls ++ [last] = (List.take k ls ++ ls[k] :: List.drop (k + 1) ls) ++ [last] := by rw [h1]
    _ = _ := by rw [List.append_assoc, List.cons_append]
/-- the reference's Parse -/
theorem c79 (s : ByteArray) (w : World) (hs : s.size ≤ 1000000) : Calls Tryz.prog 79 #[.string s] w (PR w (Tx.parseS s.data.toList)) := by
  obtain ⟨i0, hi, hz0, hz1, hz2⟩ := info_parts info188
  have hsl := Tx.size_len s
  by_cases hlong : 4096 < s.size
  · have HP : Hid (Tx.parseS s.data.toList = ([], 0, 26)) := Lib.hid (by unfold Tx.parseS; rw [if_pos (by omega)])
    have hl2 : (4096 : Int) < (s.size : Int) := by omega
    clear hsl hlong hs
    go_enter Tryz.func79, Tryz.ntmps79
    go_wp2
    go_ret3
    rw [HP.out]
    exact PR.nil _ _ (Below.refl _ _)
  · have HPS : Hid (Tx.parseS s.data.toList = Tx.parse s.data.toList) := Lib.hid (by unfold Tx.parseS; rw [if_neg (by omega)])
    have hl2 : (s.size : Int) ≤ 4096 := by omega
    obtain ⟨ls, last, hsp⟩ := Tx.split_exists 10 s.data.toList
    have h80 := c80_10 s w (by omega)
    rw [hsp] at h80
    have hml := Tx.split_len_le 10 s.data.toList
    have hpc := Tx.piece_le (c := 10) (l := s.data.toList)
    rw [hsp] at hml hpc
    obtain ⟨M, hM⟩ : ∃ M, M = ls.length := ⟨_, rfl⟩
    have hlm : (ls ++ [last]).length = M + 1 := by simp [hM]
    rw [hlm] at h80 hml
    have hmb : M ≤ 4097 := by omega
    have HSP := Lib.hid hsp
    have HM := Lib.hid hM
    have HPC : Hid (∀ p ∈ ls ++ [last], p.length ≤ 1000000) := Lib.hid (fun p hp => by have := hpc p hp; omega)
    have H80 := Lib.hid h80
    clear hsp h80 hml hpc hM hlm hsl hlong hs
    go_enter Tryz.func79, Tryz.ntmps79
    go_wp2_with fail
    refine H80.out.mono ?_
    rintro e w1 ⟨x, rfl, hown, hB1⟩
    obtain ⟨g, cap', rfl, hgB, hgl⟩ := hown.form (by omega)
    have hw2 : IntKind.i64.wrap ((M : Int) + 1 - 1) = (M : Int) := by rw [IntKind.wrap_i64]; omega
    clear hgB
    go_wp2
    go_loopw [5, 8] (fun x i wr => ∃ k : Nat, k ≤ M ∧ i = .int .i64 k ∧ wr.ownsRow w1.heap.size 188 3 x k ((Tx.good (ls.take k)).flatMap Ent.enc) ∧ Below w1.heap.size w1 wr ∧ Hid ((Tx.good (ls.take k)).length = k)) (fun _ i _ => M - (intOf i).toNat)
    case atStart => exact ⟨0, Nat.zero_le _, rfl, World.ownsRow_nil _ _ _ _, Below.refl _ _, rfl⟩
    case round =>
      obtain ⟨k, hk, rfl, hout, hBr, HG⟩ := hrel
      have hownr := own_below hown hBr
      by_cases hlt : k < M
      · obtain ⟨b, hbk⟩ : ∃ b, ls[k]? = some b := ⟨ls[k]'(by rw [← HM.out]; exact hlt), List.getElem?_eq_getElem _⟩
        have hla := lines_at (last := last) hbk
        have hbl : b.length ≤ 1000000 := HPC.out b (by simp [List.mem_of_getElem? hbk])
        have hck := hownr.cellAt k (by omega)
        have hcb : (Tx.cells (ls ++ [last]))[k]? = some (.string (Tx.bs b)) := by
          unfold Tx.cells
          rw [List.getElem?_map, List.getElem?_append_left (by rw [← HM.out]; exact hlt), hbk]; rfl
        rw [hcb] at hck
        have hglen : (ls.take k).length = k := by rw [List.length_take, ← HM.out]; omega
        have hk1 : (k : Int) < (M : Int) := by omega
        have hk2 : (k : Int) < (M : Int) + 1 := by omega
        have HBAD : Hid (Tx.pline b = none → Tx.parse s.data.toList = ([], (k : Int), 25)) := Lib.hid (fun h => by
          have := Tx.parse_bad (s := s.data.toList) (pre := ls.take k) (more := ls.drop (k + 1) ++ [last]) (b := b) (by rw [HSP.out]; exact hla) (by simp) (by rw [HG.out, hglen]) h
          rw [hglen] at this; exact this)
        have HTK : Hid (ls.take (k + 1) = ls.take k ++ [b]) := Lib.hid (by rw [List.take_succ, hbk]; rfl)
        have H32 := Lib.hid (fun W => c80_32 b W hbl)
        clear hbk hla hcb hbl hownr
        go_wp2_with fail
        refine (H32.out _).mono ?_
        rintro e w2 ⟨x2, rfl, hown2, hB2⟩
        have hout2 := own_below hout hB2
        have hBr2 := hBr.call hB2 rfl
        have hBw := hB1.call hBr2 rfl
        clear hout hBr hck H32
        rcases ws3 (Tx.split 32 b) with hne | ⟨x, y, z, h3⟩
        · have hp := pline_ne hne
          have HP := Lib.hid (HBAD.out hp)
          obtain ⟨A2, cap2, rfl, _⟩ := Sl.of_own hown2
          obtain ⟨n2, hn2⟩ : ∃ n, n = (Tx.split 32 b).length := ⟨_, rfl⟩
          rw [← hn2] at hne ⊢
          have hne1 : ((n2 : Int) != 3) = true := by simp; omega
          have hne2 : (n2 != 3) = true := by simpa using hne
          clear hp hne hn2 hown2
          go_wp2
          go_ret3
          rw [HPS.out, HP.out]
          exact PR.nil _ _ hBw
        · have hp3 := pline_3 h3
          rw [h3] at hown2
          obtain ⟨g2, cap2, rfl, hgB2, hgl2⟩ := hown2.form (by simp)
          have p0 : w2.cell? ⟨g2, 0, none⟩ = some (.string (Tx.bs x)) := hown2.cellAt 0 (by simp)
          have p1 : w2.cell? ⟨g2, 1, none⟩ = some (.string (Tx.bs y)) := hown2.cellAt 1 (by simp)
          have p2 : w2.cell? ⟨g2, 2, none⟩ = some (.string (Tx.bs z)) := hown2.cellAt 2 (by simp)
          clear h3
          simp only [List.length_cons, List.length_nil, Nat.zero_add, Nat.reduceAdd] at hown2 ⊢
          have hez := empty_bs z
          obtain ⟨X, hX⟩ : ∃ L, L = Tx.bs x := ⟨_, rfl⟩
          obtain ⟨Y, hY⟩ : ∃ L, L = Tx.bs y := ⟨_, rfl⟩
          obtain ⟨U, hU⟩ : ∃ L, L = Tx.bs z := ⟨_, rfl⟩
          have cx := fun W => c144b x W
          have cy := fun W => c144b y W
          rw [← hX] at p0 cx
          rw [← hY] at p1 cy
          rw [← hU] at p2 hez hp3
          have CX := Lib.hid cx
          have CY := Lib.hid cy
          clear cx cy hX hY hU
          cases hze : z.isEmpty
          · rw [hze] at hez hp3
            cases hnx : Tx.num x <;> cases hny : Tx.num y
            case true.true =>
              rw [hnx, hny] at hp3
              have HE : Hid (Tx.pline b = some ⟨Tx.val x, Tx.val y, U⟩) := Lib.hid hp3
              have hdx : Tx.dv x = Tx.val x := by unfold Tx.dv; rw [hnx]; rfl
              have hdy : Tx.dv y = Tx.val y := by unfold Tx.dv; rw [hny]; rfl
              have cx := CX.out
              have cy := CY.out
              rw [hnx, hdx] at cx
              rw [hny, hdy] at cy
              have CX2 := Lib.hid cx
              have CY2 := Lib.hid cy
              clear hp3 cx cy hdx hdy hnx hny CX CY hze hown2 hgB2
              go_wp2_with fail
              refine (CX2.out _).mono ?_
              rintro e w' ⟨rfl, rfl⟩
              go_wp2_with fail
              refine (CY2.out _).mono ?_
              rintro e w' ⟨rfl, rfl⟩
              have hsz2 := hBr2.size
              go_wp2_with (at_builtin; refine wpList_append_own _ rfl _ _ 79 rfl w1.heap.size 188 i0 (.agg #[.int .i64 0, .int .i64 0, .string ByteArray.empty]) 3 32 Tryz.underlying79 hi hz0 hz1 hz2 rfl (by decide) _ _ _ rfl (hout2.alloc _) ⟨w2.heap.size, 0, none⟩ 1 1 [.int .i64 (Tx.val x : Int), .int .i64 (Tx.val y : Int), .string U] rfl rfl (news_one _ _ rfl) (by intro x hx; simp at hx; first | (subst hx; rfl) | (rcases hx with rfl | rfl <;> rfl) | (rcases hx with rfl | rfl | rfl <;> rfl)) (by unfold maxLen; omega) (by omega) (by simp; omega) ?_)
              intro x' w3 hown3 hg3 _
              have hB3 : Below w1.heap.size w1 w3 := (hBr2.alloc hBr2.size _).grown hg3 (by simp; omega) (fun g hg => (hout2.lt g hg).1)
              obtain ⟨hgd, hgl3⟩ := Tx.good_next (a := ls.take k) (by rw [HG.out, hglen]) HE.out
              have HO : Hid (w3.ownsRow w1.heap.size 188 3 x' (k + 1) ((Tx.good (ls.take (k + 1))).flatMap Ent.enc)) := Lib.hid (by
                rw [HTK.out, hgd, List.flatMap_append]
                exact hown3)
              have HG2 : Hid ((Tx.good (ls.take (k + 1))).length = k + 1) := Lib.hid (by rw [HTK.out, hgl3, List.length_append, hglen]; rfl)
              clear hgd hgl3 hown3 hg3 hout2
              go_wp2
              go_roundw
              case rel => exact ⟨k + 1, by omega, by go_num, HO.out, hB3, HG2⟩
              case measure => simp [intOf]; omega
            all_goals
              have HP := Lib.hid (HBAD.out (by rw [hp3, hnx, hny]; rfl))
              have cx := CX.out
              have cy := CY.out
              rw [hnx] at cx
              rw [hny] at cy
              have CX2 := Lib.hid cx
              have CY2 := Lib.hid cy
              clear hp3 cx cy hnx hny CX CY hze hown2 hgB2
              go_wp2_with fail
              refine (CX2.out _).mono ?_
              rintro e w' ⟨rfl, rfl⟩
              go_wp2_with fail
              refine (CY2.out _).mono ?_
              rintro e w' ⟨rfl, rfl⟩
              go_wp2
              go_ret3
              rw [HPS.out, HP.out]
              exact PR.nil _ _ hBw
          · rw [hze] at hez hp3
            have HP := Lib.hid (HBAD.out (by rw [hp3]; simp))
            clear hp3 CX CY hze hown2
            go_wp2
            go_ret3
            rw [HPS.out, HP.out]
            exact PR.nil _ _ hBw
      · obtain rfl : k = M := by omega
        have e : ls.take k = ls := List.take_of_length_le (by rw [HM.out]; exact Nat.le_refl _)
        rw [e] at hout HG
        have hck := hownr.cellAt k (by omega)
        have hcb : (Tx.cells (ls ++ [last]))[k]? = some (.string (Tx.bs last)) := by rw [HM.out]; exact Tx.cells_last ls last
        rw [hcb] at hck
        have hez := empty_bs last
        obtain ⟨L, hL⟩ : ∃ L, L = Tx.bs last := ⟨_, rfl⟩
        rw [← hL] at hck hez
        have hgl2 : (Tx.good ls).length = ls.length := by rw [HG.out, HM.out]
        have hBw := hB1.call hBr rfl
        clear hcb hL hownr e
        cases hze : last.isEmpty
        · rw [hze] at hez
          have HP : Hid (Tx.parse s.data.toList = ([], (k : Int), 25)) := Lib.hid (by
            have := Tx.parse_last HSP.out (by intro e; rw [e] at hze; simp at hze) hgl2
            rw [← HM.out] at this; exact this)
          clear hze hgl2 hout
          go_wp2
          go_ret3
          rw [HPS.out, HP.out]
          exact PR.nil _ _ hBw
        · rw [hze] at hez
          have hln : last = [] := by simpa using hze
          have hpe := Tx.parse_end (by rw [HSP.out, hln]) hgl2
          rw [← HM.out] at hpe
          obtain ⟨A, cap, rfl, hr⟩ := Sl.of_own hout
          have h56 := c56 A cap (Tx.good ls) wr (by rw [HG.out]; omega) (by unfold RdL; rw [HG.out]; exact hr)
          rw [HG.out] at h56
          have H56 := Lib.hid h56
          have HR : Hid (RdL wr 3 Ent.enc A (Tx.good ls)) := Lib.hid (by unfold RdL; rw [HG.out]; exact hr)
          obtain ⟨E, hE⟩ : ∃ E, E = Mo.entries (Tx.good ls) := ⟨_, rfl⟩
          rw [← hE] at hpe H56
          by_cases hE0 : E = 0
          · subst hE0
            rw [if_neg (by simp)] at hpe
            have HP := Lib.hid hpe
            clear hpe hE h56 hr hout hze hln hgl2
            go_wp2_with fail
            refine H56.out.mono ?_
            rintro e w2 ⟨rfl, hb2⟩
            have HR2 := Lib.hid (HR.out.below hb2)
            have hBw2 := hBw.call hb2 rfl
            clear hb2
            go_wp2
            go_ret3
            rw [HPS.out, HP.out]
            exact PR.list HG.out.symm HR2.out hBw2
          · rw [if_pos hE0] at hpe
            have HP := Lib.hid hpe
            have hen : (E != 0) = true := by simpa using hE0
            clear hpe hE h56 hr hout hze hln hgl2 hE0
            go_wp2_with fail
            refine H56.out.mono ?_
            rintro e w2 ⟨rfl, hb2⟩
            have hBw2 := hBw.call hb2 rfl
            clear hb2
            go_wp2
            go_ret3
            rw [HPS.out, HP.out]
            exact PR.nil _ _ hBw2

end Go.Proofs.YtndhjkammoeikaaGreatDoor
