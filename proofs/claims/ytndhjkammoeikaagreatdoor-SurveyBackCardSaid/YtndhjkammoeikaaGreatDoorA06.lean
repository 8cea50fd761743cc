/- A part of the proofs about chapter 9: contracts of functions and plain laws (W30, W31, Model11, W32, Model12, W33, W34, Model13, W35). -/
import Derived.Test.YtndhjkammoeikaaGreatDoorA05
import Derived.Test.YtndhjkammoeikaaGreatDoorA02
import Derived.Test.YtndhjkammoeikaaGreatDoorA03
set_option linter.all false
namespace Go.Proofs.YtndhjkammoeikaaGreatDoor
open Go.RowKit
set_option maxHeartbeats 1000000
set_option maxRecDepth 20000

theorem c31 (A B : Option Addr) (cap cap2 : Nat) (l : List Int) (w : World) (hl : l.length ≤ 1000000) (H : RdS w 1 A l.length (l.map (Value.int .i64))) (G : RdS w 1 B l.length (l.map (Value.int .i64))) :
    Calls Tryz.prog 31 #[.slice A l.length cap, .slice B l.length cap2] w fun en w' => en = .returned (.bool true) ∧ Below w.heap.size w w' := by
  obtain ⟨n, hn⟩ : ∃ n, n = l.length := ⟨_, rfl⟩
  rw [← hn] at hl ⊢
  have Hn := Lib.hid hn
  clear hn
  go_enter Tryz.func31, Tryz.ntmps31
  go_wp2
  go_loopw [5] (fun i wr => ∃ k : Nat, k ≤ n ∧ i = .int .i64 k ∧ Below w.heap.size w wr) (fun i _ => n - (intOf i).toNat)
  case atStart => exact ⟨0, Nat.zero_le _, rfl, Below.refl _ _⟩
  case round =>
    obtain ⟨k, hk, rfl, hB⟩ := hrel
    by_cases hlt : k < n
    · obtain ⟨x, hx⟩ : ∃ x, l[k]? = some x := ⟨_, List.getElem?_eq_getElem (by rw [← Hn.out]; exact hlt)⟩
      have hx1 : (0 : Int) ≤ (k : Int) := by omega
      have hx2 : (k : Int) < (n : Int) := by omega
      obtain ⟨b, off, rfl, hb, hq⟩ := (H.below hB).at (by rw [← Hn.out]; exact hlt)
      have q0 : wr.cell? ⟨b, off + k, none⟩ = some (.int .i64 x) := by have := hq 0 (by omega); simp only [Nat.mul_one, Nat.add_zero] at this; rw [this, List.getElem?_map, hx]; rfl
      obtain ⟨b2, off2, rfl, hb2, hp⟩ := (G.below hB).at (by rw [← Hn.out]; exact hlt)
      have p0 : wr.cell? ⟨b2, off2 + k, none⟩ = some (.int .i64 x) := by have := hp 0 (by omega); simp only [Nat.mul_one, Nat.add_zero] at this; rw [this, List.getElem?_map, hx]; rfl
      clear hq hp
      go_wp2
      refine wp_region_growG (by kernel_rfl) (by kernel_rfl) ?_
      repeat (go_big_quiet_step ((first | fail)))
      refine wpQuiet_nil (gw_out ?_)
      intro w2 hb2
      go_wp2
      go_roundw
      case rel => exact ⟨k + 1, by omega, by go_num, fin0 hB hb2⟩
      case measure => simp [intOf]; omega
    · obtain rfl : k = n := by omega
      go_wp2
      go_ret
      exact ⟨rfl, hB⟩

theorem c30 (A B : Option Addr) (cap cap2 : Nat) (l : List Bool) (w : World) (hl : l.length ≤ 1000000) (H : RdS w 1 A l.length (l.map Value.bool)) (G : RdS w 1 B l.length (l.map Value.bool)) :
    Calls Tryz.prog 30 #[.slice A l.length cap, .slice B l.length cap2] w fun en w' => en = .returned (.bool true) ∧ Below w.heap.size w w' := by
  obtain ⟨n, hn⟩ : ∃ n, n = l.length := ⟨_, rfl⟩
  rw [← hn] at hl ⊢
  have Hn := Lib.hid hn
  clear hn
  go_enter Tryz.func30, Tryz.ntmps30
  go_wp2
  go_loopw [5] (fun i wr => ∃ k : Nat, k ≤ n ∧ i = .int .i64 k ∧ Below w.heap.size w wr) (fun i _ => n - (intOf i).toNat)
  case atStart => exact ⟨0, Nat.zero_le _, rfl, Below.refl _ _⟩
  case round =>
    obtain ⟨k, hk, rfl, hB⟩ := hrel
    by_cases hlt : k < n
    · obtain ⟨x, hx⟩ : ∃ x, l[k]? = some x := ⟨_, List.getElem?_eq_getElem (by rw [← Hn.out]; exact hlt)⟩
      have hx1 : (0 : Int) ≤ (k : Int) := by omega
      have hx2 : (k : Int) < (n : Int) := by omega
      obtain ⟨b, off, rfl, hb, hq⟩ := (H.below hB).at (by rw [← Hn.out]; exact hlt)
      have q0 : wr.cell? ⟨b, off + k, none⟩ = some (.bool x) := by have := hq 0 (by omega); simp only [Nat.mul_one, Nat.add_zero] at this; rw [this, List.getElem?_map, hx]; rfl
      obtain ⟨b2, off2, rfl, hb2, hp⟩ := (G.below hB).at (by rw [← Hn.out]; exact hlt)
      have p0 : wr.cell? ⟨b2, off2 + k, none⟩ = some (.bool x) := by have := hp 0 (by omega); simp only [Nat.mul_one, Nat.add_zero] at this; rw [this, List.getElem?_map, hx]; rfl
      clear hq hp
      go_wp2
      refine wp_region_growG (by kernel_rfl) (by kernel_rfl) ?_
      repeat (go_big_quiet_step ((first | fail)))
      refine wpQuiet_nil (gw_out ?_)
      intro w2 hb2
      go_wp2
      go_roundw
      case rel => exact ⟨k + 1, by omega, by go_num, fin0 hB hb2⟩
      case measure => simp [intOf]; omega
    · obtain rfl : k = n := by omega
      go_wp2
      go_ret
      exact ⟨rfl, hB⟩

theorem c46 (A B : Option Addr) (cap cap2 : Nat) (l : List ByteArray) (w : World) (hl : l.length ≤ 1000000) (H : RdS w 1 A l.length (l.map Value.string)) (G : RdS w 1 B l.length (l.map Value.string)) :
    Calls Tryz.prog 46 #[.slice A l.length cap, .slice B l.length cap2] w fun en w' => en = .returned (.bool true) ∧ Below w.heap.size w w' := by
  obtain ⟨n, hn⟩ : ∃ n, n = l.length := ⟨_, rfl⟩
  rw [← hn] at hl ⊢
  have Hn := Lib.hid hn
  clear hn
  go_enter Tryz.func46, Tryz.ntmps46
  go_wp2
  go_loopw [5] (fun i wr => ∃ k : Nat, k ≤ n ∧ i = .int .i64 k ∧ Below w.heap.size w wr) (fun i _ => n - (intOf i).toNat)
  case atStart => exact ⟨0, Nat.zero_le _, rfl, Below.refl _ _⟩
  case round =>
    obtain ⟨k, hk, rfl, hB⟩ := hrel
    by_cases hlt : k < n
    · obtain ⟨x, hx⟩ : ∃ x, l[k]? = some x := ⟨_, List.getElem?_eq_getElem (by rw [← Hn.out]; exact hlt)⟩
      have hx1 : (0 : Int) ≤ (k : Int) := by omega
      have hx2 : (k : Int) < (n : Int) := by omega
      obtain ⟨b, off, rfl, hb, hq⟩ := (H.below hB).at (by rw [← Hn.out]; exact hlt)
      have q0 : wr.cell? ⟨b, off + k, none⟩ = some (.string x) := by have := hq 0 (by omega); simp only [Nat.mul_one, Nat.add_zero] at this; rw [this, List.getElem?_map, hx]; rfl
      obtain ⟨b2, off2, rfl, hb2, hp⟩ := (G.below hB).at (by rw [← Hn.out]; exact hlt)
      have p0 : wr.cell? ⟨b2, off2 + k, none⟩ = some (.string x) := by have := hp 0 (by omega); simp only [Nat.mul_one, Nat.add_zero] at this; rw [this, List.getElem?_map, hx]; rfl
      clear hq hp
      go_wp2
      refine wp_region_growG (by kernel_rfl) (by kernel_rfl) ?_
      repeat (go_big_quiet_step ((first | fail)))
      refine wpQuiet_nil (gw_out ?_)
      intro w2 hb2
      go_wp2
      go_roundw
      case rel => exact ⟨k + 1, by omega, by go_num, fin0 hB hb2⟩
      case measure => simp [intOf]; omega
    · obtain rfl : k = n := by omega
      go_wp2
      go_ret
      exact ⟨rfl, hB⟩

theorem c32 (A B : Option Addr) (cap cap2 : Nat) (l : List Spn) (w : World) (hl : l.length ≤ 1000000) (H : RdL w 2 Spn.enc A l) (G : RdL w 2 Spn.enc B l) :
    Calls Tryz.prog 32 #[.slice A l.length cap, .slice B l.length cap2] w fun en w' => en = .returned (.bool true) ∧ Below w.heap.size w w' := by
  obtain ⟨n, hn⟩ : ∃ n, n = l.length := ⟨_, rfl⟩
  rw [← hn] at hl ⊢
  have Hn := Lib.hid hn
  clear hn
  go_enter Tryz.func32, Tryz.ntmps32
  go_wp2
  go_loopw [5] (fun i wr => ∃ k : Nat, k ≤ n ∧ i = .int .i64 k ∧ Below w.heap.size w wr) (fun i _ => n - (intOf i).toNat)
  case atStart => exact ⟨0, Nat.zero_le _, rfl, Below.refl _ _⟩
  case round =>
    obtain ⟨k, hk, rfl, hB⟩ := hrel
    by_cases hlt : k < n
    · obtain ⟨x, hx⟩ : ∃ x, l[k]? = some x := ⟨_, List.getElem?_eq_getElem (by rw [← Hn.out]; exact hlt)⟩
      have hx1 : (0 : Int) ≤ (k : Int) := by omega
      have hx2 : (k : Int) < (n : Int) := by omega
      obtain ⟨b, off, xq, rfl, hxq, hb, hq⟩ := (H.below hB).at Spn.len (by rw [← Hn.out]; exact hlt)
      have exq : xq = x := by rw [hx] at hxq; exact (Option.some.inj hxq).symm
      rw [exq] at hq
      clear exq hxq
      have q0 : wr.cell? ⟨b, off + k * 2, none⟩ = some (.int .i64 x.f) := hq 0 (by omega)
      have q1 : wr.cell? ⟨b, off + k * 2 + 1, none⟩ = some (.int .i64 x.t) := hq 1 (by omega)
      obtain ⟨b2, off2, xp, rfl, hxp, hb2, hp⟩ := (G.below hB).at Spn.len (by rw [← Hn.out]; exact hlt)
      have exp : xp = x := by rw [hx] at hxp; exact (Option.some.inj hxp).symm
      rw [exp] at hp
      clear exp hxp
      have p0 : wr.cell? ⟨b2, off2 + k * 2, none⟩ = some (.int .i64 x.f) := hp 0 (by omega)
      have p1 : wr.cell? ⟨b2, off2 + k * 2 + 1, none⟩ = some (.int .i64 x.t) := hp 1 (by omega)
      clear hq hp
      go_wp2
      refine wp_region_growG (by kernel_rfl) (by kernel_rfl) ?_
      repeat (go_big_quiet_step ((first | fail)))
      refine wpQuiet_nil (gw_out ?_)
      intro w2 hb2
      go_wp2
      go_roundw
      case rel => exact ⟨k + 1, by omega, by go_num, fin0 hB hb2⟩
      case measure => simp [intOf]; omega
    · obtain rfl : k = n := by omega
      go_wp2
      go_ret
      exact ⟨rfl, hB⟩

theorem c43 (A B : Option Addr) (cap cap2 : Nat) (l : List Ent) (w : World) (hl : l.length ≤ 1000000) (H : RdL w 3 Ent.enc A l) (G : RdL w 3 Ent.enc B l) :
    Calls Tryz.prog 43 #[.slice A l.length cap, .slice B l.length cap2] w fun en w' => en = .returned (.bool true) ∧ Below w.heap.size w w' := by
  obtain ⟨n, hn⟩ : ∃ n, n = l.length := ⟨_, rfl⟩
  rw [← hn] at hl ⊢
  have Hn := Lib.hid hn
  clear hn
  go_enter Tryz.func43, Tryz.ntmps43
  go_wp2
  go_loopw [5] (fun i wr => ∃ k : Nat, k ≤ n ∧ i = .int .i64 k ∧ Below w.heap.size w wr) (fun i _ => n - (intOf i).toNat)
  case atStart => exact ⟨0, Nat.zero_le _, rfl, Below.refl _ _⟩
  case round =>
    obtain ⟨k, hk, rfl, hB⟩ := hrel
    by_cases hlt : k < n
    · obtain ⟨x, hx⟩ : ∃ x, l[k]? = some x := ⟨_, List.getElem?_eq_getElem (by rw [← Hn.out]; exact hlt)⟩
      have hx1 : (0 : Int) ≤ (k : Int) := by omega
      have hx2 : (k : Int) < (n : Int) := by omega
      obtain ⟨b, off, xq, rfl, hxq, hb, hq⟩ := (H.below hB).at Ent.len (by rw [← Hn.out]; exact hlt)
      have exq : xq = x := by rw [hx] at hxq; exact (Option.some.inj hxq).symm
      rw [exq] at hq
      clear exq hxq
      have q0 : wr.cell? ⟨b, off + k * 3, none⟩ = some (.int .i64 x.f) := hq 0 (by omega)
      have q1 : wr.cell? ⟨b, off + k * 3 + 1, none⟩ = some (.int .i64 x.t) := hq 1 (by omega)
      have q2 : wr.cell? ⟨b, off + k * 3 + 2, none⟩ = some (.string x.c) := hq 2 (by omega)
      obtain ⟨b2, off2, xp, rfl, hxp, hb2, hp⟩ := (G.below hB).at Ent.len (by rw [← Hn.out]; exact hlt)
      have exp : xp = x := by rw [hx] at hxp; exact (Option.some.inj hxp).symm
      rw [exp] at hp
      clear exp hxp
      have p0 : wr.cell? ⟨b2, off2 + k * 3, none⟩ = some (.int .i64 x.f) := hp 0 (by omega)
      have p1 : wr.cell? ⟨b2, off2 + k * 3 + 1, none⟩ = some (.int .i64 x.t) := hp 1 (by omega)
      have p2 : wr.cell? ⟨b2, off2 + k * 3 + 2, none⟩ = some (.string x.c) := hp 2 (by omega)
      clear hq hp
      go_wp2
      refine wp_region_growG (by kernel_rfl) (by kernel_rfl) ?_
      repeat (go_big_quiet_step ((first | fail)))
      refine wpQuiet_nil (gw_out ?_)
      intro w2 hb2
      go_wp2
      go_roundw
      case rel => exact ⟨k + 1, by omega, by go_num, fin0 hB hb2⟩
      case measure => simp [intOf]; omega
    · obtain rfl : k = n := by omega
      go_wp2
      go_ret
      exact ⟨rfl, hB⟩

end Go.Proofs.YtndhjkammoeikaaGreatDoor
namespace Go.Proofs.YtndhjkammoeikaaGreatDoor
open Go.RowKit
set_option maxHeartbeats 1000000
set_option maxRecDepth 20000

/-- a Boolean comes back; where it is true, P holds -/
def RB (P : Prop) (e : Ending) : Prop := ∃ b, e = .returned (.bool b) ∧ (b = true → P)

theorem c33 (A : Option Addr) (n cap : Nat) (w : World) : Calls Tryz.prog 33 #[.slice A n cap] w fun en w' => RB (n ≤ 257) en ∧ w = w' := by
  rcases (show n ≤ 8 ∨ n = 257 ∨ (¬ n ≤ 8 ∧ n ≠ 257) by omega) with h | h | ⟨h, h2⟩
  · have h1 : (n : Int) ≤ 8 := by omega
    go_enter Tryz.func33, Tryz.ntmps33
    go_wp2
    go_ret
    exact ⟨⟨true, rfl, fun _ => by first | trivial | omega⟩, rfl⟩
  · subst h
    go_enter Tryz.func33, Tryz.ntmps33
    go_wp2
    go_ret
    exact ⟨⟨true, rfl, fun _ => by first | trivial | omega⟩, rfl⟩
  · have h1 : ¬ (n : Int) ≤ 8 := by omega
    have h3 : ((n : Int) == 257) = false := by simp; omega
    clear h h2
    go_enter Tryz.func33, Tryz.ntmps33
    go_wp2
    go_ret
    exact ⟨⟨false, rfl, fun h => by simp at h⟩, rfl⟩

theorem c37 (A : Option Addr) (n cap : Nat) (w : World) : Calls Tryz.prog 37 #[.slice A n cap] w fun en w' => RB (n ≤ 257) en ∧ w = w' := by
  rcases (show n ≤ 8 ∨ n = 257 ∨ (¬ n ≤ 8 ∧ n ≠ 257) by omega) with h | h | ⟨h, h2⟩
  · have h1 : (n : Int) ≤ 8 := by omega
    go_enter Tryz.func37, Tryz.ntmps37
    go_wp2
    go_ret
    exact ⟨⟨true, rfl, fun _ => by first | trivial | omega⟩, rfl⟩
  · subst h
    go_enter Tryz.func37, Tryz.ntmps37
    go_wp2
    go_ret
    exact ⟨⟨true, rfl, fun _ => by first | trivial | omega⟩, rfl⟩
  · have h1 : ¬ (n : Int) ≤ 8 := by omega
    have h3 : ((n : Int) == 257) = false := by simp; omega
    clear h h2
    go_enter Tryz.func37, Tryz.ntmps37
    go_wp2
    go_ret
    exact ⟨⟨false, rfl, fun h => by simp at h⟩, rfl⟩

theorem c14 (v : Ves) (A : Option Addr) (n cap : Nat) (w : World) : Calls Tryz.prog 14 #[.agg #[.int .i64 v.sx, .int .i64 v.sy, .int .i64 v.dx, .int .i64 v.dy, .int .i64 v.n], .slice A n cap] w fun en w' => RB (n ≤ 65) en ∧ Below w.heap.size w w' := by
  have hB : Below w.heap.size w (w.alloc (Obj.cells #[.int .i64 v.sx, .int .i64 v.sy, .int .i64 v.dx, .int .i64 v.dy, .int .i64 v.n] 25)) := (Below.refl _ _).alloc (Nat.le_refl _) _
  have H : Hid (n ≤ 6 ∨ n = 65 ∨ (¬ n ≤ 6 ∧ n ≠ 65)) := by show _ ∨ _; omega
  by_cases c1 : v.n ≤ 60
  · rcases H.out with h | h | ⟨h, h2⟩
    · have h1 : (n : Int) ≤ 6 := by omega
      go_enter Tryz.func14, Tryz.ntmps14
      go_wp2
      go_ret
      exact ⟨⟨true, rfl, fun _ => by first | trivial | omega⟩, hB⟩
    · subst h
      go_enter Tryz.func14, Tryz.ntmps14
      go_wp2
      go_ret
      exact ⟨⟨true, rfl, fun _ => by first | trivial | omega⟩, hB⟩
    · have h1 : ¬ (n : Int) ≤ 6 := by omega
      have h3 : ((n : Int) == 65) = false := by simp; omega
      clear h h2
      go_enter Tryz.func14, Tryz.ntmps14
      go_wp2
      go_ret
      exact ⟨⟨false, rfl, fun h => by simp at h⟩, hB⟩
  · by_cases c2 : 4096 < v.n
    · rcases H.out with h | h | ⟨h, h2⟩
      · have h1 : (n : Int) ≤ 6 := by omega
        go_enter Tryz.func14, Tryz.ntmps14
        go_wp2
        go_ret
        exact ⟨⟨true, rfl, fun _ => by first | trivial | omega⟩, hB⟩
      · subst h
        go_enter Tryz.func14, Tryz.ntmps14
        go_wp2
        go_ret
        exact ⟨⟨true, rfl, fun _ => by first | trivial | omega⟩, hB⟩
      · have h1 : ¬ (n : Int) ≤ 6 := by omega
        have h3 : ((n : Int) == 65) = false := by simp; omega
        clear h h2
        go_enter Tryz.func14, Tryz.ntmps14
        go_wp2
        go_ret
        exact ⟨⟨false, rfl, fun h => by simp at h⟩, hB⟩
    · go_enter Tryz.func14, Tryz.ntmps14
      go_wp2
      go_ret
      exact ⟨⟨false, rfl, fun h => by simp at h⟩, hB⟩

end Go.Proofs.YtndhjkammoeikaaGreatDoor
namespace Go.Proofs.YtndhjkammoeikaaGreatDoor
namespace Mo
def shoot : ByteArray := ⟨#[115, 104, 111, 111, 116]⟩
def turn : ByteArray := ⟨#[116, 117, 114, 110]⟩
def weather : ByteArray := ⟨#[119, 101, 97, 116, 104, 101, 114]⟩
def animal : ByteArray := ⟨#[97, 110, 105, 109, 97, 108]⟩
def gear : ByteArray := ⟨#[103, 101, 97, 114]⟩
def share : ByteArray := ⟨#[115, 104, 97, 114, 101]⟩
def causes : List ByteArray := [shoot, turn, weather, animal, gear, share]
def idxN (c : ByteArray) : List ByteArray → Nat → Int
  | [], _ => -1
  | a :: l, k => if a.toList == c.toList then k else idxN c l (k + 1)
/-- the cause's number, or -1 -/
def num (c : ByteArray) : Int := idxN c causes 0
theorem idxN_step (c : ByteArray) {l : List ByteArray} {k : Nat} {x : ByteArray} (h : l[k]? = some x) : idxN c (l.drop k) k = if x.toList == c.toList then (k : Int) else idxN c (l.drop (k + 1)) (k + 1) := by
  obtain ⟨hk, rfl⟩ := List.getElem?_eq_some_iff.1 h
  rw [List.drop_eq_getElem_cons hk]; rfl
end Mo
end Go.Proofs.YtndhjkammoeikaaGreatDoor
namespace Go.Proofs.YtndhjkammoeikaaGreatDoor
open Go.RowKit
set_option maxHeartbeats 1000000
set_option maxRecDepth 20000

theorem c60 (w : World) : Calls Tryz.prog 60 #[] w fun en w' => ∃ g : Nat, en = .returned (.slice (some ⟨g, 0, none⟩) 6 6) ∧ w'.heap[g]? = some (.cells (Mo.causes.map Value.string).toArray 9 (0, 0)) ∧ w.heap.size ≤ g ∧ Below w.heap.size w w' := by
  go_enter Tryz.func60, Tryz.ntmps60
  go_wp2
  go_ret
  exact ⟨_, rfl, heap_new (by simp), Nat.le_refl _, (Below.refl _ _).alloc (Nat.le_refl _) _⟩

theorem c61 (w : World) : Calls Tryz.prog 61 #[] w fun en w' => ∃ g : Nat, en = .returned (.slice (some ⟨g, 0, none⟩) 6 6) ∧ w'.heap[g]? = some (.cells (Mo.causes.map Value.string).toArray 9 (0, 0)) ∧ w.heap.size ≤ g ∧ Below w.heap.size w w' := by
  go_enter Tryz.func61, Tryz.ntmps61
  go_wp2
  go_ret
  exact ⟨_, rfl, heap_new (by simp), Nat.le_refl _, (Below.refl _ _).alloc (Nat.le_refl _) _⟩

theorem c81 (w : World) : Calls Tryz.prog 81 #[] w fun en w' => en = .returned (.agg #[.int .i64 0, .int .i64 0, .int .i64 10, .int .i64 0, .int .i64 12]) ∧ Below w.heap.size w w' := by
  go_enter Tryz.func81, Tryz.ntmps81
  go_wp2
  exact bodyPost_ret (results_blk rfl rfl (heap_new (by simp)) _ Tryz.underlying35 rfl (by kernel_rfl)) rfl ⟨rfl, (Below.refl _ _).alloc (Nat.le_refl _) _⟩

theorem c82 (w : World) : Calls Tryz.prog 82 #[] w fun en w' => en = .returned (.agg #[.int .i64 30, .int .i64 5, .int .i64 2, .int .i64 3, .int .i64 2]) ∧ Below w.heap.size w w' := by
  go_enter Tryz.func82, Tryz.ntmps82
  go_wp2
  exact bodyPost_ret (results_blk rfl rfl (heap_new (by simp)) _ Tryz.underlying36 rfl (by kernel_rfl)) rfl ⟨rfl, (Below.refl _ _).alloc (Nat.le_refl _) _⟩

theorem c85 (n : Int) (w : World) : Calls Tryz.prog 85 #[.int .i64 n] w fun en w' => en = .returned (.agg #[.int .i64 100, .int .i64 50, .int .i64 20, .int .i64 10, .int .i64 (-30), .int .i64 5, .int .i64 n, .int .i64 500, .int .i64 200]) ∧ Below w.heap.size w w' := by
  go_enter Tryz.func85, Tryz.ntmps85
  go_wp2
  exact bodyPost_ret (results_blk rfl rfl (heap_new (by simp)) _ Tryz.underlying130 rfl (by kernel_rfl)) rfl ⟨rfl, (Below.refl _ _).alloc (Nat.le_refl _) _⟩

theorem c83 (w : World) : Calls Tryz.prog 83 #[] w fun en w' => ∃ g : Nat, en = .returned (.slice (some ⟨g, 0, none⟩) 1 1) ∧ w'.heap[g]? = some (.cells #[.int .i64 2, .int .i64 40, .int .i64 0] 166 (0, 0)) ∧ w.heap.size ≤ g ∧ Below w.heap.size w w' := by
  go_enter Tryz.func83, Tryz.ntmps83
  go_wp2
  go_ret
  exact ⟨_, rfl, heap_new (by simp), Nat.le_refl _, (Below.refl _ _).alloc (Nat.le_refl _) _⟩

theorem c84 (w : World) : Calls Tryz.prog 84 #[] w fun en w' => ∃ g : Nat, en = .returned (.slice (some ⟨g, 0, none⟩) 2 2) ∧ w'.heap[g]? = some (.cells #[.int .i64 0, .int .i64 11, .int .i64 11, .int .i64 20] 96 (0, 0)) ∧ w.heap.size ≤ g ∧ Below w.heap.size w w' := by
  go_enter Tryz.func84, Tryz.ntmps84
  go_wp2
  go_ret
  exact ⟨_, rfl, heap_new (by simp), Nat.le_refl _, (Below.refl _ _).alloc (Nat.le_refl _) _⟩

theorem c86 (w : World) : Calls Tryz.prog 86 #[] w fun en w' => ∃ g : Nat, en = .returned (.slice (some ⟨g, 0, none⟩) 2 2) ∧ w'.heap[g]? = some (.cells #[.string ⟨#[97]⟩, .int .i64 3, .int .i64 3, .string ⟨#[98]⟩, .int .i64 2, .int .i64 3] 210 (0, 0)) ∧ w.heap.size ≤ g ∧ Below w.heap.size w w' := by
  go_enter Tryz.func86, Tryz.ntmps86
  go_wp2
  go_ret
  exact ⟨_, rfl, heap_new (by simp), Nat.le_refl _, (Below.refl _ _).alloc (Nat.le_refl _) _⟩

theorem c115 (c : ByteArray) (w : World) : Calls Tryz.prog 115 #[.string c] w fun en w' => en = .returned (.int .i64 (Mo.num c)) ∧ Below w.heap.size w w' := by
  go_enter Tryz.func115, Tryz.ntmps115
  go_wp2_with fail
  refine (c61 _).mono ?_
  rintro e w1 ⟨g, rfl, hg, hge, hb1⟩
  have hgl : g < w1.heap.size := (Array.getElem?_eq_some_iff.1 hg).1
  have hcs : ∀ k x, Mo.causes[k]? = some x → w1.cell? ⟨g, k, none⟩ = some (.string x) := fun k x hx => cell_at hg (by simp [hx])
  have HC := Lib.hid hcs
  clear hg hcs
  go_wp2
  go_loopw [4] (fun i wr => ∃ k : Nat, k ≤ 6 ∧ i = .int .i64 k ∧ Below w1.heap.size w1 wr ∧ Mo.num c = Mo.idxN c (Mo.causes.drop k) k) (fun i _ => 6 - (intOf i).toNat)
  case atStart => exact ⟨0, by omega, rfl, Below.refl _ _, rfl⟩
  case round =>
    obtain ⟨k, hk, rfl, hB, he⟩ := hrel
    have HE := Lib.hid he
    clear he
    by_cases hlt : k < 6
    · obtain ⟨x, hx⟩ : ∃ x, Mo.causes[k]? = some x := ⟨_, List.getElem?_eq_getElem (by show k < 6; exact hlt)⟩
      have q0 : wr.cell? ⟨g, k, none⟩ = some (.string x) := ((bcell hB).1 _ _ hgl).trans (HC.out k x hx)
      have hst := Lib.hid (Mo.idxN_step c hx)
      have hx1 : (0 : Int) ≤ (k : Int) := by omega
      have hx2 : (k : Int) < 6 := by omega
      clear hx
      cases hxc : (x.toList == c.toList)
      · have hs2 : Hid (Mo.num c = Mo.idxN c (Mo.causes.drop (k + 1)) (k + 1)) := by show _ = _; rw [HE.out, hst.out, hxc]; rfl
        go_wp2

        go_roundw

        case rel => exact ⟨k + 1, by omega, by go_num, hB, hs2.out⟩
        case measure => simp [intOf]; omega
      · have hfin : Hid (Mo.num c = k) := by show _ = _; rw [HE.out, hst.out, hxc]; rfl
        go_wp2
        go_ret
        exact ⟨ret_int hfin.out.symm, fin0 hb1 hB⟩
    · obtain rfl : k = 6 := by omega
      have hfin : Hid (Mo.num c = -1) := by show _ = _; rw [HE.out]; rfl
      go_wp2
      go_ret
      exact ⟨ret_int hfin.out.symm, fin0 hb1 hB⟩

end Go.Proofs.YtndhjkammoeikaaGreatDoor
namespace Go.Proofs.YtndhjkammoeikaaGreatDoor
namespace Mo
def touch (s e : Ent) : Bool := (s.c.toList == e.c.toList) && (s.t == e.f)
def mergeStep (r : List Ent) (e : Ent) : List Ent := match r.getLast? with
  | some s => if touch s e then r.dropLast ++ [⟨s.f, e.t, s.c⟩] else r ++ [e]
  | none => [e]
def merged (l : List Ent) : List Ent := l.foldl mergeStep []
theorem mergeStep_nil (e : Ent) : mergeStep [] e = [e] := rfl
theorem mergeStep_eq (r : List Ent) (s e : Ent) (h : touch s e = true) : mergeStep (r ++ [s]) e = r ++ [⟨s.f, e.t, s.c⟩] := by
  unfold mergeStep; simp [h]
theorem mergeStep_ne (r : List Ent) (s e : Ent) (h : touch s e = false) : mergeStep (r ++ [s]) e = r ++ [s] ++ [e] := by
  unfold mergeStep; simp [h]
theorem mergeStep_len (r : List Ent) (e : Ent) : (mergeStep r e).length ≤ r.length + 1 := by
  rcases List.eq_nil_or_concat r with rfl | ⟨r', s, rfl⟩
  · simp [mergeStep_nil]
  · rw [List.concat_eq_append]
    cases h : touch s e
    · rw [mergeStep_ne _ _ _ h]; simp
    · rw [mergeStep_eq _ _ _ h]; simp
def mtake (l : List Ent) (k : Nat) : List Ent := merged (l.take k)
theorem mtake_zero (l : List Ent) : mtake l 0 = [] := rfl
theorem mtake_succ {l : List Ent} {k : Nat} {e : Ent} (h : l[k]? = some e) : mtake l (k + 1) = mergeStep (mtake l k) e := by
  obtain ⟨hk, rfl⟩ := List.getElem?_eq_some_iff.1 h
  unfold mtake merged
  rw [List.take_succ_eq_append_getElem hk, List.foldl_append]; rfl
theorem mtake_len (l : List Ent) (k : Nat) : (mtake l k).length ≤ k := by
  induction k with
  | zero => simp [mtake_zero]
  | succ k ih =>
    cases h : l[k]? with
    | some e => rw [mtake_succ h]; have := mergeStep_len (mtake l k) e; omega
    | none =>
      have hk := List.getElem?_eq_none_iff.1 h
      have : mtake l (k + 1) = mtake l k := by unfold mtake; rw [List.take_of_length_le (by omega), List.take_of_length_le (by omega)]
      rw [this]; omega
theorem mtake_all (l : List Ent) : mtake l l.length = merged l := by unfold mtake; rw [List.take_length]
theorem flat3 (r : List Ent) : (r.flatMap Ent.enc).length = r.length * 3 := by
  induction r with
  | nil => rfl
  | cons a r ih => simp only [List.flatMap_cons, List.length_append, ih, List.length_cons]; simp [Ent.enc]; omega
theorem flat_set3 (r : List Ent) (s : Ent) (x : Int) : ((r ++ [s]).flatMap Ent.enc).set (r.length * 3 + 1) (.int .i64 x) = (r ++ [(⟨s.f, x, s.c⟩ : Ent)]).flatMap Ent.enc := by
  have hl := flat3 r
  rw [List.flatMap_append, List.flatMap_append, List.set_append_right _ _ (by omega), hl]
  have : r.length * 3 + 1 - r.length * 3 = 1 := by omega
  rw [this]; rfl
theorem flat_last3 (r : List Ent) (s : Ent) (j : Nat) : ((r ++ [s]).flatMap Ent.enc)[r.length * 3 + j]? = s.enc[j]? := by
  have hl := flat3 r
  rw [List.flatMap_append, List.getElem?_append_right (by omega), hl]
  have : r.length * 3 + j - r.length * 3 = j := by omega
  rw [this]; simp
end Mo
end Go.Proofs.YtndhjkammoeikaaGreatDoor
namespace Go.Proofs.YtndhjkammoeikaaGreatDoor
open Go.RowKit
set_option maxHeartbeats 1000000
set_option maxRecDepth 20000

theorem c57 (A : Option Addr) (cap : Nat) (l : List Ent) (w : World) (hl : l.length ≤ 1000000) (H : RdL w 3 Ent.enc A l) :
    Calls Tryz.prog 57 #[.slice A l.length cap] w fun en w' => ∃ x, en = .returned x ∧ Sl w' 3 x (Mo.merged l).length ((Mo.merged l).flatMap Ent.enc) ∧ Below w.heap.size w w' := by
  obtain ⟨i0, hi, hz0, hz1, hz2⟩ := info_parts info188
  have hall := Mo.mtake_all l
  obtain ⟨n, hn⟩ : ∃ n, n = l.length := ⟨_, rfl⟩
  rw [← hn] at hl hall ⊢
  have Hn := Lib.hid hn
  have Hall := Lib.hid hall
  clear hn hall
  go_enter Tryz.func57, Tryz.ntmps57
  go_wp2
  go_loopw [3, 4] (fun x i wr => ∃ k : Nat, k ≤ n ∧ i = .int .i64 k ∧ wr.ownsRow w.heap.size 188 3 x (Mo.mtake l k).length ((Mo.mtake l k).flatMap Ent.enc) ∧ Below w.heap.size w wr) (fun _ i _ => n - (intOf i).toNat)
  case atStart => exact ⟨0, Nat.zero_le _, rfl, World.ownsRow_nil _ _ _ _, Below.refl _ _⟩
  case round =>
    obtain ⟨k, hk, rfl, hown, hB⟩ := hrel
    by_cases hlt : k < n
    · have hlen := Mo.mtake_len l k
      obtain ⟨b, off, e, rfl, hx, hb, hc⟩ := (H.below hB).at Ent.len (by rw [← Hn.out]; exact hlt)
      have q0 : wr.cell? ⟨b, off + k * 3, none⟩ = some (.int .i64 e.f) := hc 0 (by omega)
      have q1 : wr.cell? ⟨b, off + k * 3 + 1, none⟩ = some (.int .i64 e.t) := hc 1 (by omega)
      have q2 : wr.cell? ⟨b, off + k * 3 + 2, none⟩ = some (.string e.c) := hc 2 (by omega)
      have hst := Mo.mtake_succ hx
      obtain ⟨r, hr⟩ : ∃ r, r = Mo.mtake l k := ⟨_, rfl⟩
      rw [← hr] at hown hlen hst
      have HST := Lib.hid hst
      have hx1 : (0 : Int) ≤ (k : Int) := by omega
      have hx2 : (k : Int) < (n : Int) := by omega
      clear hst hr hc hx
      rcases List.eq_nil_or_concat r with rfl | ⟨r', s, rfl⟩
      · have HP : Hid (Mo.mtake l (k + 1) = [e]) := HST.out
        obtain ⟨A0, c0, rfl⟩ : ∃ A0 c0, u3 = .slice A0 0 c0 := by
          rcases hown.2 with ⟨h, _⟩ | ⟨g, cap, cur, h, _⟩
          · exact ⟨none, 0, h⟩
          · exact ⟨_, cap, h⟩
        simp only [List.length_nil, List.flatMap_nil] at hown
        go_wp2
        refine wp_region_growG (by kernel_rfl) (by kernel_rfl) ?_
        repeat (go_big_quiet_step ((first | fail)))
        refine wpQuiet_nil (gw_out ?_)
        intro w1 hb1
        have hown1 := own_below hown hb1
        have hB1 := hB.call hb1 rfl
        have hsz := hB1.size
        have p0 : w1.cell? ⟨b, off + k * 3, none⟩ = some (.int .i64 e.f) := (hb1.cell (p := ⟨b, _, none⟩) hb).trans q0
        have p1 : w1.cell? ⟨b, off + k * 3 + 1, none⟩ = some (.int .i64 e.t) := (hb1.cell (p := ⟨b, _, none⟩) hb).trans q1
        have p2 : w1.cell? ⟨b, off + k * 3 + 2, none⟩ = some (.string e.c) := (hb1.cell (p := ⟨b, _, none⟩) hb).trans q2
        have hb' : b < w1.heap.size := Nat.lt_of_lt_of_le hb hb1.size
        clear hown hb1 q0 q1 q2
        go_wp2_with (at_builtin; refine wpList_append_own _ rfl _ _ 79 rfl w.heap.size 188 i0 (.agg #[.int .i64 0, .int .i64 0, .string ByteArray.empty]) 3 32 Tryz.underlying79 hi hz0 hz1 hz2 rfl (by decide) _ _ _ rfl (hown1.alloc _) ⟨w1.heap.size, 0, none⟩ 1 1 [.int .i64 e.f, .int .i64 e.t, .string e.c] rfl rfl (news_one _ _ rfl) (by intro x hx; simp at hx; first | (subst hx; rfl) | (rcases hx with rfl | rfl <;> rfl) | (rcases hx with rfl | rfl | rfl <;> rfl)) (by unfold maxLen; omega) (by omega) (by simp; omega) ?_)
        intro x' w3 hown3 hg3 _
        have hB3 : Below w.heap.size w w3 := (hB1.alloc hsz _).grown hg3 (by simp; omega) (fun g hg => (hown1.lt g hg).1)
        have HO := Lib.hid hown3
        clear hown3 hg3 hown1
        go_wp2
        go_roundw
        case rel => exact ⟨k + 1, by omega, by go_num, by rw [HP.out]; exact HO.out, hB3⟩
        case measure => simp [intOf]; omega
      · rw [List.concat_eq_append] at HST hown hlen
        obtain ⟨m, hm⟩ : ∃ m, m = r'.length := ⟨_, rfl⟩
        have hlm : (r' ++ [s]).length = m + 1 := by simp [hm]
        rw [hlm] at hown hlen
        obtain ⟨g, cap', rfl, hgB, hgl⟩ := hown.form (by omega)
        have hc1 := hown.cellAt (m * 3 + 1) (by omega)
        have hc2 := hown.cellAt (m * 3 + 2) (by omega)
        rw [hm, Mo.flat_last3, ← hm] at hc1 hc2
        simp only [Ent.enc, List.getElem?_cons_succ, List.getElem?_cons_zero] at hc1 hc2
        have HM := Lib.hid hm
        clear hm hlm
        cases hcc : (s.c.toList == e.c.toList)
        · have hto : Hid (Mo.touch s e = false) := by show _ = _; unfold Mo.touch; rw [hcc]; rfl
          have HT : Hid (Mo.mtake l (k + 1) = r' ++ [s] ++ [e]) := by show _ = _; rw [HST.out, Mo.mergeStep_ne _ _ _ hto.out]
          go_wp2
          refine wp_region_growG (by kernel_rfl) (by kernel_rfl) ?_
          repeat (go_big_quiet_step ((first | fail)))
          refine wpQuiet_nil (gw_out ?_)
          intro w1 hb1
          have hown1 := own_below hown hb1
          have hB1 := hB.call hb1 rfl
          have hsz := hB1.size
          have p0 : w1.cell? ⟨b, off + k * 3, none⟩ = some (.int .i64 e.f) := (hb1.cell (p := ⟨b, _, none⟩) hb).trans q0
          have p1 : w1.cell? ⟨b, off + k * 3 + 1, none⟩ = some (.int .i64 e.t) := (hb1.cell (p := ⟨b, _, none⟩) hb).trans q1
          have p2 : w1.cell? ⟨b, off + k * 3 + 2, none⟩ = some (.string e.c) := (hb1.cell (p := ⟨b, _, none⟩) hb).trans q2
          have hb' : b < w1.heap.size := Nat.lt_of_lt_of_le hb hb1.size
          clear hown hb1 q0 q1 q2 hc1 hc2 HST
          go_wp2_with (at_builtin; refine wpList_append_own _ rfl _ _ 79 rfl w.heap.size 188 i0 (.agg #[.int .i64 0, .int .i64 0, .string ByteArray.empty]) 3 32 Tryz.underlying79 hi hz0 hz1 hz2 rfl (by decide) _ _ _ rfl (hown1.alloc _) ⟨w1.heap.size, 0, none⟩ 1 1 [.int .i64 e.f, .int .i64 e.t, .string e.c] rfl rfl (news_one _ _ rfl) (by intro x hx; simp at hx; first | (subst hx; rfl) | (rcases hx with rfl | rfl <;> rfl) | (rcases hx with rfl | rfl | rfl <;> rfl)) (by unfold maxLen; omega) (by omega) (by simp; omega) ?_)
          intro x' w3 hown3 hg3 _
          have hB3 : Below w.heap.size w w3 := (hB1.alloc hsz _).grown hg3 (by simp; omega) (fun g hg => (hown1.lt g hg).1)
          have HO := Lib.hid hown3
          clear hown3 hg3 hown1
          go_wp2
          go_roundw
          case rel => exact ⟨k + 1, by omega, by go_num, by rw [HT.out, List.length_append, List.length_append, List.length_singleton, List.length_singleton, ← HM.out, List.flatMap_append, List.flatMap_append, List.append_assoc]; exact HO.out, hB3⟩
          case measure => simp [intOf]; omega
        · cases htt : (s.t == e.f)
          · have hto : Hid (Mo.touch s e = false) := by show _ = _; unfold Mo.touch; rw [htt]; simp
            have HT : Hid (Mo.mtake l (k + 1) = r' ++ [s] ++ [e]) := by show _ = _; rw [HST.out, Mo.mergeStep_ne _ _ _ hto.out]
            go_wp2
            refine wp_region_growG (by kernel_rfl) (by kernel_rfl) ?_
            repeat (go_big_quiet_step ((first | fail)))
            refine wpQuiet_nil (gw_out ?_)
            intro w1 hb1
            have hown1 := own_below hown hb1
            have hB1 := hB.call hb1 rfl
            have hsz := hB1.size
            have p0 : w1.cell? ⟨b, off + k * 3, none⟩ = some (.int .i64 e.f) := (hb1.cell (p := ⟨b, _, none⟩) hb).trans q0
            have p1 : w1.cell? ⟨b, off + k * 3 + 1, none⟩ = some (.int .i64 e.t) := (hb1.cell (p := ⟨b, _, none⟩) hb).trans q1
            have p2 : w1.cell? ⟨b, off + k * 3 + 2, none⟩ = some (.string e.c) := (hb1.cell (p := ⟨b, _, none⟩) hb).trans q2
            have hb' : b < w1.heap.size := Nat.lt_of_lt_of_le hb hb1.size
            clear hown hb1 q0 q1 q2 hc1 hc2 HST
            go_wp2_with (at_builtin; refine wpList_append_own _ rfl _ _ 79 rfl w.heap.size 188 i0 (.agg #[.int .i64 0, .int .i64 0, .string ByteArray.empty]) 3 32 Tryz.underlying79 hi hz0 hz1 hz2 rfl (by decide) _ _ _ rfl (hown1.alloc _) ⟨w1.heap.size, 0, none⟩ 1 1 [.int .i64 e.f, .int .i64 e.t, .string e.c] rfl rfl (news_one _ _ rfl) (by intro x hx; simp at hx; first | (subst hx; rfl) | (rcases hx with rfl | rfl <;> rfl) | (rcases hx with rfl | rfl | rfl <;> rfl)) (by unfold maxLen; omega) (by omega) (by simp; omega) ?_)
            intro x' w3 hown3 hg3 _
            have hB3 : Below w.heap.size w w3 := (hB1.alloc hsz _).grown hg3 (by simp; omega) (fun g hg => (hown1.lt g hg).1)
            have HO := Lib.hid hown3
            clear hown3 hg3 hown1
            go_wp2
            go_roundw
            case rel => exact ⟨k + 1, by omega, by go_num, by rw [HT.out, List.length_append, List.length_append, List.length_singleton, List.length_singleton, ← HM.out, List.flatMap_append, List.flatMap_append, List.append_assoc]; exact HO.out, hB3⟩
            case measure => simp [intOf]; omega
          · have HT : Hid (Mo.mtake l (k + 1) = r' ++ [⟨s.f, e.t, s.c⟩]) := by show _ = _; rw [HST.out, Mo.mergeStep_eq _ _ _ (by unfold Mo.touch; rw [hcc, htt]; rfl)]
            go_wp2
            refine wp_region_growG (by kernel_rfl) (by kernel_rfl) ?_
            repeat (go_big_quiet_step ((first | fail)))
            refine wpQuiet_nil (gw_out ?_)
            intro w1 hb1
            have hown1 := own_below hown hb1
            have hB1 := hB.call hb1 rfl
            have hfz := hown1.frozenAt (m * 3 + 1)
            have hc1' := hown1.cellAt (m * 3 + 1) (by omega)
            rw [HM.out, Mo.flat_last3, ← HM.out] at hc1'
            simp only [Ent.enc, List.getElem?_cons_succ, List.getElem?_cons_zero] at hc1'
            have p1 : w1.cell? ⟨b, off + k * 3 + 1, none⟩ = some (.int .i64 e.t) := (hb1.cell (p := ⟨b, _, none⟩) hb).trans q1
            have hst := hown1.stored (m * 3 + 1) (.int .i64 e.t)
            rw [HM.out, Mo.flat_set3, ← HM.out] at hst
            have HO := Lib.hid hst.1
            have hB3 := hB1.setCell (p := ⟨g, m * 3 + 1, none⟩) hgB (.int .i64 e.t)
            clear hst hown hb1 q0 q1 q2 hc1 hc2 HST hown1 hcc htt
            go_wp2
            go_roundw
            case rel => exact ⟨k + 1, by omega, by go_num, by rw [HT.out, List.length_append, List.length_singleton, ← HM.out]; exact HO.out, hB3⟩
            case measure => simp [intOf]; omega
    · obtain rfl : k = n := by omega
      rw [Hall.out] at hown
      have HO := Lib.hid hown
      clear hown
      go_wp2
      go_ret
      exact ⟨_, rfl, Sl.of_own HO.out, hB⟩

end Go.Proofs.YtndhjkammoeikaaGreatDoor
namespace Go.Proofs.YtndhjkammoeikaaGreatDoor
open Go.RowKit
set_option maxHeartbeats 1000000
set_option maxRecDepth 20000

theorem c153 (a b : Ent) (w : World) : Calls Tryz.prog 153 #[.agg #[.int .i64 a.f, .int .i64 a.t, .string a.c], .agg #[.int .i64 b.f, .int .i64 b.t, .string b.c]] w fun en w' => en = .returned (.bool (Mo.touch a b)) ∧ Below w.heap.size w w' := by
  have hB : Below w.heap.size w ((w.alloc (Obj.cells #[.int .i64 a.f, .int .i64 a.t, .string a.c] 134)).alloc (Obj.cells #[.int .i64 b.f, .int .i64 b.t, .string b.c] 134)) := (((Below.refl _ _).alloc (by first | omega | (simp <;> omega)) _).alloc (by first | omega | (simp <;> omega)) _)
  cases h1 : (a.c.toList == b.c.toList)
  · have hv : Hid (Mo.touch a b = false) := by show _ = _; unfold Mo.touch; rw [h1]; rfl
    go_enter Tryz.func153, Tryz.ntmps153
    go_wp2
    go_ret
    exact ⟨by rw [hv.out]; rfl, hB⟩
  · cases h2 : (a.t == b.f)
    · have hv : Hid (Mo.touch a b = false) := by show _ = _; unfold Mo.touch; rw [h1, h2]; rfl
      go_enter Tryz.func153, Tryz.ntmps153
      go_wp2
      go_ret
      exact ⟨by rw [hv.out]; rfl, hB⟩
    · have hv : Hid (Mo.touch a b = true) := by show _ = _; unfold Mo.touch; rw [h1, h2]; rfl
      go_enter Tryz.func153, Tryz.ntmps153
      go_wp2
      go_ret
      exact ⟨by rw [hv.out]; rfl, hB⟩
theorem c121 (a b : Ent) (w : World) : Calls Tryz.prog 121 #[.agg #[.int .i64 a.f, .int .i64 a.t, .string a.c], .agg #[.int .i64 b.f, .int .i64 b.t, .string b.c]] w fun en w' => en = .returned (.bool (decide (b.f < a.t))) ∧ Below w.heap.size w w' := by
  have hB : Below w.heap.size w ((w.alloc (Obj.cells #[.int .i64 a.f, .int .i64 a.t, .string a.c] 134)).alloc (Obj.cells #[.int .i64 b.f, .int .i64 b.t, .string b.c] 134)) := (((Below.refl _ _).alloc (by first | omega | (simp <;> omega)) _).alloc (by first | omega | (simp <;> omega)) _)
  by_cases h : b.f < a.t
  · go_enter Tryz.func121, Tryz.ntmps121
    go_wp2
    go_ret
    exact ⟨by simp [h], hB⟩
  · go_enter Tryz.func121, Tryz.ntmps121
    go_wp2
    go_ret
    exact ⟨by simp [h], hB⟩
theorem c109 (A : Option Addr) (cap : Nat) (l : List Ent) (w : World) (hl : l.length ≤ 1000000) (H : RdL w 3 Ent.enc A l) :
    Calls Tryz.prog 109 #[.slice A l.length cap] w fun en w' => ∃ x, en = .returned x ∧ Sl w' 3 x (Mo.merged l).length ((Mo.merged l).flatMap Ent.enc) ∧ Below w.heap.size w w' := by
  obtain ⟨i0, hi, hz0, hz1, hz2⟩ := info_parts info134
  have hall := Mo.mtake_all l
  obtain ⟨n, hn⟩ : ∃ n, n = l.length := ⟨_, rfl⟩
  rw [← hn] at hl hall ⊢
  have Hn := Lib.hid hn
  have Hall := Lib.hid hall
  clear hn hall
  obtain ⟨M, hMs, hmk⟩ : ∃ M : Array Value, M.size = n * 3 ∧ ∀ W : World, (Instr.makeSlice 74 (.int .i64 0) (.int .i64 (n : Int))).run Tryz.prog W = .ok (.slice (some ⟨W.heap.size, 0, none⟩) 0 n) (W.alloc (.cells M 134)) := by
    refine ⟨madeCells (Value.agg #[.int .i64 0, .int .i64 0, .string ByteArray.empty]).cells (n * i0.size), by rw [size_madeCells, hz1], fun W => ?_⟩
    have hr := run_make (P := Tryz.prog) W 74 134 i0 _ Tryz.underlying74 hi hz0 .i64 .i64 0 n (by omega) (by omega) (by rw [hz2]; omega) (by omega)
    simpa using hr
  go_enter Tryz.func109, Tryz.ntmps109
  go_wp2
  have hown0 : (w.alloc (.cells M 134)).ownsRow w.heap.size 134 3 (.slice (some ⟨w.heap.size, 0, none⟩) 0 n) 0 [] := World.ownsRow_made w M n (Nat.le_refl _) (by unfold maxLen; omega) hMs
  have hB0 : Below w.heap.size w (w.alloc (.cells M 134)) := (Below.refl _ _).alloc (Nat.le_refl _) _
  clear hmk
  go_loopw [4, 13] (fun x i wr => ∃ k : Nat, k ≤ n ∧ i = .int .i64 k ∧ wr.ownsRow w.heap.size 134 3 x (Mo.mtake l k).length ((Mo.mtake l k).flatMap Ent.enc) ∧ Below w.heap.size w wr) (fun _ i _ => n - (intOf i).toNat)
  case atStart => exact ⟨0, Nat.zero_le _, rfl, hown0, hB0⟩
  case round =>
    obtain ⟨k, hk, rfl, hown, hB⟩ := hrel
    by_cases hlt : k < n
    · have hlen := Mo.mtake_len l k
      obtain ⟨b, off, e, rfl, hx, hb, hc⟩ := (H.below hB).at Ent.len (by rw [← Hn.out]; exact hlt)
      have q0 : wr.cell? ⟨b, off + k * 3, none⟩ = some (.int .i64 e.f) := hc 0 (by omega)
      have q1 : wr.cell? ⟨b, off + k * 3 + 1, none⟩ = some (.int .i64 e.t) := hc 1 (by omega)
      have q2 : wr.cell? ⟨b, off + k * 3 + 2, none⟩ = some (.string e.c) := hc 2 (by omega)
      have hst := Mo.mtake_succ hx
      obtain ⟨r, hr⟩ : ∃ r, r = Mo.mtake l k := ⟨_, rfl⟩
      rw [← hr] at hown hlen hst
      have HST := Lib.hid hst
      obtain ⟨W1, hW1⟩ : ∃ W1, W1 = wr.alloc (Obj.cells #[.int .i64 e.f, .int .i64 e.t, .string e.c] 134) := ⟨_, rfl⟩
      obtain ⟨bb, hbbe⟩ : ∃ bb, bb = wr.heap.size := ⟨_, rfl⟩
      have hBr : Below wr.heap.size wr W1 := by rw [hW1]; exact (Below.refl _ _).alloc (Nat.le_refl _) _
      have hownW := own_below hown hBr
      have hBW : Below w.heap.size w W1 := by rw [hW1]; exact hB.alloc hB.size _
      have hT : W1.heap[bb]? = some (.cells #[.int .i64 e.f, .int .i64 e.t, .string e.c] 134 (0, 0)) := by rw [hW1, hbbe]; exact heap_new (by simp)
      have a0 : W1.cell? ⟨bb, 0, none⟩ = some (.int .i64 e.f) := cell_at hT rfl
      have a1 : W1.cell? ⟨bb, 1, none⟩ = some (.int .i64 e.t) := cell_at hT rfl
      have a2 : W1.cell? ⟨bb, 2, none⟩ = some (.string e.c) := cell_at hT rfl
      have hbb : bb < W1.heap.size := by rw [hW1, hbbe]; simp
      clear hst hr hc hx hT hBr hown
      rcases List.eq_nil_or_concat r with rfl | ⟨r', s, rfl⟩
      · have HP : Hid (Mo.mtake l (k + 1) = [e]) := HST.out
        obtain ⟨A0, c0, rfl⟩ : ∃ A0 c0, u4 = .slice A0 0 c0 := by
          rcases hownW.2 with ⟨h, _⟩ | ⟨g, cap, cur, h, _⟩
          · exact ⟨none, 0, h⟩
          · exact ⟨_, cap, h⟩
        simp only [List.length_nil, List.flatMap_nil] at hownW
        go_wp2
        rw [← hW1, ← hbbe]
        clear hW1 hbbe
        refine wp_region_growG (by kernel_rfl) (by kernel_rfl) ?_
        repeat (go_big_quiet_step ((first | fail)))
        refine wpQuiet_nil (gw_out ?_)
        intro w1 hb1
        have hown1 := own_below hownW hb1
        have hB1 := hBW.call hb1 rfl
        have hsz := hB1.size
        have p0 : w1.cell? ⟨bb, 0, none⟩ = some (.int .i64 e.f) := (hb1.cell (p := ⟨bb, _, none⟩) hbb).trans a0
        have p1 : w1.cell? ⟨bb, 1, none⟩ = some (.int .i64 e.t) := (hb1.cell (p := ⟨bb, _, none⟩) hbb).trans a1
        have p2 : w1.cell? ⟨bb, 2, none⟩ = some (.string e.c) := (hb1.cell (p := ⟨bb, _, none⟩) hbb).trans a2
        have hbb' : bb < w1.heap.size := Nat.lt_of_lt_of_le hbb hb1.size
        clear hownW hb1 a0 a1 a2
        go_wp2_with (at_builtin; refine wpList_append_own _ rfl _ _ 74 rfl w.heap.size 134 i0 (.agg #[.int .i64 0, .int .i64 0, .string ByteArray.empty]) 3 32 Tryz.underlying74 hi hz0 hz1 hz2 rfl (by decide) _ _ _ rfl (hown1.alloc _) ⟨w1.heap.size, 0, none⟩ 1 1 [.int .i64 e.f, .int .i64 e.t, .string e.c] rfl rfl (news_one _ _ rfl) (by intro x hx; simp at hx; first | (subst hx; rfl) | (rcases hx with rfl | rfl <;> rfl) | (rcases hx with rfl | rfl | rfl <;> rfl)) (by unfold maxLen; omega) (by omega) (by simp; omega) ?_)
        intro x' w3 hown3 hg3 _
        have hB3 : Below w.heap.size w w3 := (hB1.alloc hsz _).grown hg3 (by simp; omega) (fun g hg => (hown1.lt g hg).1)
        have HO := Lib.hid hown3
        clear hown3 hg3 hown1
        go_wp2
        go_roundw
        case rel => exact ⟨k + 1, by omega, by go_num, by rw [HP.out]; exact HO.out, hB3⟩
        case measure => simp [intOf]; omega
      · rw [List.concat_eq_append] at HST hownW hlen
        obtain ⟨m, hm⟩ : ∃ m, m = r'.length := ⟨_, rfl⟩
        have hlm : (r' ++ [s]).length = m + 1 := by simp [hm]
        rw [hlm] at hownW hlen
        obtain ⟨g, cap', rfl, hgB, hgl⟩ := hownW.form (by omega)
        have hc0 := hownW.cellAt (m * 3 + 0) (by omega)
        have hc1 := hownW.cellAt (m * 3 + 1) (by omega)
        have hc2 := hownW.cellAt (m * 3 + 2) (by omega)
        rw [hm, Mo.flat_last3, ← hm] at hc0 hc1 hc2
        simp only [Ent.enc, List.getElem?_cons_succ, List.getElem?_cons_zero, Nat.add_zero] at hc0 hc1 hc2
        have HM := Lib.hid hm
        clear hm hlm
        cases hto : Mo.touch s e
        · have HT : Hid (Mo.mtake l (k + 1) = r' ++ [s] ++ [e]) := by show _ = _; rw [HST.out, Mo.mergeStep_ne _ _ _ hto]
          have HTO := Lib.hid (c153 s e)
          rw [hto] at HTO
          clear hto HST
          go_wp2
          rw [← hW1, ← hbbe]
          clear hW1 hbbe
          refine wp_region_growG (by kernel_rfl) (by kernel_rfl) ?_
          repeat (go_big_quiet_step ((first | (go_at_call 153; exact Calls.gw_of ((HTO.out _))))))
          refine wpQuiet_nil (gw_out ?_)
          intro w1 hb1
          clear hc0 hc1 hc2
          have hown1 := own_below hownW hb1
          have hB1 := hBW.call hb1 rfl
          have hsz := hB1.size
          have p0 : w1.cell? ⟨bb, 0, none⟩ = some (.int .i64 e.f) := (hb1.cell (p := ⟨bb, _, none⟩) hbb).trans a0
          have p1 : w1.cell? ⟨bb, 1, none⟩ = some (.int .i64 e.t) := (hb1.cell (p := ⟨bb, _, none⟩) hbb).trans a1
          have p2 : w1.cell? ⟨bb, 2, none⟩ = some (.string e.c) := (hb1.cell (p := ⟨bb, _, none⟩) hbb).trans a2
          have hbb' : bb < w1.heap.size := Nat.lt_of_lt_of_le hbb hb1.size
          clear hownW hb1 a0 a1 a2
          go_wp2_with (at_builtin; refine wpList_append_own _ rfl _ _ 74 rfl w.heap.size 134 i0 (.agg #[.int .i64 0, .int .i64 0, .string ByteArray.empty]) 3 32 Tryz.underlying74 hi hz0 hz1 hz2 rfl (by decide) _ _ _ rfl (hown1.alloc _) ⟨w1.heap.size, 0, none⟩ 1 1 [.int .i64 e.f, .int .i64 e.t, .string e.c] rfl rfl (news_one _ _ rfl) (by intro x hx; simp at hx; first | (subst hx; rfl) | (rcases hx with rfl | rfl <;> rfl) | (rcases hx with rfl | rfl | rfl <;> rfl)) (by unfold maxLen; omega) (by omega) (by simp; omega) ?_)
          intro x' w3 hown3 hg3 _
          have hB3 : Below w.heap.size w w3 := (hB1.alloc hsz _).grown hg3 (by simp; omega) (fun g hg => (hown1.lt g hg).1)
          have HO := Lib.hid hown3
          clear hown3 hg3 hown1
          go_wp2
          go_roundw
          case rel => exact ⟨k + 1, by omega, by go_num, by rw [HT.out, List.length_append, List.length_append, List.length_singleton, List.length_singleton, ← HM.out, List.flatMap_append, List.flatMap_append, List.append_assoc]; exact HO.out, hB3⟩
          case measure => simp [intOf]; omega
        · have HT : Hid (Mo.mtake l (k + 1) = r' ++ [⟨s.f, e.t, s.c⟩]) := by show _ = _; rw [HST.out, Mo.mergeStep_eq _ _ _ hto]
          have HTO := Lib.hid (c153 s e)
          rw [hto] at HTO
          clear hto HST
          go_wp2
          rw [← hW1, ← hbbe]
          clear hW1 hbbe
          refine wp_region_growG (by kernel_rfl) (by kernel_rfl) ?_
          repeat (go_big_quiet_step ((first | (go_at_call 153; exact Calls.gw_of ((HTO.out _))))))
          refine wpQuiet_nil (gw_out ?_)
          intro w1 hb1
          clear hc0 hc1 hc2
          have hown1 := own_below hownW hb1
          have hB1 := hBW.call hb1 rfl
          have hfz := hown1.frozenAt (m * 3 + 1)
          have hc1' := hown1.cellAt (m * 3 + 1) (by omega)
          rw [HM.out, Mo.flat_last3, ← HM.out] at hc1'
          simp only [Ent.enc, List.getElem?_cons_succ, List.getElem?_cons_zero] at hc1'
          have p1 : w1.cell? ⟨bb, 1, none⟩ = some (.int .i64 e.t) := (hb1.cell (p := ⟨bb, _, none⟩) hbb).trans a1
          have hst := hown1.stored (m * 3 + 1) (.int .i64 e.t)
          rw [HM.out, Mo.flat_set3, ← HM.out] at hst
          have HO := Lib.hid hst.1
          have hB3 := hB1.setCell (p := ⟨g, m * 3 + 1, none⟩) hgB (.int .i64 e.t)
          clear hst hownW hb1 a0 a1 a2 hown1
          go_wp2
          go_roundw
          case rel => exact ⟨k + 1, by omega, by go_num, by rw [HT.out, List.length_append, List.length_singleton, ← HM.out]; exact HO.out, hB3⟩
          case measure => simp [intOf]; omega
    · obtain rfl : k = n := by omega
      rw [Hall.out] at hown
      have HO := Lib.hid hown
      clear hown
      go_wp2
      go_ret
      exact ⟨_, rfl, Sl.of_own HO.out, hB⟩

end Go.Proofs.YtndhjkammoeikaaGreatDoor
namespace Go.Proofs.YtndhjkammoeikaaGreatDoor
namespace Mo
/-- the cause of a tick in a diary -/
def diaC (v : Ves) (u : Wat) (l : List Sgt) (sh we : List Spn) (t : Nat) : ByteArray :=
  if inSp we t then weather else if inSp sh t then (if level v u l t == 0 then animal else shoot) else share
def diaE (v : Ves) (u : Wat) (l : List Sgt) (sh we : List Spn) : Int := first [all v u l, spans sh, spans we]
def ticksOf (C : Nat → ByteArray) (N : Nat) : List Ent := (List.range N).map fun (t : Nat) => (⟨t, (t : Int) + 1, C t⟩ : Ent)
theorem ticksOf_len (C : Nat → ByteArray) (N : Nat) : (ticksOf C N).length = N := by simp [ticksOf]
theorem ticksOf_succ (C : Nat → ByteArray) (N : Nat) : (ticksOf C (N+1)).flatMap Ent.enc = (ticksOf C N).flatMap Ent.enc ++ [.int .i64 N, .int .i64 ((N : Int) + 1), .string (C N)] := by
  unfold ticksOf
  rw [List.range_succ, List.map_append, List.flatMap_append]; rfl
def diaL (v : Ves) (u : Wat) (l : List Sgt) (sh we : List Spn) : List Ent := merged (ticksOf (diaC v u l sh we) v.n.toNat)
def cap64 (m : List Ent) : List Ent × Int := if 64 < m.length then ([], 5) else (m, 0)
def diary (v : Ves) (u : Wat) (l : List Sgt) (sh we : List Spn) : List Ent × Int :=
  if diaE v u l sh we ≠ 0 then ([], diaE v u l sh we) else cap64 (diaL v u l sh we)
end Mo
end Go.Proofs.YtndhjkammoeikaaGreatDoor
namespace Go.Proofs.YtndhjkammoeikaaGreatDoor
open Go.RowKit
set_option maxHeartbeats 1000000
set_option maxRecDepth 20000

theorem own_set {w : World} {base : Nat} {e : TypeId} {size : Nat} {v : Value} {n : Nat} {xs : List Value} (h : w.ownsRow base e size v n xs) {p : Addr} (u : Value) (hp : ∀ g, v.ownBlock = some g → g < p.block) : (w.setCell p u).ownsRow base e size v n xs := by
  have hb := (Below.refl p.block w).setCell (Nat.le_refl _) u
  refine h.kept (row := some p.block) ⟨hb.os, hb.tape, hb.output, hb.size, fun i hi hne => Below.heap_setCell w p u i (fun e => hne (by rw [e]))⟩ ?_
  cases hv : v.ownBlock with
  | none => exact .inl rfl
  | some g => exact .inr (fun e => by have := hp g hv; cases e; omega)

theorem c40_bad (v : Ves) (u : Wat) (A : Option Addr) (cap : Nat) (l : List Sgt) (S : Option Addr) (scap : Nat) (sh : List Spn) (G : Option Addr) (gcap : Nat) (we : List Spn) (w : World) (hl : l.length ≤ 1000000) (hls : sh.length ≤ 1000000) (hlg : we.length ≤ 1000000) (H : RdL w 3 Sgt.enc A l) (HS : RdL w 2 Spn.enc S sh) (HG : RdL w 2 Spn.enc G we) (hbad : Mo.diaE v u l sh we ≠ 0) :
    Calls Tryz.prog 40 #[.agg #[.int .i64 v.sx, .int .i64 v.sy, .int .i64 v.dx, .int .i64 v.dy, .int .i64 v.n], .agg #[.int .i64 u.ring, .int .i64 u.speed, .int .i64 u.loss, .int .i64 u.clear, .int .i64 u.soft], .slice A l.length cap, .slice S sh.length scap, .slice G we.length gcap] w fun en w' => ∃ x, en = .returned (.tuple #[x, .int .i64 (Mo.diaE v u l sh we)]) ∧ Sl w' 3 x ([] : List Ent).length (([] : List Ent).flatMap Ent.enc) ∧ Below w.heap.size w w' := by
  have hb' : (Mo.first [Mo.all v u l, Mo.spans sh, Mo.spans we] != 0) = true := by have h := hbad; unfold Mo.diaE at h; simpa using h
  have HC := fun W (hW : Below w.heap.size w W) => Lib.hid (c87 v u A cap l W hl (H.below hW))
  have HP := fun W (hW : Below w.heap.size w W) => Lib.hid (c105 S scap sh W hls (HS.below hW))
  have HQ := fun W (hW : Below w.heap.size w W) => Lib.hid (c105 G gcap we W hlg (HG.below hW))
  obtain ⟨n, hn⟩ : ∃ n, n = l.length := ⟨_, rfl⟩
  obtain ⟨m, hm⟩ : ∃ m, m = sh.length := ⟨_, rfl⟩
  obtain ⟨r, hr⟩ : ∃ r, r = we.length := ⟨_, rfl⟩
  rw [← hn] at HC ⊢
  rw [← hm] at HP ⊢
  rw [← hr] at HQ ⊢
  clear H HS HG hbad hn hm hr hl hls hlg
  go_enter Tryz.func40, Tryz.ntmps40
  go_wp2_with fail
  refine (HC _ ?_).out.mono ?_
  · exact (((Below.refl _ _).alloc (by first | omega | (simp <;> omega)) _).alloc (by first | omega | (simp <;> omega)) _)
  rintro e w1 ⟨rfl, hb1⟩
  have hB1 := (((Below.refl _ _).alloc (by first | omega | (simp <;> omega)) _).alloc (by first | omega | (simp <;> omega)) _).call hb1 rfl
  have hB2 := hB1.alloc hB1.size (Obj.cells #[.int .i64 u.ring, .int .i64 u.speed, .int .i64 u.loss, .int .i64 u.clear, .int .i64 u.soft, .int .i64 v.sx, .int .i64 v.sy, .int .i64 v.dx, .int .i64 v.dy, .int .i64 v.n, .slice A n cap] 162)
  clear hb1
  go_wp2_with fail
  refine (HP _ hB2).out.mono ?_
  rintro e w2 ⟨rfl, hb2⟩
  have hB3 := hB2.call hb2 rfl
  go_wp2_with fail
  refine (HQ _ hB3).out.mono ?_
  rintro e w3 ⟨rfl, hb3⟩
  have hB4 := hB3.call hb3 rfl
  clear hb2 hb3
  go_wp2_with (first | (go_at_call 94; refine (c94 _ 3 _ [Mo.all v u l, Mo.spans sh, Mo.spans we] _ rfl (by omega) ?_).mono ?_; (first | exact RdS.of_new (by simp) rfl | exact RdS.drew (RdS.of_new (by simp) rfl)); rintro e w' ⟨rfl, rfl⟩))
  go_ret2
  exact ⟨_, rfl, ⟨none, 0, rfl, rfl, fun h => absurd h (by simp)⟩, hB4.alloc hB4.size _⟩

theorem c40_ok (v : Ves) (u : Wat) (A : Option Addr) (cap : Nat) (l : List Sgt) (S : Option Addr) (scap : Nat) (sh : List Spn) (G : Option Addr) (gcap : Nat) (we : List Spn) (w : World) (H : RdL w 3 Sgt.enc A l) (HS : RdL w 2 Spn.enc S sh) (HG : RdL w 2 Spn.enc G we) (hok : Mo.diaE v u l sh we = 0) :
    Calls Tryz.prog 40 #[.agg #[.int .i64 v.sx, .int .i64 v.sy, .int .i64 v.dx, .int .i64 v.dy, .int .i64 v.n], .agg #[.int .i64 u.ring, .int .i64 u.speed, .int .i64 u.loss, .int .i64 u.clear, .int .i64 u.soft], .slice A l.length cap, .slice S sh.length scap, .slice G we.length gcap] w fun en w' => ∃ x, en = .returned (.tuple #[x, .int .i64 (Mo.cap64 (Mo.diaL v u l sh we)).2]) ∧ Sl w' 3 x (Mo.cap64 (Mo.diaL v u l sh we)).1.length ((Mo.cap64 (Mo.diaL v u l sh we)).1.flatMap Ent.enc) ∧ Below w.heap.size w w' := by
  have h0 := Mo.first_zero hok
  have hall : Mo.all v u l = 0 := h0 _ (by simp)
  have hsp : Mo.spans sh = 0 := h0 _ (by simp)
  have hsw : Mo.spans we = 0 := h0 _ (by simp)
  have hb' : (Mo.first [Mo.all v u l, Mo.spans sh, Mo.spans we] != 0) = false := by have h := hok; unfold Mo.diaE at h; simpa using h
  obtain ⟨hv, hu, hlen, hso⟩ := Mo.all_ok hall
  obtain ⟨hsl, hsb⟩ := Mo.spans_ok hsp
  obtain ⟨hgl, hgb⟩ := Mo.spans_ok hsw
  have hvn := hv.n
  obtain ⟨i0, hi, hz0, hz1, hz2⟩ := info_parts info134
  obtain ⟨N, hN⟩ : ∃ N : Nat, v.n = N := ⟨v.n.toNat, by omega⟩
  have hNN : v.n.toNat = N := by omega
  have hN1 : 1 ≤ N ∧ N ≤ 4096 := by omega
  have HC := fun W (hW : Below w.heap.size w W) => Lib.hid (c87 v u A cap l W (by omega) (H.below hW))
  have HP := fun W (hW : Below w.heap.size w W) => Lib.hid (c105 S scap sh W (by omega) (HS.below hW))
  have HQ := fun W (hW : Below w.heap.size w W) => Lib.hid (c105 G gcap we W (by omega) (HG.below hW))
  have HL := fun W (hW : Below w.heap.size w W) => Lib.hid (c89 v u A cap l W (H.below hW) hall)
  have HI := fun (k : Nat) W (hW : Below w.heap.size w W) => Lib.hid (c108 S scap sh k W (by omega) (HS.below hW))
  have HJ := fun (k : Nat) W (hW : Below w.heap.size w W) => Lib.hid (c108 G gcap we k W (by omega) (HG.below hW))
  obtain ⟨C, hC⟩ : ∃ C, C = Mo.diaC v u l sh we := ⟨_, rfl⟩
  have HCC : Hid (∀ t, C t = if Mo.inSp we t then Mo.weather else if Mo.inSp sh t then (if Mo.level v u l t == 0 then Mo.animal else Mo.shoot) else Mo.share) := by show ∀ t, _; rw [hC]; intro t; rfl
  have hML : Mo.diaL v u l sh we = Mo.merged (Mo.ticksOf C N) := by unfold Mo.diaL; rw [hC, hNN]
  have HM := fun (x : Option Addr) (xc : Nat) W (hW : RdS W 3 x N ((Mo.ticksOf C N).flatMap Ent.enc)) => Lib.hid (c109 x xc (Mo.ticksOf C N) W (by rw [Mo.ticksOf_len]; omega) (by unfold RdL; rw [Mo.ticksOf_len]; exact hW))
  simp only [Mo.ticksOf_len] at HM
  have hL2 : ∀ t : Nat, t < N → Hid (((Mo.levels v u l).map (Value.int .i64))[t]? = some (.int .i64 (Mo.level v u l t))) := fun t ht => by
    show _ = _
    unfold Mo.levels; rw [hNN]; simp [ht]
  rw [hML]
  obtain ⟨M, hM⟩ : ∃ M, M = Mo.merged (Mo.ticksOf C N) := ⟨_, rfl⟩
  rw [← hM] at HM ⊢
  obtain ⟨R, hR⟩ : ∃ R, R = Mo.cap64 M := ⟨_, rfl⟩
  rw [← hR]
  have HRR := Lib.hid hR
  clear hR
  have hMl : M.length ≤ 4096 := by rw [hM, ← Mo.mtake_all, Mo.ticksOf_len]; exact Nat.le_trans (Mo.mtake_len _ _) hN1.2
  rw [hNN] at HL
  simp only [hN] at HC HL ⊢
  clear h0 hsp hsw hok hso hv hu H HS HG hN hvn hNN hall hML hC hM
  obtain ⟨n, hn⟩ : ∃ n, n = l.length := ⟨_, rfl⟩
  obtain ⟨m, hm⟩ : ∃ m, m = sh.length := ⟨_, rfl⟩
  obtain ⟨r, hr⟩ : ∃ r, r = we.length := ⟨_, rfl⟩
  rw [← hn] at HC HL ⊢
  rw [← hm] at HP HI ⊢
  rw [← hr] at HQ HJ ⊢
  clear hn hm hr hlen hsl hsb hgl hgb
  go_enter Tryz.func40, Tryz.ntmps40
  go_wp2_with fail
  refine (HC _ ?_).out.mono ?_
  · exact (((Below.refl _ _).alloc (by first | omega | (simp <;> omega)) _).alloc (by first | omega | (simp <;> omega)) _)
  rintro e w1 ⟨rfl, hb1⟩
  have hB1 := (((Below.refl _ _).alloc (by first | omega | (simp <;> omega)) _).alloc (by first | omega | (simp <;> omega)) _).call hb1 rfl
  obtain ⟨W2, hW2⟩ : ∃ W2, W2 = w1.alloc (Obj.cells #[.int .i64 u.ring, .int .i64 u.speed, .int .i64 u.loss, .int .i64 u.clear, .int .i64 u.soft, .int .i64 v.sx, .int .i64 v.sy, .int .i64 v.dx, .int .i64 v.dy, .int .i64 N, .slice A n cap] 162) := ⟨_, rfl⟩
  obtain ⟨bb, hbb⟩ : ∃ bb, bb = w1.heap.size := ⟨_, rfl⟩
  have hB2 : Below w.heap.size w W2 := by rw [hW2]; exact hB1.alloc hB1.size (Obj.cells #[.int .i64 u.ring, .int .i64 u.speed, .int .i64 u.loss, .int .i64 u.clear, .int .i64 u.soft, .int .i64 v.sx, .int .i64 v.sy, .int .i64 v.dx, .int .i64 v.dy, .int .i64 N, .slice A n cap] 162)
  have hz3 : bb < W2.heap.size := by rw [hW2, hbb]; simp
  have bT : W2.heap[bb]? = some (.cells #[.int .i64 u.ring, .int .i64 u.speed, .int .i64 u.loss, .int .i64 u.clear, .int .i64 u.soft, .int .i64 v.sx, .int .i64 v.sy, .int .i64 v.dx, .int .i64 v.dy, .int .i64 N, .slice A n cap] 162 (0, 0)) := by rw [hW2, hbb]; exact heap_new (by simp)
  have b0 : W2.cell? ⟨bb, 0, none⟩ = some (.int .i64 u.ring) := cell_at bT rfl
  have b1 : W2.cell? ⟨bb, 1, none⟩ = some (.int .i64 u.speed) := cell_at bT rfl
  have b2 : W2.cell? ⟨bb, 2, none⟩ = some (.int .i64 u.loss) := cell_at bT rfl
  have b3 : W2.cell? ⟨bb, 3, none⟩ = some (.int .i64 u.clear) := cell_at bT rfl
  have b4 : W2.cell? ⟨bb, 4, none⟩ = some (.int .i64 u.soft) := cell_at bT rfl
  have b5 : W2.cell? ⟨bb, 5, none⟩ = some (.int .i64 v.sx) := cell_at bT rfl
  have b6 : W2.cell? ⟨bb, 6, none⟩ = some (.int .i64 v.sy) := cell_at bT rfl
  have b7 : W2.cell? ⟨bb, 7, none⟩ = some (.int .i64 v.dx) := cell_at bT rfl
  have b8 : W2.cell? ⟨bb, 8, none⟩ = some (.int .i64 v.dy) := cell_at bT rfl
  have b9 : W2.cell? ⟨bb, 9, none⟩ = some (.int .i64 N) := cell_at bT rfl
  have b10 : W2.cell? ⟨bb, 10, none⟩ = some (.slice A n cap) := cell_at bT rfl
  clear bT hb1
  go_wp2_with fail
  rw [← hW2, ← hbb]
  clear hW2 hbb
  refine (HP _ hB2).out.mono ?_
  rintro e w2 ⟨rfl, hb2⟩
  have hB3 := hB2.call hb2 rfl
  go_wp2_with fail
  refine (HQ _ hB3).out.mono ?_
  rintro e w3 ⟨rfl, hb3⟩
  have hb23 := hb2.call hb3 rfl
  obtain ⟨hc2, -⟩ := bcell hb23
  have hB4 := hB3.call hb3 rfl
  have y3 : bb < w3.heap.size := Nat.lt_of_lt_of_le hz3 hb23.size
  have c0 := (hc2 bb 0 (by omega)).trans b0
  have c1 := (hc2 bb 1 (by omega)).trans b1
  have c2 := (hc2 bb 2 (by omega)).trans b2
  have c3 := (hc2 bb 3 (by omega)).trans b3
  have c4 := (hc2 bb 4 (by omega)).trans b4
  have c5 := (hc2 bb 5 (by omega)).trans b5
  have c6 := (hc2 bb 6 (by omega)).trans b6
  have c7 := (hc2 bb 7 (by omega)).trans b7
  have c8 := (hc2 bb 8 (by omega)).trans b8
  have c9 := (hc2 bb 9 (by omega)).trans b9
  have c10 := (hc2 bb 10 (by omega)).trans b10
  clear hc2 hb2 hb3 hb23 hz3 b0 b1 b2 b3 b4 b5 b6 b7 b8 b9 b10
  clear hB2 hB1 hB3
  go_wp2_with (first | (go_at_call 94; refine (c94 _ 3 _ [Mo.all v u l, Mo.spans sh, Mo.spans we] _ rfl (by omega) ?_).mono ?_; (first | exact RdS.of_new (by simp) rfl | exact RdS.drew (RdS.of_new (by simp) rfl)); rintro e w' ⟨rfl, rfl⟩))
  refine (HL _ (hB4.alloc hB4.size _)).out.mono ?_
  rintro e w4 ⟨g, rfl, hg, hge, hb4⟩
  have hB5 := (hB4.alloc hB4.size _).call hb4 rfl
  have hs4 := hb4.size
  simp at hs4 hge
  have hg4 : g < w4.heap.size := (Array.getElem?_eq_some_iff.1 hg).1
  have hgt : ∀ t : Nat, t < N → Hid (w4.cell? ⟨g, t, none⟩ = some (.int .i64 (Mo.level v u l t))) := fun t ht => by
    show _ = _
    exact cell_at hg (by simpa using (hL2 t ht).out)
  have hw4 := hB5.size
  clear hb4 hg hs4 hge y3 hB4 HL HQ HP HC hL2 c0 c1 c2 c3 c4 c5 c6 c7 c8 c9 c10
  go_wp2
  go_loopw [15, 40] (fun x i wr => ∃ k : Nat, k ≤ N ∧ i = .int .i64 k ∧ wr.ownsRow w4.heap.size 134 3 x k ((Mo.ticksOf C k).flatMap Ent.enc) ∧ Below w.heap.size w wr ∧ Below w4.heap.size w4 wr) (fun _ i _ => N - (intOf i).toNat)
  case atStart => exact ⟨0, Nat.zero_le _, rfl, World.ownsRow_nil _ _ _ _, hB5, Below.refl _ _⟩
  case round =>
    obtain ⟨k, hk, rfl, hown, hBr, hBr4⟩ := hrel
    by_cases hlt : k < N
    · have q0 : wr.cell? ⟨g, k, none⟩ = some (.int .i64 (Mo.level v u l k)) := ((bcell hBr4).1 _ _ hg4).trans (hgt k hlt).out
      have hgr : g < wr.heap.size := Nat.lt_of_lt_of_le hg4 hBr4.size
      obtain ⟨W1, hW1⟩ : ∃ W1, W1 = wr.alloc (Obj.cells #[.int .i64 k, .int .i64 ((k : Int) + 1), .string { data := #[115, 104, 111, 111, 116] }] 134) := ⟨_, rfl⟩
      obtain ⟨bx, hbx⟩ : ∃ bx, bx = wr.heap.size := ⟨_, rfl⟩
      have hBr' : Below wr.heap.size wr W1 := by rw [hW1]; exact (Below.refl _ _).alloc (Nat.le_refl _) _
      have hownW := own_below hown hBr'
      have hBW := hBr.call hBr' rfl
      have hBW4 := hBr4.call hBr' rfl
      have hT : W1.heap[bx]? = some (.cells #[.int .i64 k, .int .i64 ((k : Int) + 1), .string { data := #[115, 104, 111, 111, 116] }] 134 (0, 0)) := by rw [hW1, hbx]; exact heap_new (by simp)
      have hbW : bx < W1.heap.size := by rw [hW1, hbx]; simp
      have hx4 : w4.heap.size ≤ bx := by rw [hbx]; exact hBr4.size
      have hxw : w.heap.size ≤ bx := by rw [hbx]; exact hBr.size
      have hlt0 : ∀ g, u15.ownBlock = some g → g < bx := fun g hg => by rw [hbx]; exact (hown.lt g hg).2
      have HTT := Lib.hid hT
      clear hown hT hBr' hBr hBr4
      have hCk := HCC.out k
      go_wp2_with fail
      rw [← hW1, ← hbx]
      clear hW1 hbx
      refine (HJ k _ hBW).out.mono ?_
      rintro e wa ⟨rfl, hba⟩
      have hownA := own_below hownW hba
      have hBA := hBW.call hba rfl
      have hBA4 := hBW4.call hba rfl
      have hTA := (hba.block bx hbW).trans HTT.out
      have hbA : bx < wa.heap.size := Nat.lt_of_lt_of_le hbW hba.size
      clear hownW hBW hBW4 hba HTT
      cases hx : Mo.inSp we k
      · go_wp2_with fail
        refine (HI k _ hBA).out.mono ?_
        rintro e wb ⟨rfl, hbb⟩
        have hownB := own_below hownA hbb
        have hBB := hBA.call hbb rfl
        have hBB4 := hBA4.call hbb rfl
        have hTB := (hbb.block bx hbA).trans hTA
        have hbB : bx < wb.heap.size := Nat.lt_of_lt_of_le hbA hbb.size
        clear hownA hBA hBA4 hbb hTA hbA
        cases hy : Mo.inSp sh k
        · have HCk : Hid (C k = { data := #[115, 104, 97, 114, 101] }) := by show _ = _; rw [hCk]; rw [hx, hy]; rfl
          have HS1 : Hid ((Mo.ticksOf C k).flatMap Ent.enc ++ [.int .i64 k, .int .i64 ((k : Int) + 1), .string { data := #[115, 104, 97, 114, 101] }] = (Mo.ticksOf C (k + 1)).flatMap Ent.enc) := by show _ = _; rw [Mo.ticksOf_succ, HCk.out]
          clear hCk
          have a0 : wb.cell? ⟨bx, 0, none⟩ = some (.int .i64 k) := cell_at hTB rfl
          have a1 : wb.cell? ⟨bx, 1, none⟩ = some (.int .i64 ((k : Int) + 1)) := cell_at hTB rfl
          have a2 : wb.cell? ⟨bx, 2, none⟩ = some (.string { data := #[115, 104, 111, 111, 116] }) := cell_at hTB rfl
          have af : wb.frozen? ⟨bx, 2, none⟩ = false := free_at hTB
          have hown2 := own_set hownB (p := ⟨bx, 2, none⟩) (.string { data := #[115, 104, 97, 114, 101] }) hlt0
          have hBz := hBB.setCell (p := ⟨bx, 2, none⟩) hxw (.string { data := #[115, 104, 97, 114, 101] })
          have hBz4 := hBB4.setCell (p := ⟨bx, 2, none⟩) hx4 (.string { data := #[115, 104, 97, 114, 101] })
          go_wp2_with (at_builtin; refine wpList_append_own _ rfl _ _ 74 rfl w4.heap.size 134 i0 (.agg #[.int .i64 0, .int .i64 0, .string ByteArray.empty]) 3 32 Tryz.underlying74 hi hz0 hz1 hz2 rfl (by decide) _ _ _ rfl (hown2.alloc _) ⟨wb.heap.size, 0, none⟩ 1 1 [.int .i64 k, .int .i64 ((k : Int) + 1), .string { data := #[115, 104, 97, 114, 101] }] rfl rfl (news_one _ _ (by simp)) (by intro x hx; simp at hx; first | (subst hx; rfl) | (rcases hx with rfl | rfl <;> rfl) | (rcases hx with rfl | rfl | rfl <;> rfl)) (by unfold maxLen; omega) (by omega) (by simp; omega) ?_)
          intro x' w3 hown3 hg3 _
          have hB3 : Below w.heap.size w w3 := (hBz.alloc hBz.size _).grown hg3 (by simp; omega) (fun g hg => by have := (hown2.lt g hg).1; omega)
          have hB34 : Below w4.heap.size w4 w3 := (hBz4.alloc hBz4.size _).grown hg3 (by simp; omega) (fun g hg => (hown2.lt g hg).1)
          rw [HS1.out] at hown3
          have HO := Lib.hid hown3
          clear hown3 hg3 hown2
          go_wp2
          go_roundw
          case rel => exact ⟨k + 1, by omega, by go_num, HO.out, hB3, hB34⟩
          case measure => simp [intOf]; omega
        · cases hz : (Mo.level v u l k == 0)
          · have HCk : Hid (C k = { data := #[115, 104, 111, 111, 116] }) := by show _ = _; rw [hCk]; rw [hx, hy, hz]; rfl
            have HS1 : Hid ((Mo.ticksOf C k).flatMap Ent.enc ++ [.int .i64 k, .int .i64 ((k : Int) + 1), .string { data := #[115, 104, 111, 111, 116] }] = (Mo.ticksOf C (k + 1)).flatMap Ent.enc) := by show _ = _; rw [Mo.ticksOf_succ, HCk.out]
            clear hCk
            have a0 : wb.cell? ⟨bx, 0, none⟩ = some (.int .i64 k) := cell_at hTB rfl
            have a1 : wb.cell? ⟨bx, 1, none⟩ = some (.int .i64 ((k : Int) + 1)) := cell_at hTB rfl
            have a2 : wb.cell? ⟨bx, 2, none⟩ = some (.string { data := #[115, 104, 111, 111, 116] }) := cell_at hTB rfl
            have af : wb.frozen? ⟨bx, 2, none⟩ = false := free_at hTB
            have hown2 := hownB
            have hBz := hBB
            have hBz4 := hBB4
            go_wp2_with (at_builtin; refine wpList_append_own _ rfl _ _ 74 rfl w4.heap.size 134 i0 (.agg #[.int .i64 0, .int .i64 0, .string ByteArray.empty]) 3 32 Tryz.underlying74 hi hz0 hz1 hz2 rfl (by decide) _ _ _ rfl (hown2.alloc _) ⟨wb.heap.size, 0, none⟩ 1 1 [.int .i64 k, .int .i64 ((k : Int) + 1), .string { data := #[115, 104, 111, 111, 116] }] rfl rfl (news_one _ _ (by simp)) (by intro x hx; simp at hx; first | (subst hx; rfl) | (rcases hx with rfl | rfl <;> rfl) | (rcases hx with rfl | rfl | rfl <;> rfl)) (by unfold maxLen; omega) (by omega) (by simp; omega) ?_)
            intro x' w3 hown3 hg3 _
            have hB3 : Below w.heap.size w w3 := (hBz.alloc hBz.size _).grown hg3 (by simp; omega) (fun g hg => by have := (hown2.lt g hg).1; omega)
            have hB34 : Below w4.heap.size w4 w3 := (hBz4.alloc hBz4.size _).grown hg3 (by simp; omega) (fun g hg => (hown2.lt g hg).1)
            rw [HS1.out] at hown3
            have HO := Lib.hid hown3
            clear hown3 hg3 hown2
            go_wp2
            go_roundw
            case rel => exact ⟨k + 1, by omega, by go_num, HO.out, hB3, hB34⟩
            case measure => simp [intOf]; omega
          · have HCk : Hid (C k = { data := #[97, 110, 105, 109, 97, 108] }) := by show _ = _; rw [hCk]; rw [hx, hy, hz]; rfl
            have HS1 : Hid ((Mo.ticksOf C k).flatMap Ent.enc ++ [.int .i64 k, .int .i64 ((k : Int) + 1), .string { data := #[97, 110, 105, 109, 97, 108] }] = (Mo.ticksOf C (k + 1)).flatMap Ent.enc) := by show _ = _; rw [Mo.ticksOf_succ, HCk.out]
            clear hCk
            have a0 : wb.cell? ⟨bx, 0, none⟩ = some (.int .i64 k) := cell_at hTB rfl
            have a1 : wb.cell? ⟨bx, 1, none⟩ = some (.int .i64 ((k : Int) + 1)) := cell_at hTB rfl
            have a2 : wb.cell? ⟨bx, 2, none⟩ = some (.string { data := #[115, 104, 111, 111, 116] }) := cell_at hTB rfl
            have af : wb.frozen? ⟨bx, 2, none⟩ = false := free_at hTB
            have hown2 := own_set hownB (p := ⟨bx, 2, none⟩) (.string { data := #[97, 110, 105, 109, 97, 108] }) hlt0
            have hBz := hBB.setCell (p := ⟨bx, 2, none⟩) hxw (.string { data := #[97, 110, 105, 109, 97, 108] })
            have hBz4 := hBB4.setCell (p := ⟨bx, 2, none⟩) hx4 (.string { data := #[97, 110, 105, 109, 97, 108] })
            go_wp2_with (at_builtin; refine wpList_append_own _ rfl _ _ 74 rfl w4.heap.size 134 i0 (.agg #[.int .i64 0, .int .i64 0, .string ByteArray.empty]) 3 32 Tryz.underlying74 hi hz0 hz1 hz2 rfl (by decide) _ _ _ rfl (hown2.alloc _) ⟨wb.heap.size, 0, none⟩ 1 1 [.int .i64 k, .int .i64 ((k : Int) + 1), .string { data := #[97, 110, 105, 109, 97, 108] }] rfl rfl (news_one _ _ (by simp)) (by intro x hx; simp at hx; first | (subst hx; rfl) | (rcases hx with rfl | rfl <;> rfl) | (rcases hx with rfl | rfl | rfl <;> rfl)) (by unfold maxLen; omega) (by omega) (by simp; omega) ?_)
            intro x' w3 hown3 hg3 _
            have hB3 : Below w.heap.size w w3 := (hBz.alloc hBz.size _).grown hg3 (by simp; omega) (fun g hg => by have := (hown2.lt g hg).1; omega)
            have hB34 : Below w4.heap.size w4 w3 := (hBz4.alloc hBz4.size _).grown hg3 (by simp; omega) (fun g hg => (hown2.lt g hg).1)
            rw [HS1.out] at hown3
            have HO := Lib.hid hown3
            clear hown3 hg3 hown2
            go_wp2
            go_roundw
            case rel => exact ⟨k + 1, by omega, by go_num, HO.out, hB3, hB34⟩
            case measure => simp [intOf]; omega
      · have HCk : Hid (C k = { data := #[119, 101, 97, 116, 104, 101, 114] }) := by show _ = _; rw [hCk]; rw [hx]; rfl
        have HS1 : Hid ((Mo.ticksOf C k).flatMap Ent.enc ++ [.int .i64 k, .int .i64 ((k : Int) + 1), .string { data := #[119, 101, 97, 116, 104, 101, 114] }] = (Mo.ticksOf C (k + 1)).flatMap Ent.enc) := by show _ = _; rw [Mo.ticksOf_succ, HCk.out]
        clear hCk
        have a0 : wa.cell? ⟨bx, 0, none⟩ = some (.int .i64 k) := cell_at hTA rfl
        have a1 : wa.cell? ⟨bx, 1, none⟩ = some (.int .i64 ((k : Int) + 1)) := cell_at hTA rfl
        have a2 : wa.cell? ⟨bx, 2, none⟩ = some (.string { data := #[115, 104, 111, 111, 116] }) := cell_at hTA rfl
        have af : wa.frozen? ⟨bx, 2, none⟩ = false := free_at hTA
        have hown2 := own_set hownA (p := ⟨bx, 2, none⟩) (.string { data := #[119, 101, 97, 116, 104, 101, 114] }) hlt0
        have hBz := hBA.setCell (p := ⟨bx, 2, none⟩) hxw (.string { data := #[119, 101, 97, 116, 104, 101, 114] })
        have hBz4 := hBA4.setCell (p := ⟨bx, 2, none⟩) hx4 (.string { data := #[119, 101, 97, 116, 104, 101, 114] })
        go_wp2_with (at_builtin; refine wpList_append_own _ rfl _ _ 74 rfl w4.heap.size 134 i0 (.agg #[.int .i64 0, .int .i64 0, .string ByteArray.empty]) 3 32 Tryz.underlying74 hi hz0 hz1 hz2 rfl (by decide) _ _ _ rfl (hown2.alloc _) ⟨wa.heap.size, 0, none⟩ 1 1 [.int .i64 k, .int .i64 ((k : Int) + 1), .string { data := #[119, 101, 97, 116, 104, 101, 114] }] rfl rfl (news_one _ _ (by simp)) (by intro x hx; simp at hx; first | (subst hx; rfl) | (rcases hx with rfl | rfl <;> rfl) | (rcases hx with rfl | rfl | rfl <;> rfl)) (by unfold maxLen; omega) (by omega) (by simp; omega) ?_)
        intro x' w3 hown3 hg3 _
        have hB3 : Below w.heap.size w w3 := (hBz.alloc hBz.size _).grown hg3 (by simp; omega) (fun g hg => by have := (hown2.lt g hg).1; omega)
        have hB34 : Below w4.heap.size w4 w3 := (hBz4.alloc hBz4.size _).grown hg3 (by simp; omega) (fun g hg => (hown2.lt g hg).1)
        rw [HS1.out] at hown3
        have HO := Lib.hid hown3
        clear hown3 hg3 hown2
        go_wp2
        go_roundw
        case rel => exact ⟨k + 1, by omega, by go_num, HO.out, hB3, hB34⟩
        case measure => simp [intOf]; omega
    · obtain rfl : k = N := by omega
      obtain ⟨xA, xc, rfl⟩ : ∃ xA xc, u15 = .slice xA k xc := by
        rcases hown.2 with ⟨h, h'⟩ | ⟨g', cap', cur, h, _⟩
        · exact ⟨none, 0, by rw [h, h']⟩
        · exact ⟨_, cap', h⟩
      obtain ⟨xA', xc', hxe, hRx⟩ := Sl.of_own hown
      obtain ⟨rfl, -, rfl⟩ : xA = xA' ∧ k = k ∧ xc = xc' := by simpa using hxe
      clear hown hxe
      go_wp2_with fail
      refine (HM _ _ _ hRx).out.mono ?_
      rintro e wm ⟨x, rfl, ⟨mA, mc, rfl, hRm⟩, hbm⟩
      have hBm := hBr.call hbm rfl
      have HR := Lib.hid hRm
      clear hRm hRx HM HI HJ hgt
      obtain ⟨Q, hQ⟩ : ∃ Q, Q = M.length := ⟨_, rfl⟩
      rw [← hQ] at hMl
      have HQ := Lib.hid hQ
      rw [← hQ]
      clear hQ
      by_cases hge : 64 < Q
      · have hcap : Hid (R = ([], 5)) := by show _ = _; rw [HRR.out]; unfold Mo.cap64; rw [if_pos (by rw [← HQ.out]; exact hge)]
        go_wp2
        go_ret2
        rw [hcap.out]
        exact ⟨_, rfl, ⟨none, 0, rfl, rfl, fun h => absurd h (by simp)⟩, hBm⟩
      · have hcap : Hid (R = (M, 0)) := by show _ = _; rw [HRR.out]; unfold Mo.cap64; rw [if_neg (by rw [← HQ.out]; exact hge)]
        have HSl : Hid (Sl wm 3 (.slice mA Q mc) M.length (M.flatMap Ent.enc)) := ⟨mA, mc, by rw [HQ.out], HR.out⟩
        go_wp2
        go_ret2
        rw [hcap.out]
        exact ⟨_, rfl, HSl.out, hBm⟩
theorem c40 (v : Ves) (u : Wat) (A : Option Addr) (cap : Nat) (l : List Sgt) (S : Option Addr) (scap : Nat) (sh : List Spn) (G : Option Addr) (gcap : Nat) (we : List Spn) (w : World) (hl : l.length ≤ 1000000) (hls : sh.length ≤ 1000000) (hlg : we.length ≤ 1000000) (H : RdL w 3 Sgt.enc A l) (HS : RdL w 2 Spn.enc S sh) (HG : RdL w 2 Spn.enc G we) :
    Calls Tryz.prog 40 #[.agg #[.int .i64 v.sx, .int .i64 v.sy, .int .i64 v.dx, .int .i64 v.dy, .int .i64 v.n], .agg #[.int .i64 u.ring, .int .i64 u.speed, .int .i64 u.loss, .int .i64 u.clear, .int .i64 u.soft], .slice A l.length cap, .slice S sh.length scap, .slice G we.length gcap] w fun en w' => ∃ x, en = .returned (.tuple #[x, .int .i64 (Mo.diary v u l sh we).2]) ∧ Sl w' 3 x (Mo.diary v u l sh we).1.length ((Mo.diary v u l sh we).1.flatMap Ent.enc) ∧ Below w.heap.size w w' := by
  unfold Mo.diary
  by_cases h : Mo.diaE v u l sh we = 0
  · rw [if_neg (by simp [h])]; exact c40_ok v u A cap l S scap sh G gcap we w H HS HG h
  · rw [if_pos h]; exact c40_bad v u A cap l S scap sh G gcap we w hl hls hlg H HS HG h

end Go.Proofs.YtndhjkammoeikaaGreatDoor
