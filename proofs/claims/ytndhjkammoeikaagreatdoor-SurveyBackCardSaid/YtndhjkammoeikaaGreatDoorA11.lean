/- A part of the proofs about chapter 9: contracts of functions and plain laws (W54, Model22). -/
import Derived.Test.YtndhjkammoeikaaGreatDoorA10
set_option linter.all false
namespace Go.Proofs.YtndhjkammoeikaaGreatDoor
open Go.RowKit
set_option maxHeartbeats 1000000
set_option maxRecDepth 20000

def Mo.bill (c : Con) (l : List Ent) (rs : List Res) : Int := Mo.first [Mo.con c, Mo.entries l, Mo.results rs]

theorem c122 (c : Con) (A : Option Addr) (cap : Nat) (l : List Ent) (G : Option Addr) (gcap : Nat) (rs : List Res) (w : World) (hl : l.length ≤ 1000000) (hg : rs.length ≤ 1000000) (hgc : rs.length ≤ gcap) (hgc2 : gcap ≤ 9223372036854775807) (hle : ∀ e ∈ l, e.c.size ≤ 1000000) (hrs : ∀ x ∈ rs, x.n.size ≤ 1000000) (H : RdL w 3 Ent.enc A l) (HG : RdL w 3 Res.enc G rs) :
    Calls Tryz.prog 122 #[.agg #[.int .i64 (c.r 0), .int .i64 (c.r 1), .int .i64 (c.r 2), .int .i64 (c.r 3), .int .i64 (c.r 4), .int .i64 (c.r 5), .int .i64 c.free, .int .i64 c.bonus, .int .i64 c.pen], .slice A l.length cap, .slice G rs.length gcap] w fun en w' => en = .returned (.int .i64 (Mo.bill c l rs)) ∧ Below w.heap.size w w' := by
  have HE := fun W (hW : Below w.heap.size w W) => Lib.hid (c62 A cap l W hl hle (H.below hW))
  have HR := fun W (hW : Below w.heap.size w W) => Lib.hid (c75 G gcap rs W hg hgc hgc2 hrs (HG.below hW))
  obtain ⟨n, hn⟩ : ∃ n, n = l.length := ⟨_, rfl⟩
  obtain ⟨m, hm⟩ : ∃ m, m = rs.length := ⟨_, rfl⟩
  rw [← hn] at HE ⊢
  rw [← hm] at HR ⊢
  clear hn hm H HG hle hrs hl hg hgc hgc2
  have hB0 : Below w.heap.size w (w.alloc (Obj.cells #[.int .i64 (c.r 0), .int .i64 (c.r 1), .int .i64 (c.r 2), .int .i64 (c.r 3), .int .i64 (c.r 4), .int .i64 (c.r 5), .int .i64 c.free, .int .i64 c.bonus, .int .i64 c.pen] 130)) := ((Below.refl _ _).alloc (by first | omega | (simp <;> omega)) _)
  go_enter Tryz.func122, Tryz.ntmps122
  go_wp2_with fail
  refine (c73 c _).mono ?_
  rintro e w1 ⟨rfl, hb1⟩
  have hB1 := hB0.call hb1 rfl
  clear hb1
  go_wp2_with fail
  refine (HE _ hB1).out.mono ?_
  rintro e w2 ⟨rfl, hb2⟩
  have hB2 := hB1.call hb2 rfl
  clear hb2
  go_wp2_with fail
  refine (HR _ hB2).out.mono ?_
  rintro e w3 ⟨rfl, hb3⟩
  have hB3 := hB2.call hb3 rfl
  clear hb3
  go_wp2_with (first | (go_at_call 94; refine (c94 _ 3 _ [Mo.con c, Mo.entries l, Mo.results rs] _ rfl (by omega) ?_).mono ?_; (first | exact RdS.of_new (by simp) rfl | exact RdS.drew (RdS.of_new (by simp) rfl)); rintro e w' ⟨rfl, rfl⟩))
  go_ret
  exact ⟨rfl, hB3.alloc hB3.size _⟩

theorem c65 (c : Con) (A : Option Addr) (cap : Nat) (l : List Ent) (G : Option Addr) (gcap : Nat) (rs : List Res) (w : World) (hl : l.length ≤ 1000000) (hg : rs.length ≤ 1000000) (hle : ∀ e ∈ l, e.c.size ≤ 1000000) (hrs : ∀ x ∈ rs, x.n.size ≤ 1000000) (H : RdL w 3 Ent.enc A l) (HG : RdL w 3 Res.enc G rs) :
    Calls Tryz.prog 65 #[.agg #[.int .i64 (c.r 0), .int .i64 (c.r 1), .int .i64 (c.r 2), .int .i64 (c.r 3), .int .i64 (c.r 4), .int .i64 (c.r 5), .int .i64 c.free, .int .i64 c.bonus, .int .i64 c.pen], .slice A l.length cap, .slice G rs.length gcap] w fun en w' => en = .returned (.int .i64 (Mo.bill c l rs)) ∧ Below w.heap.size w w' := by
  have HE := fun W (hW : Below w.heap.size w W) => Lib.hid (c56 A cap l W hl (H.below hW))
  have HR := fun W (hW : Below w.heap.size w W) => Lib.hid (c70 G gcap rs W hg hrs (HG.below hW))
  obtain ⟨n, hn⟩ : ∃ n, n = l.length := ⟨_, rfl⟩
  obtain ⟨m, hm⟩ : ∃ m, m = rs.length := ⟨_, rfl⟩
  rw [← hn] at HE ⊢
  rw [← hm] at HR ⊢
  clear hn hm H HG hle hrs hl hg
  have hB0 : Below w.heap.size w (w.alloc (Obj.cells #[.int .i64 (c.r 0), .int .i64 (c.r 1), .int .i64 (c.r 2), .int .i64 (c.r 3), .int .i64 (c.r 4), .int .i64 (c.r 5), .int .i64 c.free, .int .i64 c.bonus, .int .i64 c.pen] 122)) := ((Below.refl _ _).alloc (by first | omega | (simp <;> omega)) _)
  go_enter Tryz.func65, Tryz.ntmps65
  go_wp2_with fail
  refine (c74 c _).mono ?_
  rintro e w1 ⟨rfl, hb1⟩
  have hB1 := hB0.call hb1 rfl
  clear hb1
  go_wp2_with fail
  refine (HE _ hB1).out.mono ?_
  rintro e w2 ⟨rfl, hb2⟩
  have hB2 := hB1.call hb2 rfl
  clear hb2
  go_wp2_with fail
  refine (HR _ hB2).out.mono ?_
  rintro e w3 ⟨rfl, hb3⟩
  have hB3 := hB2.call hb3 rfl
  clear hb3
  go_wp2_with (first | (go_at_call 92; refine (c92 _ 3 _ [Mo.con c, Mo.entries l, Mo.results rs] _ rfl (by omega) ?_).mono ?_; (first | exact RdS.of_new (by simp) rfl | exact RdS.drew (RdS.of_new (by simp) rfl)); rintro e w' ⟨rfl, rfl⟩))
  go_ret
  exact ⟨rfl, hB3.alloc hB3.size _⟩

namespace Mo
def lsum (c : Con) : List Res → Int
  | [] => 0
  | x :: l => (if x.w ≤ x.f then c.bonus else - c.pen) + lsum c l
theorem lsum_append (c : Con) (a b : List Res) : lsum c (a ++ b) = lsum c a + lsum c b := by
  induction a with
  | nil => simp [lsum]
  | cons e a ih => simp only [List.cons_append, lsum, ih]; omega
theorem lsum_take_succ (c : Con) {l : List Res} {k : Nat} {e : Res} (h : l[k]? = some e) : lsum c (l.take (k+1)) = lsum c (l.take k) + (if e.w ≤ e.f then c.bonus else - c.pen) := by
  obtain ⟨hk, rfl⟩ := List.getElem?_eq_some_iff.1 h
  rw [List.take_succ_eq_append_getElem hk, lsum_append]
  simp [lsum]
theorem lsum_bd (c : Con) (hc : COk c) (l : List Res) : -(10000 * (l.length : Int)) ≤ lsum c l ∧ lsum c l ≤ 10000 * (l.length : Int) := by
  have hb := hc.bonus
  have hp := hc.pen
  induction l with
  | nil => simp [lsum]
  | cons e l ih =>
    simp only [lsum, List.length_cons]
    split <;> push_cast <;> omega
theorem psum_bd2 (V : Nat → Int) (B : Int) (h : ∀ i, i < 6 → -B ≤ V i ∧ V i ≤ B) (k : Nat) (hk : k ≤ 6) : -((k : Int) * B) ≤ psum V k ∧ psum V k ≤ k * B := by
  induction k with
  | zero => simp [psum]
  | succ k ih =>
    have := h k (by omega)
    have := ih (by omega)
    simp only [psum]
    push_cast
    rw [Int.add_mul]
    omega
end Mo
set_option maxHeartbeats 4000000 in
theorem c124 (v : Inv) (c : Con) (hc : Mo.COk c) (A : Option Addr) (cap : Nat) (l : List Res) (w : World) (hlen : l.length ≤ 64) (hv : ∀ i, i < 6 → -1000000000000 ≤ v.c i ∧ v.c i ≤ 1000000000000) (h0 : v.lines = 0) (H : RdL w 3 Res.enc A l) :
    Calls Tryz.prog 124 #[.agg v.arr, .agg #[.int .i64 (c.r 0), .int .i64 (c.r 1), .int .i64 (c.r 2), .int .i64 (c.r 3), .int .i64 (c.r 4), .int .i64 (c.r 5), .int .i64 c.free, .int .i64 c.bonus, .int .i64 c.pen], .slice A l.length cap] w fun en w' => en = .returned (.agg (Inv.mk v.c (Mo.lsum c l) (Mo.lsum c l + Mo.psum v.c 6)).arr) ∧ Below w.heap.size w w' := by
  have hbo := hc.bonus
  have hpe := hc.pen
  have HLB := fun k => Lib.hid (Mo.lsum_bd c hc (l.take k))
  obtain ⟨n, hn⟩ : ∃ n, n = l.length := ⟨_, rfl⟩
  rw [← hn] at hlen ⊢
  have Hn := Lib.hid hn
  have hB0 : Below w.heap.size w (((w.alloc (Obj.cells (v).arr 91)).alloc (Obj.cells #[.int .i64 (c.r 0), .int .i64 (c.r 1), .int .i64 (c.r 2), .int .i64 (c.r 3), .int .i64 (c.r 4), .int .i64 (c.r 5), .int .i64 c.free, .int .i64 c.bonus, .int .i64 c.pen] 130)).alloc (Obj.cells #[.int .i64 0, .int .i64 0, .int .i64 0, .int .i64 0, .int .i64 0, .int .i64 0, .int .i64 0, .int .i64 0] 91)) := ((((Below.refl _ _).alloc (by first | omega | (simp <;> omega)) _).alloc (by first | omega | (simp <;> omega)) _).alloc (by first | omega | (simp <;> omega)) _)
  obtain ⟨W, hW⟩ : ∃ W, W = (((w.alloc (Obj.cells (v).arr 91)).alloc (Obj.cells #[.int .i64 (c.r 0), .int .i64 (c.r 1), .int .i64 (c.r 2), .int .i64 (c.r 3), .int .i64 (c.r 4), .int .i64 (c.r 5), .int .i64 c.free, .int .i64 c.bonus, .int .i64 c.pen] 130)).alloc (Obj.cells #[.int .i64 0, .int .i64 0, .int .i64 0, .int .i64 0, .int .i64 0, .int .i64 0, .int .i64 0, .int .i64 0] 91)) := ⟨_, rfl⟩
  have hT0 : W.heap[w.heap.size]? = some (Obj.cells (Inv.mk v.c (Mo.lsum c (l.take 0)) v.total).arr 91) := by
    have : Inv.mk v.c (Mo.lsum c (l.take 0)) v.total = v := by
      cases v; simp [Mo.lsum] at h0 ⊢; exact h0.symm
    rw [this, hW]; exact heap_old (by simp <;> omega) (heap_old (by simp) (heap_new rfl))
  have hT1 : W.heap[w.heap.size + 1]? = some (Obj.cells #[.int .i64 (c.r 0), .int .i64 (c.r 1), .int .i64 (c.r 2), .int .i64 (c.r 3), .int .i64 (c.r 4), .int .i64 (c.r 5), .int .i64 c.free, .int .i64 c.bonus, .int .i64 c.pen] 130) := by rw [hW]; exact heap_old (by simp) (heap_new (by simp))
  have hT2 : W.heap[w.heap.size + 2]? = some (Obj.cells #[.int .i64 0, .int .i64 0, .int .i64 0, .int .i64 0, .int .i64 0, .int .i64 0, .int .i64 0, .int .i64 0] 91) := by rw [hW]; exact heap_new (by simp)
  rw [← hW] at hB0
  obtain ⟨vc, hvc⟩ : ∃ vc, vc = v.c := ⟨_, rfl⟩
  obtain ⟨vt, hvt⟩ : ∃ vt, vt = v.total := ⟨_, rfl⟩
  rw [← hvc] at hT0 hv ⊢
  rw [← hvt] at hT0
  clear hvc hvt hn
  go_enter Tryz.func124, Tryz.ntmps124
  go_wp2_with fail
  rw [← hW]
  clear hW
  go_loopw [13] (fun i wr => ∃ k : Nat, k ≤ n ∧ i = .int .i64 k ∧ Below w.heap.size w wr ∧ wr.heap[w.heap.size]? = some (Obj.cells (Inv.mk vc (Mo.lsum c (l.take k)) vt).arr 91) ∧ wr.heap[w.heap.size + 1]? = some (Obj.cells #[.int .i64 (c.r 0), .int .i64 (c.r 1), .int .i64 (c.r 2), .int .i64 (c.r 3), .int .i64 (c.r 4), .int .i64 (c.r 5), .int .i64 c.free, .int .i64 c.bonus, .int .i64 c.pen] 130) ∧ wr.heap[w.heap.size + 2]? = some (Obj.cells #[.int .i64 0, .int .i64 0, .int .i64 0, .int .i64 0, .int .i64 0, .int .i64 0, .int .i64 0, .int .i64 0] 91)) (fun i _ => n - (intOf i).toNat)
  case atStart => exact ⟨0, Nat.zero_le _, rfl, hB0, hT0, hT1, hT2⟩
  case round =>
    clear hT0 hT1 hT2 hB0
    obtain ⟨k, hk, rfl, hB, g0, g1, g2⟩ := hrel
    have y0 : w.heap.size < wr.heap.size := (Array.getElem?_eq_some_iff.1 g0).1
    have y1 : w.heap.size + 1 < wr.heap.size := (Array.getElem?_eq_some_iff.1 g1).1
    have y2 : w.heap.size + 2 < wr.heap.size := (Array.getElem?_eq_some_iff.1 g2).1
    by_cases hlt : k < n
    · obtain ⟨b, off, s, rfl, hx, hb, hc'⟩ := (H.below hB).at Res.len (by rw [← Hn.out]; exact hlt)
      have h0 : wr.cell? ⟨b, off + k * 3, none⟩ = some (.string s.n) := hc' 0 (by omega)
      have h1 : wr.cell? ⟨b, off + k * 3 + 1, none⟩ = some (.int .i64 s.f) := hc' 1 (by omega)
      have h2 : wr.cell? ⟨b, off + k * 3 + 2, none⟩ = some (.int .i64 s.w) := hc' 2 (by omega)
      have hstep := Lib.hid (Mo.lsum_take_succ c hx)
      have hbd := (HLB k).out
      have htl : (l.take k).length ≤ 64 := by rw [List.length_take, ← Hn.out]; omega
      have hacc := fun W => Lib.hid (c126 s.n s.f s.w W)
      obtain ⟨q, hq⟩ : ∃ q, q = Mo.lsum c (l.take k) := ⟨_, rfl⟩
      rw [← hq] at g0 hstep hbd
      have hqb : -640000 ≤ q ∧ q ≤ 640000 := by omega
      obtain ⟨W1, hW1⟩ : ∃ W1, W1 = wr.alloc (Obj.cells #[.string s.n, .int .i64 s.f, .int .i64 s.w] 210) := ⟨_, rfl⟩
      obtain ⟨bx, hbx⟩ : ∃ bx, bx = wr.heap.size := ⟨_, rfl⟩
      have hBr : Below wr.heap.size wr W1 := by rw [hW1]; exact (Below.refl _ _).alloc (Nat.le_refl _) _
      clear hc' hx hbd htl hq
      by_cases hcmp : s.w ≤ s.f
      · rw [if_pos hcmp] at hstep
        simp only [hcmp, decide_true] at hacc
        go_wp2_with fail
        rw [← hW1, ← hbx]
        refine (hacc _).out.mono ?_
        rintro e w1 ⟨rfl, hb1⟩
        have hb01 := hBr.call hb1 rfl
        have k0 := (hb01.block _ y0).trans g0
        have k1 := (hb01.block _ y1).trans g1
        have k2 := (hb01.block _ y2).trans g2
        have hB1 := hB.call hb01 rfl
        have pf : w1.frozen? ⟨w.heap.size, 6, none⟩ = false := free_at k0
        have p6 : w1.cell? ⟨w.heap.size, 6, none⟩ = some (.int .i64 q) := cell_at k0 rfl
        have p7 : w1.cell? ⟨w.heap.size + 1, 7, none⟩ = some (.int .i64 c.bonus) := cell_at k1 rfl
        have p8 : w1.cell? ⟨w.heap.size + 1, 8, none⟩ = some (.int .i64 c.pen) := cell_at k1 rfl
        have f0 : Hid ((w1.setCell ⟨w.heap.size, 6, none⟩ (.int .i64 (q + c.bonus))).heap[w.heap.size]? = some (Obj.cells (Inv.mk vc (Mo.lsum c (l.take (k + 1))) vt).arr 91)) := by
          show _ = _
          rw [set_blk k0, hstep.out]; first | rfl | (rw [show q - c.pen = q + -c.pen by omega]; rfl)
        have f1 : Hid ((w1.setCell ⟨w.heap.size, 6, none⟩ (.int .i64 (q + c.bonus))).heap[w.heap.size + 1]? = some (Obj.cells #[.int .i64 (c.r 0), .int .i64 (c.r 1), .int .i64 (c.r 2), .int .i64 (c.r 3), .int .i64 (c.r 4), .int .i64 (c.r 5), .int .i64 c.free, .int .i64 c.bonus, .int .i64 c.pen] 130)) := by
          show _ = _
          rw [set_far _ (by simp)]; exact k1
        have f2 : Hid ((w1.setCell ⟨w.heap.size, 6, none⟩ (.int .i64 (q + c.bonus))).heap[w.heap.size + 2]? = some (Obj.cells #[.int .i64 0, .int .i64 0, .int .i64 0, .int .i64 0, .int .i64 0, .int .i64 0, .int .i64 0, .int .i64 0] 91)) := by
          show _ = _
          rw [set_far _ (by simp)]; exact k2
        have hB2 := hB1.setCell (p := ⟨w.heap.size, 6, none⟩) (Nat.le_refl _) (.int .i64 (q + c.bonus))
        clear hb01 hb1 k0 k1 k2 hBr hB g0 g1 g2 h0 h1 h2
        go_wp2
        go_roundw
        case rel => exact ⟨k + 1, by omega, by go_num, hB2, f0.out, f1.out, f2.out⟩
        case measure => simp [intOf]; omega
      · rw [if_neg hcmp] at hstep
        simp only [hcmp, decide_false] at hacc
        go_wp2_with fail
        rw [← hW1, ← hbx]
        refine (hacc _).out.mono ?_
        rintro e w1 ⟨rfl, hb1⟩
        have hb01 := hBr.call hb1 rfl
        have k0 := (hb01.block _ y0).trans g0
        have k1 := (hb01.block _ y1).trans g1
        have k2 := (hb01.block _ y2).trans g2
        have hB1 := hB.call hb01 rfl
        have pf : w1.frozen? ⟨w.heap.size, 6, none⟩ = false := free_at k0
        have p6 : w1.cell? ⟨w.heap.size, 6, none⟩ = some (.int .i64 q) := cell_at k0 rfl
        have p7 : w1.cell? ⟨w.heap.size + 1, 7, none⟩ = some (.int .i64 c.bonus) := cell_at k1 rfl
        have p8 : w1.cell? ⟨w.heap.size + 1, 8, none⟩ = some (.int .i64 c.pen) := cell_at k1 rfl
        have f0 : Hid ((w1.setCell ⟨w.heap.size, 6, none⟩ (.int .i64 (q - c.pen))).heap[w.heap.size]? = some (Obj.cells (Inv.mk vc (Mo.lsum c (l.take (k + 1))) vt).arr 91)) := by
          show _ = _
          rw [set_blk k0, hstep.out]; first | rfl | (rw [show q - c.pen = q + -c.pen by omega]; rfl)
        have f1 : Hid ((w1.setCell ⟨w.heap.size, 6, none⟩ (.int .i64 (q - c.pen))).heap[w.heap.size + 1]? = some (Obj.cells #[.int .i64 (c.r 0), .int .i64 (c.r 1), .int .i64 (c.r 2), .int .i64 (c.r 3), .int .i64 (c.r 4), .int .i64 (c.r 5), .int .i64 c.free, .int .i64 c.bonus, .int .i64 c.pen] 130)) := by
          show _ = _
          rw [set_far _ (by simp)]; exact k1
        have f2 : Hid ((w1.setCell ⟨w.heap.size, 6, none⟩ (.int .i64 (q - c.pen))).heap[w.heap.size + 2]? = some (Obj.cells #[.int .i64 0, .int .i64 0, .int .i64 0, .int .i64 0, .int .i64 0, .int .i64 0, .int .i64 0, .int .i64 0] 91)) := by
          show _ = _
          rw [set_far _ (by simp)]; exact k2
        have hB2 := hB1.setCell (p := ⟨w.heap.size, 6, none⟩) (Nat.le_refl _) (.int .i64 (q - c.pen))
        clear hb01 hb1 k0 k1 k2 hBr hB g0 g1 g2 h0 h1 h2
        go_wp2
        go_roundw
        case rel => exact ⟨k + 1, by omega, by go_num, hB2, f0.out, f1.out, f2.out⟩
        case measure => simp [intOf]; omega
    · obtain rfl : k = n := by omega
      have hbd := (HLB k).out
      have hta : l.take k = l := by rw [Hn.out, List.take_length]
      rw [hta] at g0 hbd
      obtain ⟨L, hL⟩ : ∃ L, L = Mo.lsum c l := ⟨_, rfl⟩
      have HLL := Lib.hid hL
      rw [← hL] at g0 hbd
      have hLb : -640000 ≤ L ∧ L ≤ 640000 := by have := Hn.out; omega
      clear hta hL hbd HLB H
      have p6 : wr.cell? ⟨w.heap.size, 6, none⟩ = some (.int .i64 L) := cell_at g0 rfl
      have p7 : wr.cell? ⟨w.heap.size, 7, none⟩ = some (.int .i64 vt) := cell_at g0 rfl
      have pf : wr.frozen? ⟨w.heap.size, 7, none⟩ = false := free_at g0
      have j0 : (wr.setCell ⟨w.heap.size, 7, none⟩ (.int .i64 L)).heap[w.heap.size]? = some (Obj.cells (Inv.mk vc L (L + Mo.psum vc 0)).arr 91) := by
        rw [set_blk g0, show Mo.psum vc 0 = 0 from rfl, Int.add_zero]; rfl
      have j2 : (wr.setCell ⟨w.heap.size, 7, none⟩ (.int .i64 L)).heap[w.heap.size + 2]? = some (Obj.cells #[.int .i64 0, .int .i64 0, .int .i64 0, .int .i64 0, .int .i64 0, .int .i64 0, .int .i64 0, .int .i64 0] 91) := by
        rw [set_far _ (by simp)]; exact g2
      have hB2 := hB.setCell (p := ⟨w.heap.size, 7, none⟩) (Nat.le_refl _) (.int .i64 L)
      have v0 : (wr.setCell ⟨w.heap.size, 7, none⟩ (.int .i64 L)).cell? ⟨w.heap.size, 0, none⟩ = some (.int .i64 (vc 0)) := cell_at j0 rfl
      have v1 : (wr.setCell ⟨w.heap.size, 7, none⟩ (.int .i64 L)).cell? ⟨w.heap.size, 1, none⟩ = some (.int .i64 (vc 1)) := cell_at j0 rfl
      have v2 : (wr.setCell ⟨w.heap.size, 7, none⟩ (.int .i64 L)).cell? ⟨w.heap.size, 2, none⟩ = some (.int .i64 (vc 2)) := cell_at j0 rfl
      have v3 : (wr.setCell ⟨w.heap.size, 7, none⟩ (.int .i64 L)).cell? ⟨w.heap.size, 3, none⟩ = some (.int .i64 (vc 3)) := cell_at j0 rfl
      have v4 : (wr.setCell ⟨w.heap.size, 7, none⟩ (.int .i64 L)).cell? ⟨w.heap.size, 4, none⟩ = some (.int .i64 (vc 4)) := cell_at j0 rfl
      have v5 : (wr.setCell ⟨w.heap.size, 7, none⟩ (.int .i64 L)).cell? ⟨w.heap.size, 5, none⟩ = some (.int .i64 (vc 5)) := cell_at j0 rfl
      have J0 := Lib.hid j0
      have J2 := Lib.hid j2
      clear j0 j2 g0 g1 g2
      go_wp2
      go_loopw [37] (fun i wq => ∃ k : Nat, k ≤ 6 ∧ i = .int .i64 k ∧ Below w.heap.size w wq ∧ wq.heap[w.heap.size]? = some (Obj.cells (Inv.mk vc L (L + Mo.psum vc k)).arr 91) ∧ wq.heap[w.heap.size + 2]? = some (Obj.cells #[.int .i64 0, .int .i64 0, .int .i64 0, .int .i64 0, .int .i64 0, .int .i64 0, .int .i64 0, .int .i64 0] 91)) (fun i _ => 6 - (intOf i).toNat)
      case atStart => exact ⟨0, Nat.zero_le _, rfl, hB2, J0.out, J2.out⟩
      case round =>
        clear hB2 J0 J2 v0 v1 v2 v3 v4 v5
        obtain ⟨m, hm, rfl, hBq, g0, g2⟩ := hrel
        have z0 : w.heap.size < wr.heap.size := (Array.getElem?_eq_some_iff.1 g0).1
        have z2 : w.heap.size + 2 < wr.heap.size := (Array.getElem?_eq_some_iff.1 g2).1
        by_cases hlt : m < 6
        · have hix := idx85 vc m hlt wr
          have hvm := hv m hlt
          have hps := Mo.psum_bd2 vc 1000000000000 hv m (by omega)
          obtain ⟨P, hP⟩ : ∃ P, P = Mo.psum vc m := ⟨_, rfl⟩
          have hst : Hid (Mo.psum vc (m + 1) = P + vc m) := by show _ = _; rw [hP]; rfl
          rw [← hP] at g0 hps
          obtain ⟨z, hz⟩ : ∃ z, z = vc m := ⟨_, rfl⟩
          rw [← hz] at hix hvm hst
          have q7 : wr.cell? ⟨w.heap.size, 7, none⟩ = some (.int .i64 (L + P)) := cell_at g0 rfl
          have qf : wr.frozen? ⟨w.heap.size, 7, none⟩ = false := free_at g0
          have f0 : Hid ((wr.setCell ⟨w.heap.size, 7, none⟩ (.int .i64 (L + P + z))).heap[w.heap.size]? = some (Obj.cells (Inv.mk vc L (L + Mo.psum vc (m + 1))).arr 91)) := by
            show _ = _
            rw [set_blk g0, hst.out, ← Int.add_assoc]; rfl
          have f2 : Hid ((wr.setCell ⟨w.heap.size, 7, none⟩ (.int .i64 (L + P + z))).heap[w.heap.size + 2]? = some (Obj.cells #[.int .i64 0, .int .i64 0, .int .i64 0, .int .i64 0, .int .i64 0, .int .i64 0, .int .i64 0, .int .i64 0] 91)) := by
            show _ = _
            rw [set_far _ (by simp)]; exact g2
          have hB3 := hBq.setCell (p := ⟨w.heap.size, 7, none⟩) (Nat.le_refl _) (.int .i64 (L + P + z))
          clear g0 g2 hP hz hBq
          go_wp2
          go_roundw
          case rel => exact ⟨m + 1, by omega, by go_num, hB3, f0.out, f2.out⟩
          case measure => simp [intOf]; omega
        · obtain rfl : m = 6 := by omega
          obtain ⟨P, hP⟩ : ∃ P, P = Mo.psum vc 6 := ⟨_, rfl⟩
          rw [← hP] at g0
          have HP := Lib.hid hP
          have v0 : wr.cell? ⟨w.heap.size, 0, none⟩ = some (.int .i64 (vc 0)) := cell_at g0 rfl
          have v1 : wr.cell? ⟨w.heap.size, 1, none⟩ = some (.int .i64 (vc 1)) := cell_at g0 rfl
          have v2 : wr.cell? ⟨w.heap.size, 2, none⟩ = some (.int .i64 (vc 2)) := cell_at g0 rfl
          have v3 : wr.cell? ⟨w.heap.size, 3, none⟩ = some (.int .i64 (vc 3)) := cell_at g0 rfl
          have v4 : wr.cell? ⟨w.heap.size, 4, none⟩ = some (.int .i64 (vc 4)) := cell_at g0 rfl
          have v5 : wr.cell? ⟨w.heap.size, 5, none⟩ = some (.int .i64 (vc 5)) := cell_at g0 rfl
          have v6 : wr.cell? ⟨w.heap.size, 6, none⟩ = some (.int .i64 L) := cell_at g0 rfl
          have v7 : wr.cell? ⟨w.heap.size, 7, none⟩ = some (.int .i64 (L + P)) := cell_at g0 rfl
          clear g0 hP
          go_wp2_with (refine wpList_store_blk rfl 91 _ _ rfl (w.heap.size + 2) _ rfl rfl g2 ?s1 ?s2 ?s3 ?_)
          case s1 => rfl
          case s2 => kernel_rfl
          case s3 => simp [Value.oneCell']
          intro w3 h3 hg3 hs3
          have hB3 : Below w.heap.size w w3 := hBq.grown hg3 hBq.size (fun j hj => by cases hj; omega)
          go_wp2
          exact bodyPost_ret (results_blk rfl rfl h3 _ Tryz.underlying91 rfl (by kernel_rfl)) rfl ⟨by rw [← HLL.out, ← HP.out]; rfl, hB3⟩

end Go.Proofs.YtndhjkammoeikaaGreatDoor
namespace Go.Proofs.YtndhjkammoeikaaGreatDoor
open Go.RowKit
namespace Mo
def hh (c : Con) (l : List Ent) : Nat → Int := fun i => if i = 2 then max 0 (hrs l 2 - c.free) else hrs l i
def prodI (c : Con) (l : List Ent) : Nat → Int := fun i => hh c l i * c.r i
def billI (c : Con) (l : List Ent) (rs : List Res) : Inv := ⟨prodI c l, lsum c rs, lsum c rs + psum (prodI c l) 6⟩
def zeroI : Inv := ⟨fun _ => 0, 0, 0⟩
def billV (c : Con) (l : List Ent) (rs : List Res) : Inv := if bill c l rs ≠ 0 then zeroI else billI c l rs
theorem bill_ok {c : Con} {l : List Ent} {rs : List Res} (h : bill c l rs = 0) : con c = 0 ∧ entries l = 0 ∧ results rs = 0 := by
  have := first_zero h
  exact ⟨this _ (by simp), this _ (by simp), this _ (by simp)⟩
theorem hh_bd (c : Con) (l : List Ent) (hc : COk c) (hl : l.length ≤ 64) (h : ∀ e ∈ l, EOk e) (i : Nat) : 0 ≤ hh c l i ∧ hh c l i ≤ 6400000 := by
  have h1 := hrs_bd l h i
  have h2 := hrs_bd l h 2
  have := hc.free
  unfold hh
  split <;> omega
theorem prod_bd (c : Con) (l : List Ent) (hc : COk c) (hl : l.length ≤ 64) (h : ∀ e ∈ l, EOk e) (i : Nat) (hi : i < 6) : -64000000000 ≤ hh c l i * c.r i ∧ hh c l i * c.r i ≤ 64000000000 := by
  have h1 := hh_bd c l hc hl h i
  have h2 := hc.r i hi
  have := mul_bd (a := hh c l i) (b := c.r i) (A := 6400000) (B := 10000) ⟨by omega, h1.2⟩ h2
  omega
def upto (f : Nat → Int) (k : Nat) : Nat → Int := fun i => if i < k then f i else 0
theorem upto_succ (f : Nat → Int) (k : Nat) : (fun i => if i = k then f k else upto f k i) = upto f (k + 1) := by
  funext i
  unfold upto
  by_cases h : i = k
  · subst h; simp
  · rw [if_neg h]
    by_cases h2 : i < k
    · rw [if_pos h2, if_pos (by omega)]
    · rw [if_neg h2, if_neg (by omega)]
theorem arr_upto (f : Nat → Int) (a b : Int) : (Inv.mk (upto f 6) a b).arr = (Inv.mk f a b).arr := rfl
end Mo
theorem arr6_hh (c : Con) (l : List Ent) : (arr6 fun i => Mo.hrs l i).setIfInBounds 2 (.int .i64 (max 0 (Mo.hrs l 2 - c.free))) = arr6 (Mo.hh c l) := by
  rw [arr6_set _ 2 (by decide)]; rfl
end Go.Proofs.YtndhjkammoeikaaGreatDoor
