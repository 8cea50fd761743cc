/- A part of the proofs about chapter 9: contracts of functions and plain laws (W56, W57, Bridge, W58). -/
import Derived.RangeFuncNested
import Derived.RangeFuncBound
import Derived.RangeFuncCalls
import Derived.RangeFuncLeaves
import Derived.Shelf.Abstract
import Derived.Shelf.RegionOpen
import Derived.OwnWalkIn
import Derived.TacticsInMore
import Derived.LoopNIn
import Derived.LoopIn
import Derived.Test.YtndhjkammoeikaaGreatDoorA12
set_option linter.all false
namespace Go.Proofs.YtndhjkammoeikaaGreatDoor
open Go.RowKit
set_option maxHeartbeats 1000000
set_option maxRecDepth 20000

namespace Mo
theorem lsum_eq (c : Con) (l : List Res) : lsum c l = ((acc l).length : Int) * c.bonus - ((rej l).length : Int) * c.pen := by
  induction l with
  | nil => simp [lsum, acc, rej]
  | cons x l ih =>
    simp only [lsum, ih]
    by_cases h : x.w ≤ x.f
    · have e1 : acc (x :: l) = x.n :: acc l := by unfold acc; simp [h]
      have e2 : rej (x :: l) = rej l := by unfold rej; simp [h]
      rw [if_pos h, e1, e2, List.length_cons]
      push_cast
      rw [Int.add_mul]
      omega
    · have e1 : acc (x :: l) = acc l := by unfold acc; simp [h]
      have e2 : rej (x :: l) = x.n :: rej l := by unfold rej; simp [h]
      rw [if_neg h, e1, e2, List.length_cons]
      push_cast
      rw [Int.add_mul]
      omega
end Mo
theorem con_r (c : Con) : arr6 c.r = #[.int .i64 (c.r 0), .int .i64 (c.r 1), .int .i64 (c.r 2), .int .i64 (c.r 3), .int .i64 (c.r 4), .int .i64 (c.r 5)] := rfl
set_option maxHeartbeats 4000000 in
theorem c72 (c : Con) (A : Option Addr) (cap : Nat) (l : List Ent) (G : Option Addr) (gcap : Nat) (rs : List Res) (w : World) (H : RdL w 3 Ent.enc A l) (HG : RdL w 3 Res.enc G rs) (hE : Mo.bill c l rs = 0) :
    Calls Tryz.prog 72 #[.agg #[.int .i64 (c.r 0), .int .i64 (c.r 1), .int .i64 (c.r 2), .int .i64 (c.r 3), .int .i64 (c.r 4), .int .i64 (c.r 5), .int .i64 c.free, .int .i64 c.bonus, .int .i64 c.pen], .slice A l.length cap, .slice G rs.length gcap] w fun en w' => en = .returned (.agg (Mo.billI c l rs).arr) ∧ Below w.heap.size w w' := by
  obtain ⟨W, hW⟩ : ∃ W, W = (w.alloc (Obj.cells #[.int .i64 (c.r 0), .int .i64 (c.r 1), .int .i64 (c.r 2), .int .i64 (c.r 3), .int .i64 (c.r 4), .int .i64 (c.r 5), .int .i64 c.free, .int .i64 c.bonus, .int .i64 c.pen] 122)).alloc (Obj.cells #[.int .i64 0, .int .i64 0, .int .i64 0, .int .i64 0, .int .i64 0, .int .i64 0, .int .i64 0, .int .i64 0] 87) := ⟨_, rfl⟩
  have hB0 : Below w.heap.size w W := by rw [hW]; exact (((Below.refl _ _).alloc (by first | omega | (simp <;> omega)) _).alloc (by first | omega | (simp <;> omega)) _)
  have hT0 : W.heap[w.heap.size]? = some (Obj.cells #[.int .i64 (c.r 0), .int .i64 (c.r 1), .int .i64 (c.r 2), .int .i64 (c.r 3), .int .i64 (c.r 4), .int .i64 (c.r 5), .int .i64 c.free, .int .i64 c.bonus, .int .i64 c.pen] 122) := by rw [hW]; exact heap_old (by simp) (heap_new rfl)
  have hT1 : W.heap[w.heap.size + 1]? = some (Obj.cells #[.int .i64 0, .int .i64 0, .int .i64 0, .int .i64 0, .int .i64 0, .int .i64 0, .int .i64 0, .int .i64 0] 87) := by rw [hW]; exact heap_new (by simp)
  have z0 : w.heap.size < W.heap.size := (Array.getElem?_eq_some_iff.1 hT0).1
  have z1 : w.heap.size + 1 < W.heap.size := (Array.getElem?_eq_some_iff.1 hT1).1
  obtain ⟨hc0, he0, hr0⟩ := Mo.bill_ok hE
  have hok := Mo.con_ok hc0
  obtain ⟨ho1, ho2, _⟩ := Mo.entries_ok he0
  obtain ⟨hr1, hr2⟩ := Mo.results_ok hr0
  have hfr := hok.free
  have hbo := hok.bonus
  have hpe' := hok.pen
  have HH := fun W (hW : Below w.heap.size w W) => Lib.hid (c58 A cap l W ho1 ho2 (H.below hW))
  have HX := fun W (hW : Below w.heap.size w W) => Lib.hid (c71 G gcap rs W (by omega) (HG.below hW))
  have HP := fun i hi => Lib.hid (Mo.prod_bd c l hok ho1 ho2 i hi)
  have h2b := Mo.hrs_bd l ho2 2
  have hh2 := Lib.hid (arr6_hh c l)
  have hlb := Mo.lsum_bd c hok rs
  have hle := Mo.lsum_eq c rs
  have hal := Mo.acc_len rs
  have hrl := Mo.rej_len rs
  have hfin : Hid ((Mo.billI c l rs).arr = (Inv.mk (Mo.prodI c l) (Mo.lsum c rs) (Mo.lsum c rs + Mo.psum (Mo.prodI c l) 6)).arr) := rfl
  obtain ⟨U, hU⟩ : ∃ U, U = (Mo.billI c l rs).arr := ⟨_, rfl⟩
  rw [← hU] at hfin ⊢
  obtain ⟨V, hV⟩ : ∃ V : Nat → Int, V = fun (i : Nat) => Mo.hrs l i := ⟨_, rfl⟩
  have hVV : hrsV l = .agg #[.int .i64 (V 0), .int .i64 (V 1), .int .i64 (V 2), .int .i64 (V 3), .int .i64 (V 4), .int .i64 (V 5)] := by rw [hV]; rfl
  rw [hVV] at HH
  have hV2 : Mo.hrs l 2 = V 2 := by rw [hV]; rfl
  rw [hV2] at hh2 h2b
  have hh2' : Hid ((arr6 V).setIfInBounds 2 (.int .i64 (max 0 (V 2 - c.free))) = arr6 (Mo.hh c l)) := by show _ = _; rw [hV] at hh2 ⊢; exact hh2.out
  have h2c : 0 ≤ V 2 ∧ V 2 ≤ 6400000 := by omega
  obtain ⟨Hf, hHf⟩ : ∃ Hf, Hf = Mo.hh c l := ⟨_, rfl⟩
  obtain ⟨pf, hpf⟩ : ∃ pf, pf = Mo.prodI c l := ⟨_, rfl⟩
  have hpe : ∀ i, Hid (pf i = Hf i * c.r i) := fun i => by show _ = _; rw [hpf, hHf]; rfl
  have HPb : ∀ i, i < 6 → -64000000000 ≤ Hf i * c.r i ∧ Hf i * c.r i ≤ 64000000000 := fun i hi => by rw [hHf]; exact (HP i hi).out
  have hps : ∀ k : Nat, k ≤ 6 → Hid (-((k : Int) * 64000000000) ≤ Mo.psum pf k ∧ Mo.psum pf k ≤ k * 64000000000) := fun k hk => Mo.psum_bd2 pf 64000000000 (fun i hi => by rw [(hpe i).out]; exact HPb i hi) k hk
  have HPB := Lib.hid HPb
  rw [← hpf] at hfin
  rw [← hHf] at hh2'
  obtain ⟨L, hL⟩ : ∃ L, L = Mo.lsum c rs := ⟨_, rfl⟩
  rw [← hL] at hfin hlb hle
  obtain ⟨na, hna⟩ : ∃ na, na = (Mo.acc rs).length := ⟨_, rfl⟩
  obtain ⟨nr, hnr⟩ : ∃ nr, nr = (Mo.rej rs).length := ⟨_, rfl⟩
  rw [← hna] at hal hle HX
  rw [← hnr] at hrl hle HX
  have hab : 0 ≤ (na : Int) * c.bonus ∧ (na : Int) * c.bonus ≤ 640000 := by
    have := Mo.mul_bd (a := (na : Int)) (b := c.bonus) (A := 64) (B := 10000) ⟨by omega, by omega⟩ ⟨by omega, by omega⟩
    exact ⟨Int.mul_nonneg (by omega) hbo.1, by omega⟩
  have hrb : 0 ≤ (nr : Int) * c.pen ∧ (nr : Int) * c.pen ≤ 640000 := by
    have := Mo.mul_bd (a := (nr : Int)) (b := c.pen) (A := 64) (B := 10000) ⟨by omega, by omega⟩ ⟨by omega, by omega⟩
    exact ⟨Int.mul_nonneg (by omega) hpe'.1, by omega⟩
  have HLE := Lib.hid hle
  obtain ⟨n, hn⟩ : ∃ n, n = l.length := ⟨_, rfl⟩
  obtain ⟨m, hm⟩ : ∃ m, m = rs.length := ⟨_, rfl⟩
  rw [← hn] at HH ⊢
  rw [← hm] at HX ⊢
  clear hh2 hV2 hVV hV hU h2b HP hr1 hr2 ho1 ho2 hok hc0 he0 hr0 hE hn hm H HG hHf hpf HPb hL hna hnr hle hlb hal hrl
  go_enter Tryz.func72, Tryz.ntmps72
  go_wp2_with fail
  rw [← hW]
  clear hW
  refine (HH _ hB0).out.mono ?_
  rintro e w2 ⟨rfl, hb3⟩
  have hB3 := hB0.call hb3 rfl
  have t0 := (hb3.block _ z0).trans hT0
  have t1 := (hb3.block _ z1).trans hT1
  have y1 : w.heap.size + 1 < w2.heap.size := Nat.lt_of_lt_of_le z1 hb3.size
  have hb4 : Below w2.heap.size w2 (w2.alloc (Obj.cells (arr6 V) 85)) := (Below.refl _ _).alloc (Nat.le_refl _) _
  have hB4 := hB3.call hb4 rfl
  have t0 := (hb4.block _ (by omega)).trans t0
  have t1 := (hb4.block _ (by omega)).trans t1
  have ta : (w2.alloc (Obj.cells (arr6 V) 85)).heap[w2.heap.size]? = some (Obj.cells (arr6 V) 85) := heap_new rfl
  clear hb3 hT0 hT1 z0 z1 hB0 HH hB3 hb4
  go_wp2_with fail
  refine (HX _ hB4).out.mono ?_
  rintro e w5 ⟨xg, xb, rfl, hxg, hxb, hb5⟩
  obtain ⟨gA, gc, rfl, -⟩ := hxg
  obtain ⟨bA, bc, rfl, -⟩ := hxb
  have hB5 := hB4.call hb5 rfl
  have x2 : w2.heap.size < w5.heap.size := by have := hb5.size; simp at this; omega
  have t0 := (hb5.block _ (by simp; omega)).trans t0
  have t1 := (hb5.block _ (by simp; omega)).trans t1
  have ta := (hb5.block _ (by simp)).trans ta
  have c0 : w5.cell? ⟨w.heap.size, 0, none⟩ = some (.int .i64 (c.r 0)) := cell_at t0 rfl
  have c1 : w5.cell? ⟨w.heap.size, 1, none⟩ = some (.int .i64 (c.r 1)) := cell_at t0 rfl
  have c2 : w5.cell? ⟨w.heap.size, 2, none⟩ = some (.int .i64 (c.r 2)) := cell_at t0 rfl
  have c3 : w5.cell? ⟨w.heap.size, 3, none⟩ = some (.int .i64 (c.r 3)) := cell_at t0 rfl
  have c4 : w5.cell? ⟨w.heap.size, 4, none⟩ = some (.int .i64 (c.r 4)) := cell_at t0 rfl
  have c5 : w5.cell? ⟨w.heap.size, 5, none⟩ = some (.int .i64 (c.r 5)) := cell_at t0 rfl
  have V0 := Lib.hid t0
  have V1 := Lib.hid t1
  have VA := Lib.hid ta
  have HB5 := Lib.hid hB5
  have hb6 : Below w5.heap.size w5 (w5.alloc (Obj.cells (arr6 c.r) 85)) := (Below.refl _ _).alloc (Nat.le_refl _) _
  have hB6 := hB5.call hb6 rfl
  have u0 := (hb6.block _ (by omega)).trans t0
  have u1 := (hb6.block _ (by omega)).trans t1
  have ua := (hb6.block _ x2).trans ta
  have ub : (w5.alloc (Obj.cells (arr6 c.r) 85)).heap[w5.heap.size]? = some (Obj.cells (arr6 c.r) 85) := heap_new rfl
  have q2 : (w5.alloc (Obj.cells #[.int .i64 (c.r 0), .int .i64 (c.r 1), .int .i64 (c.r 2), .int .i64 (c.r 3), .int .i64 (c.r 4), .int .i64 (c.r 5)] 85)).cell? ⟨w2.heap.size, 2, none⟩ = some (.int .i64 (V 2)) := cell_at ua rfl
  have qf : (w5.alloc (Obj.cells #[.int .i64 (c.r 0), .int .i64 (c.r 1), .int .i64 (c.r 2), .int .i64 (c.r 3), .int .i64 (c.r 4), .int .i64 (c.r 5)] 85)).frozen? ⟨w2.heap.size, 2, none⟩ = false := free_at ua
  have q6 : (w5.alloc (Obj.cells #[.int .i64 (c.r 0), .int .i64 (c.r 1), .int .i64 (c.r 2), .int .i64 (c.r 3), .int .i64 (c.r 4), .int .i64 (c.r 5)] 85)).cell? ⟨w.heap.size, 6, none⟩ = some (.int .i64 c.free) := cell_at u0 rfl
  have U0 := Lib.hid u0
  have U1 := Lib.hid u1
  have UA := Lib.hid ua
  have UB := Lib.hid ub
  clear t0 t1 ta u0 u1 ua ub hb5 hb6 HX hB4 hB5
  by_cases hmx : 0 < V 2 - c.free
  · have hA : Hid ((arr6 V).setIfInBounds 2 (.int .i64 (V 2 - c.free)) = arr6 Hf) := by show _ = _; rw [← hh2'.out, show max 0 (V 2 - c.free) = V 2 - c.free by omega]
    obtain ⟨W7, hW7⟩ : ∃ W7, W7 = ((w5.setCell ⟨w2.heap.size, 2, none⟩ (.int .i64 (V 2 - c.free))).alloc (Obj.cells #[.int .i64 (c.r 0), .int .i64 (c.r 1), .int .i64 (c.r 2), .int .i64 (c.r 3), .int .i64 (c.r 4), .int .i64 (c.r 5)] 85)).alloc (Obj.cells #[.int .i64 0, .int .i64 0, .int .i64 0, .int .i64 0, .int .i64 0, .int .i64 0, .int .i64 0, .int .i64 0] 87) := ⟨_, rfl⟩
    have hsz5 : (w5.setCell ⟨w2.heap.size, 2, none⟩ (.int .i64 (V 2 - c.free))).heap.size = w5.heap.size := by simp [World.setCell]
    have hsz6 : ((w5.setCell ⟨w2.heap.size, 2, none⟩ (.int .i64 (V 2 - c.free))).alloc (Obj.cells #[.int .i64 (c.r 0), .int .i64 (c.r 1), .int .i64 (c.r 2), .int .i64 (c.r 3), .int .i64 (c.r 4), .int .i64 (c.r 5)] 85)).heap.size = w5.heap.size + 1 := by simp [World.setCell]
    have hx5 := HB5.out.size
    have s0 : W7.heap[w.heap.size]? = some (Obj.cells #[.int .i64 (c.r 0), .int .i64 (c.r 1), .int .i64 (c.r 2), .int .i64 (c.r 3), .int .i64 (c.r 4), .int .i64 (c.r 5), .int .i64 c.free, .int .i64 c.bonus, .int .i64 c.pen] 122) := by rw [hW7]; exact heap_old (by rw [hsz6]; omega) (heap_old (by rw [hsz5]; omega) (by rw [set_far _ (by simp; omega)]; exact V0.out))
    have s1 : W7.heap[w.heap.size + 1]? = some (Obj.cells #[.int .i64 0, .int .i64 0, .int .i64 0, .int .i64 0, .int .i64 0, .int .i64 0, .int .i64 0, .int .i64 0] 87) := by rw [hW7]; exact heap_old (by rw [hsz6]; omega) (heap_old (by rw [hsz5]; omega) (by rw [set_far _ (by simp; omega)]; exact V1.out))
    have s7 : W7.heap[w2.heap.size]? = some (Obj.cells (arr6 Hf) 85) := by rw [hW7, ← hA.out]; exact heap_old (by rw [hsz6]; omega) (heap_old (by rw [hsz5]; omega) (set_blk VA.out _))
    have s10 : W7.heap[w5.heap.size]? = some (Obj.cells (arr6 c.r) 85) := by rw [hW7]; exact heap_old (by rw [hsz6]; omega) (heap_new hsz5.symm)
    have s11 : W7.heap[w5.heap.size + 1]? = some (Obj.cells (Inv.mk (Mo.upto pf 0) 0 (Mo.psum pf 0)).arr 87) := by rw [hW7]; exact heap_new hsz6.symm
    have hB7 : Below w.heap.size w W7 := by rw [hW7]; exact ((HB5.out.setCell (p := ⟨w2.heap.size, 2, none⟩) (by show w.heap.size ≤ w2.heap.size; omega) (.int .i64 (V 2 - c.free))).alloc (by rw [hsz5]; omega) _).alloc (by rw [hsz6]; omega) _
    have S0 := Lib.hid s0
    have S1 := Lib.hid s1
    have S7 := Lib.hid s7
    have S10 := Lib.hid s10
    have S11 := Lib.hid s11
    clear hA s0 s1 s7 s10 s11 hB6 hsz6 hsz5 V0 V1 VA HB5
    go_wp2_with fail
    rw [← hW7]
    clear hW7 q2 qf q6
    go_loopw [12] (fun i wr => ∃ k : Nat, k ≤ 6 ∧ i = .int .i64 k ∧ Below w.heap.size w wr ∧ wr.heap[w.heap.size]? = some (Obj.cells #[.int .i64 (c.r 0), .int .i64 (c.r 1), .int .i64 (c.r 2), .int .i64 (c.r 3), .int .i64 (c.r 4), .int .i64 (c.r 5), .int .i64 c.free, .int .i64 c.bonus, .int .i64 c.pen] 122) ∧ wr.heap[w.heap.size + 1]? = some (Obj.cells #[.int .i64 0, .int .i64 0, .int .i64 0, .int .i64 0, .int .i64 0, .int .i64 0, .int .i64 0, .int .i64 0] 87) ∧ wr.heap[w2.heap.size]? = some (Obj.cells (arr6 Hf) 85) ∧ wr.heap[w5.heap.size]? = some (Obj.cells (arr6 c.r) 85) ∧ wr.heap[w5.heap.size + 1]? = some (Obj.cells (Inv.mk (Mo.upto pf k) 0 (Mo.psum pf k)).arr 87)) (fun i _ => 6 - (intOf i).toNat)
    case atStart => exact ⟨0, Nat.zero_le _, rfl, hB7, S0.out, S1.out, S7.out, S10.out, S11.out⟩
    case round =>
      clear hB7 S0 S1 S7 S10 S11 U0 U1 UA UB c0 c1 c2 c3 c4 c5
      obtain ⟨k, hk, rfl, hB, g0, g1, g7, g10, g11⟩ := hrel
      have n0 : w.heap.size < wr.heap.size := (Array.getElem?_eq_some_iff.1 g0).1
      have n1 : w.heap.size + 1 < wr.heap.size := (Array.getElem?_eq_some_iff.1 g1).1
      have n7 : w2.heap.size < wr.heap.size := (Array.getElem?_eq_some_iff.1 g7).1
      have n10 : w5.heap.size < wr.heap.size := (Array.getElem?_eq_some_iff.1 g10).1
      have n11 : w5.heap.size + 1 < wr.heap.size := (Array.getElem?_eq_some_iff.1 g11).1
      by_cases hlt : k < 6
      · have hx2 : (k : Int) < 6 := by omega
        have hx1 : (0 : Int) ≤ (k : Int) := by omega
        have hpb := HPB.out k hlt
        have hpk := (hpe k).out
        have hpsk := (hps k (by omega)).out
        have hst : Hid (Mo.psum pf (k + 1) = Mo.psum pf k + pf k) := rfl
        have p7 : wr.cell? ⟨w2.heap.size, k, none⟩ = some (.int .i64 (Hf k)) := cell_at g7 (arr6_get Hf k hlt)
        have p10 : wr.cell? ⟨w5.heap.size, k, none⟩ = some (.int .i64 (c.r k)) := cell_at g10 (arr6_get c.r k hlt)
        have hset := Inv.setc (Inv.mk (Mo.upto pf k) 0 (Mo.psum pf k)) k hlt (Hf k * c.r k)
        have hup := Mo.upto_succ pf k
        have hget := Inv.get (Inv.mk (Mo.upto pf (k + 1)) 0 (Mo.psum pf k)) k hlt
        have hgv : Mo.upto pf (k + 1) k = pf k := by unfold Mo.upto; rw [if_pos (by omega)]
        have HSET : Hid ((Inv.mk (Mo.upto pf k) 0 (Mo.psum pf k)).arr.setIfInBounds k (.int .i64 (Hf k * c.r k)) = (Inv.mk (Mo.upto pf (k + 1)) 0 (Mo.psum pf k)).arr) := by
          show _ = _
          rw [hset, ← hpk]; exact congrArg (fun f => (Inv.mk f 0 (Mo.psum pf k)).arr) hup
        have HGET : Hid ((Inv.mk (Mo.upto pf (k + 1)) 0 (Mo.psum pf k)).arr[k]? = some (.int .i64 (Hf k * c.r k))) := by
          show _ = _
          rw [hget, ← hpk]; exact congrArg (fun z => some (Value.int .i64 z)) hgv
        obtain ⟨P, hP⟩ : ∃ P, P = Mo.psum pf k := ⟨_, rfl⟩
        rw [← hP] at g11 hpsk hst HSET HGET
        rw [hpk] at hst
        obtain ⟨hv, hhv⟩ : ∃ hv, hv = Hf k := ⟨_, rfl⟩
        obtain ⟨rv, hrv⟩ : ∃ rv, rv = c.r k := ⟨_, rfl⟩
        rw [← hhv] at p7 hpb hst HSET HGET
        rw [← hrv] at p10 hpb hst HSET HGET
        have pcx : wr.cell? ⟨w5.heap.size + 1, k, none⟩ = some (.int .i64 (Mo.upto pf k k)) := cell_at g11 (Inv.get (Inv.mk (Mo.upto pf k) 0 P) k hlt)
        have G0 := Lib.hid g0
        have G1 := Lib.hid g1
        have G7 := Lib.hid g7
        have G10 := Lib.hid g10
        have G11 := Lib.hid g11
        clear hset hup hget hgv hP hhv hrv hpk g0 g1 g7 g10 g11
        go_wp2
        refine wp_region_splitG 10 (by kernel_rfl) (by kernel_rfl) ?_
        simp only [List.take_succ_cons, List.take_zero, List.drop_succ_cons, List.drop_zero]
        repeat (go_big_quiet_step ((first | fail)))
        refine wpQuiet_nil (gw_out ?_)
        intro wa hba
        have hBa := hB.call hba rfl
        have k0 := (hba.block _ n0).trans G0.out
        have k1 := (hba.block _ n1).trans G1.out
        have k7 := (hba.block _ n7).trans G7.out
        have k10 := (hba.block _ n10).trans G10.out
        have k11 := (hba.block _ n11).trans G11.out
        have kf : wa.frozen? ⟨w5.heap.size + 1, k, none⟩ = false := free_at k11
        have kc : wa.cell? ⟨w5.heap.size + 1, k, none⟩ = some (.int .i64 (Mo.upto pf k k)) := ((bcell hba).1 _ _ n11).trans pcx
        obtain ⟨W8, hW8⟩ : ∃ W8, W8 = wa.setCell ⟨w5.heap.size + 1, k, none⟩ (.int .i64 (hv * rv)) := ⟨_, rfl⟩
        have f0 : W8.heap[w.heap.size]? = some (Obj.cells #[.int .i64 (c.r 0), .int .i64 (c.r 1), .int .i64 (c.r 2), .int .i64 (c.r 3), .int .i64 (c.r 4), .int .i64 (c.r 5), .int .i64 c.free, .int .i64 c.bonus, .int .i64 c.pen] 122) := by rw [hW8, set_far _ (by simp; omega)]; exact k0
        have f1 : W8.heap[w.heap.size + 1]? = some (Obj.cells #[.int .i64 0, .int .i64 0, .int .i64 0, .int .i64 0, .int .i64 0, .int .i64 0, .int .i64 0, .int .i64 0] 87) := by rw [hW8, set_far _ (by simp; omega)]; exact k1
        have f7 : W8.heap[w2.heap.size]? = some (Obj.cells (arr6 Hf) 85) := by rw [hW8, set_far _ (by simp; omega)]; exact k7
        have f10 : W8.heap[w5.heap.size]? = some (Obj.cells (arr6 c.r) 85) := by rw [hW8, set_far _ (by simp)]; exact k10
        have f11 : W8.heap[w5.heap.size + 1]? = some (Obj.cells (Inv.mk (Mo.upto pf (k + 1)) 0 P).arr 87) := by rw [hW8, set_blk k11, HSET.out]
        have hB8 : Below w.heap.size w W8 := by rw [hW8]; exact hBa.setCell (p := ⟨w5.heap.size + 1, k, none⟩) (by show w.heap.size ≤ w5.heap.size + 1; omega) _
        have pk : W8.cell? ⟨w5.heap.size + 1, k, none⟩ = some (.int .i64 (hv * rv)) := cell_at f11 HGET.out
        have pt : W8.cell? ⟨w5.heap.size + 1, 7, none⟩ = some (.int .i64 P) := cell_at f11 rfl
        have hsz8 : w5.heap.size + 1 < W8.heap.size := (Array.getElem?_eq_some_iff.1 f11).1
        have F0 := Lib.hid f0
        have F1 := Lib.hid f1
        have F7 := Lib.hid f7
        have F10 := Lib.hid f10
        have F11 := Lib.hid f11
        clear k0 k1 k7 k10 k11 hba hBa G0 G1 G7 G10 G11 HSET HGET f0 f1 f7 f10 f11 pcx
        go_wp2
        rw [← hW8]
        clear hW8
        refine wp_region_splitG 8 (by kernel_rfl) (by kernel_rfl) ?_
        simp only [List.take_succ_cons, List.take_zero, List.drop_succ_cons, List.drop_zero]
        repeat (go_big_quiet_step ((first | fail)))
        refine wpQuiet_nil (gw_out ?_)
        intro wb hbb
        have hBb := hB8.call hbb rfl
        have k0 := (hbb.block _ (Array.getElem?_eq_some_iff.1 F0.out).1).trans F0.out
        have k1 := (hbb.block _ (Array.getElem?_eq_some_iff.1 F1.out).1).trans F1.out
        have k7 := (hbb.block _ (Array.getElem?_eq_some_iff.1 F7.out).1).trans F7.out
        have k10 := (hbb.block _ (Array.getElem?_eq_some_iff.1 F10.out).1).trans F10.out
        have k11 := (hbb.block _ hsz8).trans F11.out
        have kf2 : wb.frozen? ⟨w5.heap.size + 1, 7, none⟩ = false := free_at k11
        have kc2 : wb.cell? ⟨w5.heap.size + 1, 7, none⟩ = some (.int .i64 P) := cell_at k11 rfl
        have e0 : Hid ((wb.setCell ⟨w5.heap.size + 1, 7, none⟩ (.int .i64 (P + (hv * rv)))).heap[w.heap.size]? = some (Obj.cells #[.int .i64 (c.r 0), .int .i64 (c.r 1), .int .i64 (c.r 2), .int .i64 (c.r 3), .int .i64 (c.r 4), .int .i64 (c.r 5), .int .i64 c.free, .int .i64 c.bonus, .int .i64 c.pen] 122)) := by show _ = _; rw [set_far _ (by simp; omega)]; exact k0
        have e1 : Hid ((wb.setCell ⟨w5.heap.size + 1, 7, none⟩ (.int .i64 (P + (hv * rv)))).heap[w.heap.size + 1]? = some (Obj.cells #[.int .i64 0, .int .i64 0, .int .i64 0, .int .i64 0, .int .i64 0, .int .i64 0, .int .i64 0, .int .i64 0] 87)) := by show _ = _; rw [set_far _ (by simp; omega)]; exact k1
        have e7 : Hid ((wb.setCell ⟨w5.heap.size + 1, 7, none⟩ (.int .i64 (P + (hv * rv)))).heap[w2.heap.size]? = some (Obj.cells (arr6 Hf) 85)) := by show _ = _; rw [set_far _ (by simp; omega)]; exact k7
        have e10 : Hid ((wb.setCell ⟨w5.heap.size + 1, 7, none⟩ (.int .i64 (P + (hv * rv)))).heap[w5.heap.size]? = some (Obj.cells (arr6 c.r) 85)) := by show _ = _; rw [set_far _ (by simp)]; exact k10
        have e11 : Hid ((wb.setCell ⟨w5.heap.size + 1, 7, none⟩ (.int .i64 (P + (hv * rv)))).heap[w5.heap.size + 1]? = some (Obj.cells (Inv.mk (Mo.upto pf (k + 1)) 0 (Mo.psum pf (k + 1))).arr 87)) := by show _ = _; rw [set_blk k11, hst.out]; rfl
        have hB9 := hBb.setCell (p := ⟨w5.heap.size + 1, 7, none⟩) (by show w.heap.size ≤ w5.heap.size + 1; omega) (.int .i64 (P + (hv * rv)))
        clear k0 k1 k7 k10 k11 hbb hBb F0 F1 F7 F10 F11 hst
        go_wp2
        go_roundw
        case rel => exact ⟨k + 1, by omega, by go_num, hB9, e0.out, e1.out, e7.out, e10.out, e11.out⟩
        case measure => simp [intOf]; omega
      · obtain rfl : k = 6 := by omega
        have hpsk := (hps 6 (by omega)).out
        obtain ⟨P, hP⟩ : ∃ P, P = Mo.psum pf 6 := ⟨_, rfl⟩
        rw [← hP] at g11 hpsk hfin
        have g11' : wr.heap[w5.heap.size + 1]? = some (Obj.cells (Inv.mk pf 0 P).arr 87) := by rw [← Mo.arr_upto]; exact g11
        have b7 : wr.cell? ⟨w.heap.size, 7, none⟩ = some (.int .i64 c.bonus) := cell_at g0 rfl
        have b8 : wr.cell? ⟨w.heap.size, 8, none⟩ = some (.int .i64 c.pen) := cell_at g0 rfl
        have p6 : wr.cell? ⟨w5.heap.size + 1, 6, none⟩ = some (.int .i64 0) := cell_at g11' rfl
        have pf6 : wr.frozen? ⟨w5.heap.size + 1, 6, none⟩ = false := free_at g11'
        have pz6 : wr.frozen? ⟨w5.heap.size + 1, 7, none⟩ = false := free_at g11'
        have p7 : wr.cell? ⟨w5.heap.size + 1, 7, none⟩ = some (.int .i64 P) := cell_at g11' rfl
        have v0 : wr.cell? ⟨w5.heap.size + 1, 0, none⟩ = some (.int .i64 (pf 0)) := cell_at g11' rfl
        have v1 : wr.cell? ⟨w5.heap.size + 1, 1, none⟩ = some (.int .i64 (pf 1)) := cell_at g11' rfl
        have v2 : wr.cell? ⟨w5.heap.size + 1, 2, none⟩ = some (.int .i64 (pf 2)) := cell_at g11' rfl
        have v3 : wr.cell? ⟨w5.heap.size + 1, 3, none⟩ = some (.int .i64 (pf 3)) := cell_at g11' rfl
        have v4 : wr.cell? ⟨w5.heap.size + 1, 4, none⟩ = some (.int .i64 (pf 4)) := cell_at g11' rfl
        have v5 : wr.cell? ⟨w5.heap.size + 1, 5, none⟩ = some (.int .i64 (pf 5)) := cell_at g11' rfl
        have hz8 : ((wr.setCell ⟨w5.heap.size + 1, 6, none⟩ (.int .i64 ((na : Int) * c.bonus - (nr : Int) * c.pen))).setCell ⟨w5.heap.size + 1, 7, none⟩ (.int .i64 (P + ((na : Int) * c.bonus - (nr : Int) * c.pen)))).heap[w.heap.size + 1]? = some (Obj.cells #[.int .i64 0, .int .i64 0, .int .i64 0, .int .i64 0, .int .i64 0, .int .i64 0, .int .i64 0, .int .i64 0] 87) := by
          rw [set_far _ (by simp; omega), set_far _ (by simp; omega)]; exact g1
        have hB8 := (hB.setCell (p := ⟨w5.heap.size + 1, 6, none⟩) (by show w.heap.size ≤ w5.heap.size + 1; omega) (.int .i64 ((na : Int) * c.bonus - (nr : Int) * c.pen))).setCell (p := ⟨w5.heap.size + 1, 7, none⟩) (by show w.heap.size ≤ w5.heap.size + 1; omega) (.int .i64 (P + ((na : Int) * c.bonus - (nr : Int) * c.pen)))
        clear g0 g1 g7 g10 g11 g11' hP hps HPB hpe
        go_wp2_with (refine wpList_store_blk rfl 87 _ _ rfl (w.heap.size + 1) _ rfl rfl hz8 ?s1 ?s2 ?s3 ?_)
        case s1 => rfl
        case s2 => kernel_rfl
        case s3 => simp [Value.oneCell', Inv.arr]
        intro w3 h3 hg3 hs3
        have hB9 : Below w.heap.size w w3 := hB8.grown hg3 hB8.size (fun j hj => by cases hj; omega)
        go_wp2
        exact bodyPost_ret (results_blk rfl rfl h3 _ Tryz.underlying87 rfl (by kernel_rfl)) rfl ⟨by rw [hfin.out, HLE.out, Int.add_comm _ P]; rfl, hB9⟩
  · have hA : Hid ((arr6 V).setIfInBounds 2 (.int .i64 (0)) = arr6 Hf) := by show _ = _; rw [← hh2'.out, show max 0 (V 2 - c.free) = 0 by omega]
    obtain ⟨W7, hW7⟩ : ∃ W7, W7 = ((w5.setCell ⟨w2.heap.size, 2, none⟩ (.int .i64 (0))).alloc (Obj.cells #[.int .i64 (c.r 0), .int .i64 (c.r 1), .int .i64 (c.r 2), .int .i64 (c.r 3), .int .i64 (c.r 4), .int .i64 (c.r 5)] 85)).alloc (Obj.cells #[.int .i64 0, .int .i64 0, .int .i64 0, .int .i64 0, .int .i64 0, .int .i64 0, .int .i64 0, .int .i64 0] 87) := ⟨_, rfl⟩
    have hsz5 : (w5.setCell ⟨w2.heap.size, 2, none⟩ (.int .i64 (0))).heap.size = w5.heap.size := by simp [World.setCell]
    have hsz6 : ((w5.setCell ⟨w2.heap.size, 2, none⟩ (.int .i64 (0))).alloc (Obj.cells #[.int .i64 (c.r 0), .int .i64 (c.r 1), .int .i64 (c.r 2), .int .i64 (c.r 3), .int .i64 (c.r 4), .int .i64 (c.r 5)] 85)).heap.size = w5.heap.size + 1 := by simp [World.setCell]
    have hx5 := HB5.out.size
    have s0 : W7.heap[w.heap.size]? = some (Obj.cells #[.int .i64 (c.r 0), .int .i64 (c.r 1), .int .i64 (c.r 2), .int .i64 (c.r 3), .int .i64 (c.r 4), .int .i64 (c.r 5), .int .i64 c.free, .int .i64 c.bonus, .int .i64 c.pen] 122) := by rw [hW7]; exact heap_old (by rw [hsz6]; omega) (heap_old (by rw [hsz5]; omega) (by rw [set_far _ (by simp; omega)]; exact V0.out))
    have s1 : W7.heap[w.heap.size + 1]? = some (Obj.cells #[.int .i64 0, .int .i64 0, .int .i64 0, .int .i64 0, .int .i64 0, .int .i64 0, .int .i64 0, .int .i64 0] 87) := by rw [hW7]; exact heap_old (by rw [hsz6]; omega) (heap_old (by rw [hsz5]; omega) (by rw [set_far _ (by simp; omega)]; exact V1.out))
    have s7 : W7.heap[w2.heap.size]? = some (Obj.cells (arr6 Hf) 85) := by rw [hW7, ← hA.out]; exact heap_old (by rw [hsz6]; omega) (heap_old (by rw [hsz5]; omega) (set_blk VA.out _))
    have s10 : W7.heap[w5.heap.size]? = some (Obj.cells (arr6 c.r) 85) := by rw [hW7]; exact heap_old (by rw [hsz6]; omega) (heap_new hsz5.symm)
    have s11 : W7.heap[w5.heap.size + 1]? = some (Obj.cells (Inv.mk (Mo.upto pf 0) 0 (Mo.psum pf 0)).arr 87) := by rw [hW7]; exact heap_new hsz6.symm
    have hB7 : Below w.heap.size w W7 := by rw [hW7]; exact ((HB5.out.setCell (p := ⟨w2.heap.size, 2, none⟩) (by show w.heap.size ≤ w2.heap.size; omega) (.int .i64 (0))).alloc (by rw [hsz5]; omega) _).alloc (by rw [hsz6]; omega) _
    have S0 := Lib.hid s0
    have S1 := Lib.hid s1
    have S7 := Lib.hid s7
    have S10 := Lib.hid s10
    have S11 := Lib.hid s11
    clear hA s0 s1 s7 s10 s11 hB6 hsz6 hsz5 V0 V1 VA HB5
    go_wp2_with fail
    rw [← hW7]
    clear hW7 q2 qf q6
    go_loopw [12] (fun i wr => ∃ k : Nat, k ≤ 6 ∧ i = .int .i64 k ∧ Below w.heap.size w wr ∧ wr.heap[w.heap.size]? = some (Obj.cells #[.int .i64 (c.r 0), .int .i64 (c.r 1), .int .i64 (c.r 2), .int .i64 (c.r 3), .int .i64 (c.r 4), .int .i64 (c.r 5), .int .i64 c.free, .int .i64 c.bonus, .int .i64 c.pen] 122) ∧ wr.heap[w.heap.size + 1]? = some (Obj.cells #[.int .i64 0, .int .i64 0, .int .i64 0, .int .i64 0, .int .i64 0, .int .i64 0, .int .i64 0, .int .i64 0] 87) ∧ wr.heap[w2.heap.size]? = some (Obj.cells (arr6 Hf) 85) ∧ wr.heap[w5.heap.size]? = some (Obj.cells (arr6 c.r) 85) ∧ wr.heap[w5.heap.size + 1]? = some (Obj.cells (Inv.mk (Mo.upto pf k) 0 (Mo.psum pf k)).arr 87)) (fun i _ => 6 - (intOf i).toNat)
    case atStart => exact ⟨0, Nat.zero_le _, rfl, hB7, S0.out, S1.out, S7.out, S10.out, S11.out⟩
    case round =>
      clear hB7 S0 S1 S7 S10 S11 U0 U1 UA UB c0 c1 c2 c3 c4 c5
      obtain ⟨k, hk, rfl, hB, g0, g1, g7, g10, g11⟩ := hrel
      have n0 : w.heap.size < wr.heap.size := (Array.getElem?_eq_some_iff.1 g0).1
      have n1 : w.heap.size + 1 < wr.heap.size := (Array.getElem?_eq_some_iff.1 g1).1
      have n7 : w2.heap.size < wr.heap.size := (Array.getElem?_eq_some_iff.1 g7).1
      have n10 : w5.heap.size < wr.heap.size := (Array.getElem?_eq_some_iff.1 g10).1
      have n11 : w5.heap.size + 1 < wr.heap.size := (Array.getElem?_eq_some_iff.1 g11).1
      by_cases hlt : k < 6
      · have hx2 : (k : Int) < 6 := by omega
        have hx1 : (0 : Int) ≤ (k : Int) := by omega
        have hpb := HPB.out k hlt
        have hpk := (hpe k).out
        have hpsk := (hps k (by omega)).out
        have hst : Hid (Mo.psum pf (k + 1) = Mo.psum pf k + pf k) := rfl
        have p7 : wr.cell? ⟨w2.heap.size, k, none⟩ = some (.int .i64 (Hf k)) := cell_at g7 (arr6_get Hf k hlt)
        have p10 : wr.cell? ⟨w5.heap.size, k, none⟩ = some (.int .i64 (c.r k)) := cell_at g10 (arr6_get c.r k hlt)
        have hset := Inv.setc (Inv.mk (Mo.upto pf k) 0 (Mo.psum pf k)) k hlt (Hf k * c.r k)
        have hup := Mo.upto_succ pf k
        have hget := Inv.get (Inv.mk (Mo.upto pf (k + 1)) 0 (Mo.psum pf k)) k hlt
        have hgv : Mo.upto pf (k + 1) k = pf k := by unfold Mo.upto; rw [if_pos (by omega)]
        have HSET : Hid ((Inv.mk (Mo.upto pf k) 0 (Mo.psum pf k)).arr.setIfInBounds k (.int .i64 (Hf k * c.r k)) = (Inv.mk (Mo.upto pf (k + 1)) 0 (Mo.psum pf k)).arr) := by
          show _ = _
          rw [hset, ← hpk]; exact congrArg (fun f => (Inv.mk f 0 (Mo.psum pf k)).arr) hup
        have HGET : Hid ((Inv.mk (Mo.upto pf (k + 1)) 0 (Mo.psum pf k)).arr[k]? = some (.int .i64 (Hf k * c.r k))) := by
          show _ = _
          rw [hget, ← hpk]; exact congrArg (fun z => some (Value.int .i64 z)) hgv
        obtain ⟨P, hP⟩ : ∃ P, P = Mo.psum pf k := ⟨_, rfl⟩
        rw [← hP] at g11 hpsk hst HSET HGET
        rw [hpk] at hst
        obtain ⟨hv, hhv⟩ : ∃ hv, hv = Hf k := ⟨_, rfl⟩
        obtain ⟨rv, hrv⟩ : ∃ rv, rv = c.r k := ⟨_, rfl⟩
        rw [← hhv] at p7 hpb hst HSET HGET
        rw [← hrv] at p10 hpb hst HSET HGET
        have pcx : wr.cell? ⟨w5.heap.size + 1, k, none⟩ = some (.int .i64 (Mo.upto pf k k)) := cell_at g11 (Inv.get (Inv.mk (Mo.upto pf k) 0 P) k hlt)
        have G0 := Lib.hid g0
        have G1 := Lib.hid g1
        have G7 := Lib.hid g7
        have G10 := Lib.hid g10
        have G11 := Lib.hid g11
        clear hset hup hget hgv hP hhv hrv hpk g0 g1 g7 g10 g11
        go_wp2
        refine wp_region_splitG 10 (by kernel_rfl) (by kernel_rfl) ?_
        simp only [List.take_succ_cons, List.take_zero, List.drop_succ_cons, List.drop_zero]
        repeat (go_big_quiet_step ((first | fail)))
        refine wpQuiet_nil (gw_out ?_)
        intro wa hba
        have hBa := hB.call hba rfl
        have k0 := (hba.block _ n0).trans G0.out
        have k1 := (hba.block _ n1).trans G1.out
        have k7 := (hba.block _ n7).trans G7.out
        have k10 := (hba.block _ n10).trans G10.out
        have k11 := (hba.block _ n11).trans G11.out
        have kf : wa.frozen? ⟨w5.heap.size + 1, k, none⟩ = false := free_at k11
        have kc : wa.cell? ⟨w5.heap.size + 1, k, none⟩ = some (.int .i64 (Mo.upto pf k k)) := ((bcell hba).1 _ _ n11).trans pcx
        obtain ⟨W8, hW8⟩ : ∃ W8, W8 = wa.setCell ⟨w5.heap.size + 1, k, none⟩ (.int .i64 (hv * rv)) := ⟨_, rfl⟩
        have f0 : W8.heap[w.heap.size]? = some (Obj.cells #[.int .i64 (c.r 0), .int .i64 (c.r 1), .int .i64 (c.r 2), .int .i64 (c.r 3), .int .i64 (c.r 4), .int .i64 (c.r 5), .int .i64 c.free, .int .i64 c.bonus, .int .i64 c.pen] 122) := by rw [hW8, set_far _ (by simp; omega)]; exact k0
        have f1 : W8.heap[w.heap.size + 1]? = some (Obj.cells #[.int .i64 0, .int .i64 0, .int .i64 0, .int .i64 0, .int .i64 0, .int .i64 0, .int .i64 0, .int .i64 0] 87) := by rw [hW8, set_far _ (by simp; omega)]; exact k1
        have f7 : W8.heap[w2.heap.size]? = some (Obj.cells (arr6 Hf) 85) := by rw [hW8, set_far _ (by simp; omega)]; exact k7
        have f10 : W8.heap[w5.heap.size]? = some (Obj.cells (arr6 c.r) 85) := by rw [hW8, set_far _ (by simp)]; exact k10
        have f11 : W8.heap[w5.heap.size + 1]? = some (Obj.cells (Inv.mk (Mo.upto pf (k + 1)) 0 P).arr 87) := by rw [hW8, set_blk k11, HSET.out]
        have hB8 : Below w.heap.size w W8 := by rw [hW8]; exact hBa.setCell (p := ⟨w5.heap.size + 1, k, none⟩) (by show w.heap.size ≤ w5.heap.size + 1; omega) _
        have pk : W8.cell? ⟨w5.heap.size + 1, k, none⟩ = some (.int .i64 (hv * rv)) := cell_at f11 HGET.out
        have pt : W8.cell? ⟨w5.heap.size + 1, 7, none⟩ = some (.int .i64 P) := cell_at f11 rfl
        have hsz8 : w5.heap.size + 1 < W8.heap.size := (Array.getElem?_eq_some_iff.1 f11).1
        have F0 := Lib.hid f0
        have F1 := Lib.hid f1
        have F7 := Lib.hid f7
        have F10 := Lib.hid f10
        have F11 := Lib.hid f11
        clear k0 k1 k7 k10 k11 hba hBa G0 G1 G7 G10 G11 HSET HGET f0 f1 f7 f10 f11 pcx
        go_wp2
        rw [← hW8]
        clear hW8
        refine wp_region_splitG 8 (by kernel_rfl) (by kernel_rfl) ?_
        simp only [List.take_succ_cons, List.take_zero, List.drop_succ_cons, List.drop_zero]
        repeat (go_big_quiet_step ((first | fail)))
        refine wpQuiet_nil (gw_out ?_)
        intro wb hbb
        have hBb := hB8.call hbb rfl
        have k0 := (hbb.block _ (Array.getElem?_eq_some_iff.1 F0.out).1).trans F0.out
        have k1 := (hbb.block _ (Array.getElem?_eq_some_iff.1 F1.out).1).trans F1.out
        have k7 := (hbb.block _ (Array.getElem?_eq_some_iff.1 F7.out).1).trans F7.out
        have k10 := (hbb.block _ (Array.getElem?_eq_some_iff.1 F10.out).1).trans F10.out
        have k11 := (hbb.block _ hsz8).trans F11.out
        have kf2 : wb.frozen? ⟨w5.heap.size + 1, 7, none⟩ = false := free_at k11
        have kc2 : wb.cell? ⟨w5.heap.size + 1, 7, none⟩ = some (.int .i64 P) := cell_at k11 rfl
        have e0 : Hid ((wb.setCell ⟨w5.heap.size + 1, 7, none⟩ (.int .i64 (P + (hv * rv)))).heap[w.heap.size]? = some (Obj.cells #[.int .i64 (c.r 0), .int .i64 (c.r 1), .int .i64 (c.r 2), .int .i64 (c.r 3), .int .i64 (c.r 4), .int .i64 (c.r 5), .int .i64 c.free, .int .i64 c.bonus, .int .i64 c.pen] 122)) := by show _ = _; rw [set_far _ (by simp; omega)]; exact k0
        have e1 : Hid ((wb.setCell ⟨w5.heap.size + 1, 7, none⟩ (.int .i64 (P + (hv * rv)))).heap[w.heap.size + 1]? = some (Obj.cells #[.int .i64 0, .int .i64 0, .int .i64 0, .int .i64 0, .int .i64 0, .int .i64 0, .int .i64 0, .int .i64 0] 87)) := by show _ = _; rw [set_far _ (by simp; omega)]; exact k1
        have e7 : Hid ((wb.setCell ⟨w5.heap.size + 1, 7, none⟩ (.int .i64 (P + (hv * rv)))).heap[w2.heap.size]? = some (Obj.cells (arr6 Hf) 85)) := by show _ = _; rw [set_far _ (by simp; omega)]; exact k7
        have e10 : Hid ((wb.setCell ⟨w5.heap.size + 1, 7, none⟩ (.int .i64 (P + (hv * rv)))).heap[w5.heap.size]? = some (Obj.cells (arr6 c.r) 85)) := by show _ = _; rw [set_far _ (by simp)]; exact k10
        have e11 : Hid ((wb.setCell ⟨w5.heap.size + 1, 7, none⟩ (.int .i64 (P + (hv * rv)))).heap[w5.heap.size + 1]? = some (Obj.cells (Inv.mk (Mo.upto pf (k + 1)) 0 (Mo.psum pf (k + 1))).arr 87)) := by show _ = _; rw [set_blk k11, hst.out]; rfl
        have hB9 := hBb.setCell (p := ⟨w5.heap.size + 1, 7, none⟩) (by show w.heap.size ≤ w5.heap.size + 1; omega) (.int .i64 (P + (hv * rv)))
        clear k0 k1 k7 k10 k11 hbb hBb F0 F1 F7 F10 F11 hst
        go_wp2
        go_roundw
        case rel => exact ⟨k + 1, by omega, by go_num, hB9, e0.out, e1.out, e7.out, e10.out, e11.out⟩
        case measure => simp [intOf]; omega
      · obtain rfl : k = 6 := by omega
        have hpsk := (hps 6 (by omega)).out
        obtain ⟨P, hP⟩ : ∃ P, P = Mo.psum pf 6 := ⟨_, rfl⟩
        rw [← hP] at g11 hpsk hfin
        have g11' : wr.heap[w5.heap.size + 1]? = some (Obj.cells (Inv.mk pf 0 P).arr 87) := by rw [← Mo.arr_upto]; exact g11
        have b7 : wr.cell? ⟨w.heap.size, 7, none⟩ = some (.int .i64 c.bonus) := cell_at g0 rfl
        have b8 : wr.cell? ⟨w.heap.size, 8, none⟩ = some (.int .i64 c.pen) := cell_at g0 rfl
        have p6 : wr.cell? ⟨w5.heap.size + 1, 6, none⟩ = some (.int .i64 0) := cell_at g11' rfl
        have pf6 : wr.frozen? ⟨w5.heap.size + 1, 6, none⟩ = false := free_at g11'
        have pz6 : wr.frozen? ⟨w5.heap.size + 1, 7, none⟩ = false := free_at g11'
        have p7 : wr.cell? ⟨w5.heap.size + 1, 7, none⟩ = some (.int .i64 P) := cell_at g11' rfl
        have v0 : wr.cell? ⟨w5.heap.size + 1, 0, none⟩ = some (.int .i64 (pf 0)) := cell_at g11' rfl
        have v1 : wr.cell? ⟨w5.heap.size + 1, 1, none⟩ = some (.int .i64 (pf 1)) := cell_at g11' rfl
        have v2 : wr.cell? ⟨w5.heap.size + 1, 2, none⟩ = some (.int .i64 (pf 2)) := cell_at g11' rfl
        have v3 : wr.cell? ⟨w5.heap.size + 1, 3, none⟩ = some (.int .i64 (pf 3)) := cell_at g11' rfl
        have v4 : wr.cell? ⟨w5.heap.size + 1, 4, none⟩ = some (.int .i64 (pf 4)) := cell_at g11' rfl
        have v5 : wr.cell? ⟨w5.heap.size + 1, 5, none⟩ = some (.int .i64 (pf 5)) := cell_at g11' rfl
        have hz8 : ((wr.setCell ⟨w5.heap.size + 1, 6, none⟩ (.int .i64 ((na : Int) * c.bonus - (nr : Int) * c.pen))).setCell ⟨w5.heap.size + 1, 7, none⟩ (.int .i64 (P + ((na : Int) * c.bonus - (nr : Int) * c.pen)))).heap[w.heap.size + 1]? = some (Obj.cells #[.int .i64 0, .int .i64 0, .int .i64 0, .int .i64 0, .int .i64 0, .int .i64 0, .int .i64 0, .int .i64 0] 87) := by
          rw [set_far _ (by simp; omega), set_far _ (by simp; omega)]; exact g1
        have hB8 := (hB.setCell (p := ⟨w5.heap.size + 1, 6, none⟩) (by show w.heap.size ≤ w5.heap.size + 1; omega) (.int .i64 ((na : Int) * c.bonus - (nr : Int) * c.pen))).setCell (p := ⟨w5.heap.size + 1, 7, none⟩) (by show w.heap.size ≤ w5.heap.size + 1; omega) (.int .i64 (P + ((na : Int) * c.bonus - (nr : Int) * c.pen)))
        clear g0 g1 g7 g10 g11 g11' hP hps HPB hpe
        go_wp2_with (refine wpList_store_blk rfl 87 _ _ rfl (w.heap.size + 1) _ rfl rfl hz8 ?s1 ?s2 ?s3 ?_)
        case s1 => rfl
        case s2 => kernel_rfl
        case s3 => simp [Value.oneCell', Inv.arr]
        intro w3 h3 hg3 hs3
        have hB9 : Below w.heap.size w w3 := hB8.grown hg3 hB8.size (fun j hj => by cases hj; omega)
        go_wp2
        exact bodyPost_ret (results_blk rfl rfl h3 _ Tryz.underlying87 rfl (by kernel_rfl)) rfl ⟨by rw [hfin.out, HLE.out, Int.add_comm _ P]; rfl, hB9⟩

end Go.Proofs.YtndhjkammoeikaaGreatDoor
namespace Go.Proofs.YtndhjkammoeikaaGreatDoor
open Go.RowKit Go.Shelf
set_option maxHeartbeats 2000000
set_option maxRecDepth 100000
attribute [local go_sem] Oper.semAt_some

/-- what a round of the caller's loop keeps: every block of cells, every map, but the caller's own two -/
structure KpX (p q : Nat) (A B : World) : Prop where
  size : A.heap.size ≤ B.heap.size
  same : ∀ b o, A.heap[b]? = some o → b ≠ p → b ≠ q → (o.isCells = true ∨ o.isWalk = true) → B.heap[b]? = some o
theorem KpX.refl (p q : Nat) (A : World) : KpX p q A A := ⟨Nat.le_refl _, fun _ _ h _ _ _ => h⟩
theorem KpX.trans {p q : Nat} {A B C : World} (h : KpX p q A B) (k : KpX p q B C) : KpX p q A C :=
  ⟨Nat.le_trans h.size k.size, fun b o ho h1 h2 h3 => k.same b o (h.same b o ho h1 h2 h3) h1 h2 h3⟩
theorem KpX.put {p q : Nat} (W : World) (l : Nat) (o o' : Obj) (hl : W.heap[l]? = some o) (h1 : o.isCells = false) (h2 : o.isWalk = false) : KpX p q W (W.putObj l o') := by
  refine ⟨by simp [World.putObj], fun b x hx _ _ hc => ?_⟩
  by_cases hb : b = l
  · subst hb
    rw [hl] at hx
    cases hx
    rcases hc with h | h
    · rw [h1] at h; cases h
    · rw [h2] at h; cases h
  · simp [World.putObj, Ne.symm hb]; exact hx
theorem KpX.of_below {p q : Nat} {A B : World} (h : Below A.heap.size A B) : KpX p q A B :=
  ⟨h.size, fun b o ho _ _ _ => (h.block b (Array.getElem?_eq_some_iff.1 ho).1).trans ho⟩
theorem KpX.cells {p q : Nat} {A B : World} (h : KpX p q A B) {b : Nat} {cs : Array Value} {t : TypeId} {f : Nat × Nat} (hb : A.heap[b]? = some (.cells cs t f)) (h1 : b ≠ p) (h2 : b ≠ q) : B.heap[b]? = some (.cells cs t f) :=
  h.same b _ hb h1 h2 (.inl rfl)
theorem cell_heap {w : World} {b j : Nat} {v : Value} (h : w.cell? ⟨b, j, none⟩ = some v) : ∃ cs t f, w.heap[b]? = some (.cells cs t f) := by
  unfold World.cell? at h
  cases hb : w.heap[b]? with
  | none => simp [hb] at h
  | some o =>
    cases o with
    | cells cs t f => exact ⟨_, _, _, rfl⟩
    | _ => simp [hb] at h
theorem KpX.rdl {α : Type} {p q : Nat} {A B : World} (h : KpX p q A B) {size : Nat} {enc : α → List Value} {X : Option Addr} {l : List α} (hX : ∀ b off, X = some ⟨b, off, none⟩ → b ≠ p ∧ b ≠ q) (H : RdL A size enc X l) : RdL B size enc X l := by
  refine ⟨H.1, fun hn => ?_⟩
  obtain ⟨b, off, hA, hb, hc⟩ := H.2 hn
  refine ⟨b, off, hA, Nat.lt_of_lt_of_le hb h.size, fun j hj => ?_⟩
  have h1 := hc j hj
  have hsome : ∃ v, A.cell? ⟨b, off + j, none⟩ = some v := ⟨_, h1.trans (List.getElem?_eq_getElem hj)⟩
  obtain ⟨v, hv⟩ := hsome
  obtain ⟨cs, t, f, ho⟩ := cell_heap hv
  have hB := h.cells ho (hX b off hA).1 (hX b off hA).2
  rw [← h1]
  simp only [World.cell?, ho, hB]
theorem Nums.kp {p q : Nat} {A B : World} (h : KpX p q A B) {b : Nat} (hb1 : b ≠ p) (hb2 : b ≠ q) (H : Nums A b) : Nums B b := by
  obtain ⟨es, clock, hb, rest⟩ := H
  exact ⟨es, clock, h.same b _ hb hb1 hb2 (.inr rfl), rest⟩
namespace Mo
def numF (c : ByteArray) : Fin 6 := ⟨(num c).toNat % 6, Nat.mod_lt _ (by decide)⟩
theorem numF_val (c : ByteArray) (h : 0 ≤ num c) : ((numF c).val : Int) = numZ c := by
  have := num_lt c
  unfold numF numZ
  rw [if_pos h]
  simp only []
  omega
/-- the ticks of an entry, each with the number of its cause -/
def tick1 (e : Ent) (i : Nat) : Int × Fin 6 := (e.f + i, numF e.c)
def tickL (e : Ent) : List (Int × Fin 6) := (List.range (e.t - e.f).toNat).map (tick1 e)
def ticksL (l : List Ent) : List (Int × Fin 6) := l.flatMap tickL
theorem ticksL_take {l : List Ent} {k : Nat} {e : Ent} (h : l[k]? = some e) : ticksL (l.take (k+1)) = ticksL (l.take k) ++ tickL e := by
  obtain ⟨hk, rfl⟩ := List.getElem?_eq_some_iff.1 h
  unfold ticksL
  rw [List.take_succ_eq_append_getElem hk, List.flatMap_append]; simp
theorem ticksL_len {l : List Ent} {k : Nat} {e : Ent} (h : l[k]? = some e) {i : Nat} (hi : i < (e.t - e.f).toNat) : (ticksL (l.take k) ++ (List.range i).map (tick1 e)).length < (ticksL l).length := by
  have h1 := ticksL_take h
  have h2 : (ticksL (l.take (k+1))).length ≤ (ticksL l).length := by
    have : ticksL l = ticksL (l.take (k+1)) ++ ticksL (l.drop (k+1)) := by unfold ticksL; rw [← List.flatMap_append, List.take_append_drop]
    rw [this, List.length_append]; omega
  rw [h1, List.length_append] at h2
  have h3 : (tickL e).length = (e.t - e.f).toNat := by simp [tickL]
  simp only [List.length_append, List.length_map, List.length_range]
  omega
end Mo
theorem c161_in (F : Fence) (n : Nat) (hF : F.fn 161) (hro : F.round = none) (hn : 1 ≤ n) (lr pb pm bm p q : Nat) (A : Option Addr) (cap : Nat) (l : List Ent) (hlen : l.length ≤ 64) (hok : ∀ e ∈ l, Mo.EOk e)
    (hA : ∀ b off, A = some ⟨b, off, none⟩ → b ≠ p ∧ b ≠ q) (hpb : pb ≠ p ∧ pb ≠ q) (hpm : pm ≠ p ∧ pm ≠ q) (hbm : bm ≠ p ∧ bm ≠ q)
    (J Jx : List (Int × Fin 6) → World → Prop)
    (W : World) (hJa : AbidesFrom W.heap.size J) (hpW : p < W.heap.size) (hqW : q < W.heap.size)
    (hY : ∀ pre x W, J pre W → pre.length < (Mo.ticksL l).length → YieldAt F (n - 1) Tryz.prog lr #[.int .i64 x.1, .int .i64 (x.2.val : Int)] W fun e W' =>
      (e = .returned (.bool true) ∧ J (pre ++ [x]) W' ∧ KpX p q W W') ∨ (e = .returned (.bool false) ∧ Jx (pre ++ [x]) W'))
    (hb : W.heap[pb]? = some (.cells #[.slice A l.length cap] 74 (0, 0))) (hm : W.heap[pm]? = some (.cells #[.map (some bm)] 194 (0, 0))) (hN : Nums W bm) (H : RdL W 3 Ent.enc A l) (h0 : J [] W) :
    CallsIn F n Tryz.prog 161 #[.func (.yield lr) #[] #[], .pointer (some ⟨pb, 0, none⟩), .pointer (some ⟨pm, 0, none⟩)] W fun e W' => (∃ v, e = .returned v) ∧
      ((∃ ys, ys = Mo.ticksL l ∧ J ys W') ∨ (∃ pre, True ∧ Jx pre W')) := by
  obtain ⟨m, hm'⟩ : ∃ m, m = l.length := ⟨_, rfl⟩
  rw [← hm'] at hb hlen
  have Hm := Lib.hid hm'
  clear hm'
  have hx0 := cell_at hb (i := 0) rfl
  have HB0 := Lib.hid hb
  have HM0 := Lib.hid hm
  clear hb hm
  refine callsIn_of_wp Tryz.func161 rfl hF ?_ hro
  simp only [Tryz.ntmps161, List.size_toArray, List.length_cons, List.length_nil, Nat.reduceAdd, Nat.reduceSub, Array.replicate_succ, Array.replicate_zero, List.push_toArray, List.append_toArray, List.nil_append, List.cons_append]
  gi_wp2
  gi_loopw [9] (fun i wr => ∃ k : Nat, k ≤ m ∧ i = .int .i64 k ∧ J (Mo.ticksL (l.take k)) wr ∧ KpX p q W wr) (fun i _ => m - (intOf i).toNat)
  case atStart => exact ⟨0, Nat.zero_le _, rfl, h0, KpX.refl _ _ _⟩
  case round =>
    obtain ⟨k, hk, rfl, hJs, hnx⟩ := hrel
    by_cases hlt : k < m
    · obtain ⟨b, off, s, rfl, hx, hbl, hc⟩ := (hnx.rdl hA H).at Ent.len (by rw [← Hm.out]; exact hlt)
      have q0 : wr.cell? ⟨b, off + k * 3, none⟩ = some (.int .i64 s.f) := hc 0 (by omega)
      have q1 : wr.cell? ⟨b, off + k * 3 + 1, none⟩ = some (.int .i64 s.t) := hc 1 (by omega)
      have q2 : wr.cell? ⟨b, off + k * 3 + 2, none⟩ = some (.string s.c) := hc 2 (by omega)
      have hos := hok s (List.mem_of_getElem? hx)
      have hsb := hos.b
      have hnz := Lib.hid (Mo.numF_val s.c hos.n.1)
      have hcz := Mo.num_size hos.n.1
      have HT := Lib.hid (Mo.ticksL_take hx)
      have HLn := fun i hi => Lib.hid (Mo.ticksL_len hx (i := i) hi)
      obtain ⟨W1, hW1⟩ : ∃ W1, W1 = wr.alloc (Obj.cells #[.int .i64 s.f, .int .i64 s.t, .string s.c] 134) := ⟨_, rfl⟩
      obtain ⟨bx, hbx⟩ : ∃ bx, bx = wr.heap.size := ⟨_, rfl⟩
      have hBr : Below wr.heap.size wr W1 := by rw [hW1]; exact (Below.refl _ _).alloc (Nat.le_refl _) _
      have hT : W1.heap[bx]? = some (Obj.cells #[.int .i64 s.f, .int .i64 s.t, .string s.c] 134) := by rw [hW1, hbx]; exact heap_new (by simp)
      have hJ1 : J (Mo.ticksL (l.take k)) W1 := by rw [hW1]; exact hJa _ _ _ none hJs (World.grownBy_alloc wr _ none) (fun r e => by cases e)
      have hk1 : KpX p q W W1 := hnx.trans (KpX.of_below hBr)
      have hbp : bx ≠ p ∧ bx ≠ q := by have := hnx.size; rw [hbx]; exact ⟨by omega, by omega⟩
      have a0 : W1.cell? ⟨bx, 0, none⟩ = some (.int .i64 s.f) := cell_at hT rfl
      obtain ⟨d, hd⟩ : ∃ d : Nat, d = (s.t - s.f).toNat := ⟨_, rfl⟩
      have hdi : s.f + (d : Int) = s.t := by omega
      have HD := Lib.hid hd
      have hy0 : (wr.alloc (Obj.cells #[.int .i64 s.f, .int .i64 s.t, .string s.c] 134)).cell? ⟨wr.heap.size, 0, none⟩ = some (.int .i64 s.f) := by rw [← hW1, ← hbx]; exact a0
      clear hc hx hos hd hBr
      gi_wp2
      rw [← hW1, ← hbx]
      clear hW1 hbx hy0
      gi_loopw [6] (fun t wq => ∃ i : Nat, i ≤ d ∧ t = .int .i64 (s.f + i) ∧ J (Mo.ticksL (l.take k) ++ (List.range i).map (Mo.tick1 s)) wq ∧ KpX p q W wq ∧ wq.heap[bx]? = some (Obj.cells #[.int .i64 s.f, .int .i64 s.t, .string s.c] 134)) (fun t _ => (s.t - intOf t).toNat)
      case atStart => exact ⟨0, Nat.zero_le _, by simp, by simpa using hJ1, hk1, hT⟩
      case round =>
        clear hJ1 hk1 hT a0 q0 q1 q2 hJs hnx
        obtain ⟨i, hi, rfl, hJi, hkq, hTi⟩ := hrel
        have b1 : wr.cell? ⟨bx, 1, none⟩ = some (.int .i64 s.t) := cell_at hTi rfl
        have b2 : wr.cell? ⟨bx, 2, none⟩ = some (.string s.c) := cell_at hTi rfl
        by_cases hlti : i < d
        · have hlt2 : s.f + (i : Int) < s.t := by omega
          have hpc : wr.cell? ⟨pm, 0, none⟩ = some (.map (some bm)) := cell_at (hkq.cells HM0.out hpm.1 hpm.2) rfl
          have hlk := (hN.kp hkq hbm.1 hbm.2).look s.c (by omega)
          obtain ⟨fn, tmps, assign, body, hy, hR⟩ := hY _ (Mo.tick1 s i) wr hJi (HLn i (by rw [← HD.out]; exact hlti)).out
          dsimp only [Mo.tick1] at hy
          rw [hnz.out] at hy
          have hnext : Hid (Mo.ticksL (l.take k) ++ (List.range i).map (Mo.tick1 s) ++ [Mo.tick1 s i] = Mo.ticksL (l.take k) ++ (List.range (i + 1)).map (Mo.tick1 s)) := by
            show _ = _
            rw [List.range_succ, List.map_append, List.append_assoc]; rfl
          gi_wp2
          refine hR.mono ?_
          rintro e W3 (⟨rfl, hJ3, hk3⟩ | ⟨rfl, hJx3⟩)
          · rw [hnext.out] at hJ3
            have hk4 := hkq.trans hk3
            have hT3 := hk3.cells hTi hbp.1 hbp.2
            have HJ3 := Lib.hid hJ3
            clear hJ3 hy hR
            gi_wp2
            go_roundw
            case rel => exact ⟨i + 1, by omega, by go_num, HJ3.out, hk4, hT3⟩
            case measure => simp [intOf]; omega
          · gi_wp2
            refine bodyPost_ret (results_none rfl _ _ _) rfl ?_
            exact ⟨⟨_, rfl⟩, .inr ⟨_, trivial, hJx3⟩⟩
        · obtain rfl : i = d := by omega
          have hlt2 : ¬ (s.f + (i : Int) < s.t) := by omega
          have hJn : Hid (J (Mo.ticksL (l.take (k + 1))) wr) := by
            show J _ _
            rw [HT.out]
            rw [HD.out] at hJi
            exact hJi
          clear hJi
          gi_wp2
          go_roundw
          case rel => exact ⟨k + 1, by omega, by go_num, hJn.out, hkq⟩
          case measure => simp [intOf]; omega
    · obtain rfl : k = m := by omega
      gi_wp2
      go_end0
      exact ⟨⟨_, rfl⟩, .inl ⟨_, rfl, by rw [Hm.out, List.take_length] at hJs; exact hJs⟩⟩

end Go.Proofs.YtndhjkammoeikaaGreatDoor
/- A region that draws its order, in a round of a range over a function: what holds of it in the plain way holds there too. -/
namespace Go
open Go.RowKit
def Region.noDefer (ops : Array Oper) : Bool := ops.all fun o => match o.op with | .defer _ => false | _ => true
theorem Oper.semAt_of (ro : Option Nat) (ρ : Operand → Value) (o : Oper) (h : (match o.op with | .defer _ => false | _ => true) = true) : o.semAt ro ρ = execOp ρ o := by
  unfold Oper.semAt
  split
  · rename_i l c hop
    rw [hop] at h; cases h
  · rfl
theorem rowsIn_of {P : Program} {row : String} {args : Array Value} {w : World} {R : Value → World → Prop} {n l : Nat} (h : Rows P row args w R) : RowsIn (Fence.wide.inRound l) n P row args w R :=
  fun c cs _ => let ⟨v, w', r, s⟩ := h c cs; ⟨v, w', r, stepsIn_wide.2 s⟩
theorem Oper.wpIn_of_wp {P : Program} {o : Oper} {a : Act} {w : World} {K : Act → World → Prop} {Q : Exit → Act → World → Prop} {n l : Nat} (hd : (match o.op with | .defer _ => false | _ => true) = true)
    (h : o.wp P a w K Q) : o.wpIn (Fence.wide.inRound l) n P a w K Q := by
  refine ⟨fun _ _ => trivial, ?_⟩
  rw [Oper.semAt_of _ _ _ hd]
  unfold Oper.wp at h
  generalize (execOp a.eval o).run P w = r at *
  cases r with
  | ok x w' =>
    cases x <;> simp only [Oper.upon] at h <;> simp only [Oper.uponIn]
    case value => exact h
    case skip => exact h
    case defer => exact h
    case enter f args => exact ⟨fun h => (by cases h), CallsIn.inRound l (callsIn_wide.2 h)⟩
    case row row args => exact ⟨fun h => (by cases h), rowsIn_of h⟩
  | halt x w' => cases x <;> exact h
theorem wpOpIn_of {P : Program} {ops : Array Oper} {Q : Exit → Act → World → Prop} {n l i : Nat} {K : Act → World → Prop} {a : Act} {w : World} (hnd : Region.noDefer ops = true) (hQ : ¬ LetsOut Q)
    (h : wpOp P ops Q i K a w) : wpOpIn (Fence.wide.inRound l) n P ops Q i K a w := by
  unfold wpOp at h
  unfold wpOpIn
  cases ho : ops[i]? with
  | none => simpa [ho] using h
  | some o =>
    simp only [ho] at h ⊢
    have hd : (match o.op with | .defer _ => false | _ => true) = true := by
      have := Array.all_eq_true_iff_forall_mem.1 hnd o (Array.mem_of_getElem? ho)
      exact this
    by_cases hw : Region.wanted o (yielded ops a.tmps) = true
    · simp only [hw, if_true] at h ⊢
      rcases h with h | h
      · exact Oper.wpIn_of_wp hd h
      · exact absurd h.2 hQ
    · simp only [hw] at h ⊢
      exact ⟨fun _ _ => trivial, h⟩
theorem wpAnyIn_of {P : Program} {md : Region.Mode} {ops : Array Oper} {Q : Exit → Act → World → Prop} {n l : Nat} (hnd : Region.noDefer ops = true) (hQ : ¬ LetsOut Q) :
    ∀ (fuel : Nat) (listed : Array Bool) (a : Act) (w : World), wpAny P md ops Q fuel listed a w → wpAnyIn (Fence.wide.inRound l) n P md ops Q fuel listed a w
  | 0, _, _, _, h => h
  | fuel + 1, listed, a, w, h => ⟨h.1, fun i hi => wpOpIn_mono (fun a' w' hK => wpAnyIn_of hnd hQ fuel _ a' w' hK) (wpOpIn_of hnd hQ (h.2 i hi))⟩
section
variable {P : Program} {C : World → Prop}
theorem wpAny_split {Q : Exit → Act → World → Prop} {a : Act} {w : World} (l1 l2 : List Oper) (hB : Region.splitB .any (l1 ++ l2).toArray l1.length = true) (hC : C { w with drawn := w.drawn + 1 })
    (h : wpQuiet P (l1 ++ l2).toArray C (fun a' => ∀ w', C w' → wpList P (l1 ++ l2).toArray Q l2 a' w') l1 a) : wpAny P .any (l1 ++ l2).toArray Q (l1 ++ l2).toArray.size (Array.replicate (l1 ++ l2).toArray.size false) a { w with drawn := w.drawn + 1 } := by
  simp only [Region.splitB, Bool.and_eq_true] at hB
  obtain ⟨⟨⟨hs, hF⟩, hL⟩, hR⟩ := hB
  have hsz : (l1 ++ l2).toArray.size = l1.length + l2.length := by simp
  have hsub : (l1 ++ l2).toArray.size - l1.length = l2.length := by omega
  rw [hsub] at hR
  have hfr : Front .any (l1 ++ l2).toArray l1.length l1.length (Array.replicate (l1 ++ l2).toArray.size false) := by
    have hg : ∀ (n i : Nat), (Array.replicate n false).getD i false = false := by
      intro n i
      rcases Nat.lt_or_ge i n with h | h <;> simp [h]
    refine ⟨by simp, fun i o ho hl => ?_, fun i _ => hg _ i, ?_⟩
    · rw [hg] at hl; cases hl
    · rw [List.filter_eq_self.2 (fun i _ => by rw [hg]; rfl)]; simp
  have := wpAny_of_front (P := P) (md := .any) (ops := (l1 ++ l2).toArray) (C := C) (r := l2.length) (Q' := Q)
    (E := fun listed a' => listed = (List.range' 0 l1.length).foldl (fun b i => b.setIfInBounds i true) (Array.replicate (l1 ++ l2).toArray.size false) ∧ ∀ w', C w' → wpList P (l1 ++ l2).toArray Q l2 a' w')
    (fun listed a' w' hw' hE => by
      obtain ⟨rfl, hE⟩ := hE
      exact wpAny_rest l2 l1.length _ a' w' (fun j => by simp [List.getElem?_append_right]) hR (hE w' hw'))
    l1.length (Array.replicate (l1 ++ l2).toArray.size false) a { w with drawn := w.drawn + 1 } hC
    (wpFront_lex hF hs l1 0 _ a (fun j hj => by simp [List.getElem?_append_left hj]) hfr hL
      (by
        refine cast ?_ h
        congr 1
        funext a'
        simp))
  simp only [hsz] at this ⊢
  exact this
end
/-- wp_region_splitG in a round: front of m quiet operations, the rest plain -/
theorem wpIn_region_splitG {P : Program} {id : Nat} {Q : Exit → Act → World → Prop} {a : Act} {W : World} {n lr : Nat} (m : Nat) {l : List Oper} (hm : P.follows .mixedOrders = true) (hB : Region.splitB .any l.toArray m = true) (hnd : Region.noDefer l.toArray = true) (hQ : ¬ LetsOut Q)
    (h : wpQuiet P l.toArray (fun w' => ∃ p : GB, w' = gw W p) (fun a' => ∀ w', (∃ p : GB, w' = gw W p) → wpList P l.toArray Q (l.drop m) a' w') (l.take m) a) : (Code.region id l.toArray true).wpIn (Fence.wide.inRound lr) n P Q a W := by
  have hml : m ≤ l.length := by
    simp only [Region.splitB, Region.frontB, Bool.and_eq_true, decide_eq_true_eq] at hB
    simpa using hB.1.1.2.1.1
  have h1 := wpAny_split (P := P) (Q := Q) (a := a) (w := W) (C := fun w' => ∃ p : GB, w' = gw W p) (l.take m) (l.drop m)
  rw [List.take_append_drop, List.length_take, Nat.min_eq_left hml] at h1
  exact wpIn_region_any hm (wpAnyIn_of hnd hQ _ _ _ _ (h1 hB (gw_start W) h))
end Go
namespace Go.Proofs.YtndhjkammoeikaaGreatDoor
open Go.RowKit Go.Shelf
set_option maxHeartbeats 2000000
set_option maxRecDepth 100000
attribute [local go_sem] Oper.semAt_some

theorem c125 (A : Option Addr) (n cap : Nat) (w : World) : Calls Tryz.prog 125 #[.slice A n cap] w fun en w' => ∃ pb pm bm : Nat, en = .returned (.func (.func 161) #[] #[.pointer (some ⟨pb, 0, none⟩), .pointer (some ⟨pm, 0, none⟩)]) ∧
    w'.heap[pb]? = some (.cells #[.slice A n cap] 74 (0, 0)) ∧ w'.heap[pm]? = some (.cells #[.map (some bm)] 194 (0, 0)) ∧ Nums w' bm ∧ w.heap.size ≤ pb ∧ w.heap.size ≤ pm ∧ w.heap.size ≤ bm ∧ Below w.heap.size w w' := by
  have hB0 : Below w.heap.size w (w.alloc (Obj.cells #[.slice A n cap] 74)) := (Below.refl _ _).alloc (Nat.le_refl _) _
  go_enter Tryz.func125, Tryz.ntmps125
  go_wp2_with fail
  refine (c117 _).mono ?_
  rintro e w1 ⟨b, rfl, hN, hbz, hb1⟩
  have hB1 := hB0.call hb1 rfl
  have hT : w1.heap[w.heap.size]? = some (.cells #[.slice A n cap] 74 (0, 0)) := (hb1.block _ (by simp)).trans (heap_new rfl)
  have hz : w.heap.size < w1.heap.size := (Array.getElem?_eq_some_iff.1 hT).1
  have hb2 : Below w1.heap.size w1 (w1.alloc (Obj.cells #[.map (some b)] 194)) := (Below.refl _ _).alloc (Nat.le_refl _) _
  have hB2 := hB1.call hb2 rfl
  have hT2 := (hb2.block _ hz).trans hT
  have hN2 := hN.below hb2
  have hT3 : (w1.alloc (Obj.cells #[.map (some b)] 194)).heap[w1.heap.size]? = some (.cells #[.map (some b)] 194 (0, 0)) := heap_new rfl
  simp at hbz
  have HT2 := Lib.hid hT2
  have HT3 := Lib.hid hT3
  have HN2 : Hid (Nums (w1.alloc (Obj.cells #[.map (some b)] 194)) b) := hN2
  clear hT hT2 hT3 hN hN2 hb1 hb2
  go_wp2
  go_ret
  exact ⟨_, _, _, rfl, HT2.out, HT3.out, HN2.out, Nat.le_refl _, by omega, by omega, hB2⟩
theorem ticks_stops (n : Nat) (hn : 1 ≤ n) (pb pm bm p q : Nat) (A : Option Addr) (cap : Nat) (l : List Ent) (w : World) (hlen : l.length ≤ 64) (hok : ∀ e ∈ l, Mo.EOk e)
    (hA : ∀ b off, A = some ⟨b, off, none⟩ → b ≠ p ∧ b ≠ q) (hpb : pb ≠ p ∧ pb ≠ q) (hpm : pm ≠ p ∧ pm ≠ q) (hbm : bm ≠ p ∧ bm ≠ q) (hp : p < w.heap.size) (hq : q < w.heap.size)
    (hb : w.heap[pb]? = some (.cells #[.slice A l.length cap] 74 (0, 0))) (hm : w.heap[pm]? = some (.cells #[.map (some bm)] 194 (0, 0))) (hN : Nums w bm) (H : RdL w 3 Ent.enc A l) :
    SeqStopsK Fence.wide n Tryz.prog 161 #[.pointer (some ⟨pb, 0, none⟩), .pointer (some ⟨pm, 0, none⟩)] (fun x : Int × Fin 6 => #[Value.int .i64 x.1, Value.int .i64 (x.2.val : Int)]) (KpX p q) (fun ys => ys = Mo.ticksL l) (fun _ => True) (Mo.ticksL l).length w :=
  fun lr J Jx W hW hJ hJx hY h0 =>
    (c161_in Fence.wide n trivial rfl hn lr pb pm bm p q A cap l hlen hok hA hpb hpm hbm J Jx W hJ (Nat.lt_of_lt_of_le hp hW.size) (Nat.lt_of_lt_of_le hq hW.size) hY
      ((hW.block _ (Array.getElem?_eq_some_iff.1 hb).1).trans hb) ((hW.block _ (Array.getElem?_eq_some_iff.1 hm).1).trans hm) (hN.below hW) (H.below hW) h0)
/-! ### what has come, in numbers -/
namespace Mo
def cnt (pre : List (Int × Fin 6)) (i : Nat) : Int := (pre.countP fun x => x.2.val == i : Nat)
theorem cnt_snoc (pre : List (Int × Fin 6)) (x : Int × Fin 6) (i : Nat) : cnt (pre ++ [x]) i = cnt pre i + if x.2.val = i then 1 else 0 := by
  unfold cnt
  rw [List.countP_append]
  by_cases h : x.2.val = i
  · simp [h]
  · simp [h]
theorem cnt_append (a b : List (Int × Fin 6)) (i : Nat) : cnt (a ++ b) i = cnt a i + cnt b i := by
  unfold cnt; rw [List.countP_append]; push_cast; rfl
theorem cnt_bd (pre : List (Int × Fin 6)) (i : Nat) : 0 ≤ cnt pre i ∧ cnt pre i ≤ pre.length := by
  unfold cnt
  have := List.countP_le_length (p := fun x : Int × Fin 6 => x.2.val == i) (l := pre)
  omega
theorem cnt_tickL (e : Ent) (h : EOk e) (i : Nat) : cnt (tickL e) i = if num e.c = i then e.t - e.f else 0 := by
  have hb := h.b
  have hn := h.n
  have hv := numF_val e.c h.n.1
  have hz : numZ e.c = num e.c := by unfold numZ; rw [if_pos h.n.1]
  have key : ∀ m : Nat, cnt ((List.range m).map (tick1 e)) i = if num e.c = i then (m : Int) else 0 := by
    intro m
    induction m with
    | zero => simp [cnt]
    | succ m ih =>
      rw [List.range_succ, List.map_append, List.map_singleton, cnt_snoc, ih]
      have e1 : (tick1 e m).2.val = i ↔ num e.c = i := by
        show (numF e.c).val = i ↔ _
        rw [← hz, ← hv]
        omega
      by_cases h1 : num e.c = i
      · rw [if_pos h1, if_pos (e1.2 h1), if_pos h1]; push_cast; rfl
      · rw [if_neg h1, if_neg (fun h2 => h1 (e1.1 h2)), if_neg h1]; rfl
  unfold tickL
  rw [key]
  split
  · omega
  · rfl
theorem cnt_ticksL (l : List Ent) (h : ∀ e ∈ l, EOk e) (i : Nat) : cnt (ticksL l) i = hrs l i := by
  induction l with
  | nil => rfl
  | cons e l ih =>
    have : ticksL (e :: l) = tickL e ++ ticksL l := rfl
    rw [this, cnt_append, cnt_tickL e (h e (by simp)), ih (fun x hx => h x (by simp [hx]))]
    rfl
theorem ticksL_bd (l : List Ent) (h : ∀ e ∈ l, EOk e) (hl : l.length ≤ 64) : (ticksL l).length ≤ 6400000 := by
  have key : ∀ m : List Ent, (∀ e ∈ m, EOk e) → (ticksL m).length ≤ 100000 * m.length := by
    intro m
    induction m with
    | nil => intro _; simp [ticksL]
    | cons e m ih =>
      intro hm
      have h1 := ih (fun x hx => hm x (by simp [hx]))
      have h2 := (hm e (by simp)).b
      have : ticksL (e :: m) = tickL e ++ ticksL m := rfl
      rw [this, List.length_append]
      have h3 : (tickL e).length = (e.t - e.f).toNat := by simp [tickL]
      simp only [List.length_cons]
      omega
  have := key l h
  omega
def bh (c : Con) (pre : List (Int × Fin 6)) (i : Nat) : Int := if i = 2 then max 0 (cnt pre 2 - c.free) else cnt pre i
def binv (c : Con) (pre : List (Int × Fin 6)) : Inv := ⟨fun i => bh c pre i * c.r i, 0, 0⟩
def bfree (c : Con) (pre : List (Int × Fin 6)) : Int := max 0 (c.free - cnt pre 2)
theorem binv_all (c : Con) (l : List Ent) (h : ∀ e ∈ l, EOk e) : binv c (ticksL l) = ⟨prodI c l, 0, 0⟩ := by
  unfold binv prodI
  congr 1
  funext i
  unfold bh hh
  rw [cnt_ticksL l h, cnt_ticksL l h]
  rfl
end Mo

end Go.Proofs.YtndhjkammoeikaaGreatDoor
