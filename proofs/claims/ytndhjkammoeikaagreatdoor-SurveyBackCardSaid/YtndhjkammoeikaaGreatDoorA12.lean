/- A part of the proofs about chapter 9: contracts of functions and plain laws (W55). -/
import Derived.Test.YtndhjkammoeikaaGreatDoorA11
set_option linter.all false
namespace Go.Proofs.YtndhjkammoeikaaGreatDoor
open Go.RowKit
set_option maxHeartbeats 1000000
set_option maxRecDepth 20000

set_option maxHeartbeats 4000000 in
theorem c66 (c : Con) (A : Option Addr) (cap : Nat) (l : List Ent) (G : Option Addr) (gcap : Nat) (rs : List Res) (w : World) (hl : l.length ≤ 1000000) (hg : rs.length ≤ 1000000) (hgc : rs.length ≤ gcap) (hgc2 : gcap ≤ 9223372036854775807) (hle : ∀ e ∈ l, e.c.size ≤ 1000000) (hrs : ∀ x ∈ rs, x.n.size ≤ 1000000) (H : RdL w 3 Ent.enc A l) (HG : RdL w 3 Res.enc G rs) :
    Calls Tryz.prog 66 #[.agg #[.int .i64 (c.r 0), .int .i64 (c.r 1), .int .i64 (c.r 2), .int .i64 (c.r 3), .int .i64 (c.r 4), .int .i64 (c.r 5), .int .i64 c.free, .int .i64 c.bonus, .int .i64 c.pen], .slice A l.length cap, .slice G rs.length gcap] w fun en w' => en = .returned (.tuple #[.agg (Mo.billV c l rs).arr, .int .i64 (Mo.bill c l rs)]) ∧ Below w.heap.size w w' := by
  obtain ⟨W, hW⟩ : ∃ W, W = (w.alloc (Obj.cells #[.int .i64 (c.r 0), .int .i64 (c.r 1), .int .i64 (c.r 2), .int .i64 (c.r 3), .int .i64 (c.r 4), .int .i64 (c.r 5), .int .i64 c.free, .int .i64 c.bonus, .int .i64 c.pen] 130)).alloc (Obj.cells #[.int .i64 0, .int .i64 0, .int .i64 0, .int .i64 0, .int .i64 0, .int .i64 0, .int .i64 0, .int .i64 0] 91) := ⟨_, rfl⟩
  have hB0 : Below w.heap.size w W := by rw [hW]; exact (((Below.refl _ _).alloc (by first | omega | (simp <;> omega)) _).alloc (by first | omega | (simp <;> omega)) _)
  have hT0 : W.heap[w.heap.size]? = some (Obj.cells #[.int .i64 (c.r 0), .int .i64 (c.r 1), .int .i64 (c.r 2), .int .i64 (c.r 3), .int .i64 (c.r 4), .int .i64 (c.r 5), .int .i64 c.free, .int .i64 c.bonus, .int .i64 c.pen] 130) := by rw [hW]; exact heap_old (by simp) (heap_new rfl)
  have hT1 : W.heap[w.heap.size + 1]? = some (Obj.cells #[.int .i64 0, .int .i64 0, .int .i64 0, .int .i64 0, .int .i64 0, .int .i64 0, .int .i64 0, .int .i64 0] 91) := by rw [hW]; exact heap_new (by simp)
  have HC := Lib.hid (c122 c A cap l G gcap rs W hl hg hgc hgc2 hle hrs (H.below hB0) (HG.below hB0))
  have z0 : w.heap.size < W.heap.size := (Array.getElem?_eq_some_iff.1 hT0).1
  have z1 : w.heap.size + 1 < W.heap.size := (Array.getElem?_eq_some_iff.1 hT1).1
  by_cases hE : Mo.bill c l rs = 0
  · obtain ⟨hc0, he0, hr0⟩ := Mo.bill_ok hE
    have hok := Mo.con_ok hc0
    obtain ⟨ho1, ho2, _⟩ := Mo.entries_ok he0
    obtain ⟨hr1, hr2⟩ := Mo.results_ok hr0
    have hfr := hok.free
    have HH := fun W (hW : Below w.heap.size w W) => Lib.hid (c113 A cap l W ho1 ho2 (H.below hW))
    have HX := fun W (hW : Below w.heap.size w W) hv => Lib.hid (c124 (Inv.mk (Mo.prodI c l) 0 0) c hok G gcap rs W hr1 hv rfl (HG.below hW))
    have HP := fun i hi => Lib.hid (Mo.prod_bd c l hok ho1 ho2 i hi)
    have h2b := Mo.hrs_bd l ho2 2
    have hh2 := Lib.hid (arr6_hh c l)
    have hbv : Mo.billV c l rs = Mo.billI c l rs := by unfold Mo.billV; rw [if_neg (by simp [hE])]
    rw [hbv, hE]
    rw [hE] at HC
    have hfin : Hid ((Mo.billI c l rs).arr = (Inv.mk (Mo.prodI c l) (Mo.lsum c rs) (Mo.lsum c rs + Mo.psum (Mo.prodI c l) 6)).arr) := rfl
    obtain ⟨U, hU⟩ : ∃ U, U = (Mo.billI c l rs).arr := ⟨_, rfl⟩
    rw [← hU] at hfin ⊢
    obtain ⟨V, hV⟩ : ∃ V : Nat → Int, V = fun (i : Nat) => Mo.hrs l i := ⟨_, rfl⟩
    have hVV : hrsV l = .agg #[.int .i64 (V 0), .int .i64 (V 1), .int .i64 (V 2), .int .i64 (V 3), .int .i64 (V 4), .int .i64 (V 5)] := by rw [hV]; rfl
    rw [hVV] at HH
    have hV2 : Mo.hrs l 2 = V 2 := by rw [hV]; rfl
    rw [hV2] at hh2 h2b
    have hh2' : Hid ((arr6 V).setIfInBounds 2 (.int .i64 (max 0 (V 2 - c.free))) = arr6 (Mo.hh c l)) := by show _ = _; rw [hV] at hh2 ⊢; exact hh2.out
    have h2c : 0 ≤ V 2 ∧ V 2 ≤ 6400000 := by omega
    obtain ⟨Hf, hHf⟩ : ∃ Hf, Hf = Mo.hh c l := ⟨_, rfl⟩
    obtain ⟨pf, hpf⟩ : ∃ pf, pf = Mo.prodI c l := ⟨_, rfl⟩
    have hpe : ∀ i, Hid (pf i = Hf i * c.r i) := fun i => by show _ = _; rw [hpf, hHf]; rfl
    have HPb : ∀ i, i < 6 → -64000000000 ≤ Hf i * c.r i ∧ Hf i * c.r i ≤ 64000000000 := fun i hi => by rw [hHf]; exact (HP i hi).out
    have HPc : Hid (∀ i, i < 6 → -1000000000000 ≤ pf i ∧ pf i ≤ 1000000000000) := by
      show ∀ i, _
      intro i hi
      rw [(hpe i).out]
      have := HPb i hi
      omega
    have HPB := Lib.hid HPb
    rw [← hpf] at HX hfin
    rw [← hHf] at hh2'
    obtain ⟨n, hn⟩ : ∃ n, n = l.length := ⟨_, rfl⟩
    obtain ⟨m, hm⟩ : ∃ m, m = rs.length := ⟨_, rfl⟩
    rw [← hn] at HC HH ⊢
    rw [← hm] at HC HX ⊢
    clear hh2 hV2 hVV hV hU hbv h2b HP hr1 hr2 ho1 ho2 hok hc0 he0 hr0 hE hn hm H HG hle hrs hl hg hgc hgc2 hHf hpf HPb
    go_enter Tryz.func66, Tryz.ntmps66
    go_wp2_with fail
    rw [← hW]
    clear hW
    refine HC.out.mono ?_
    rintro e w1 ⟨rfl, hb1⟩
    have hB1 := hB0.call hb1 rfl
    have t0 := (hb1.block _ z0).trans hT0
    have t1 := (hb1.block _ z1).trans hT1
    have y0 : w.heap.size < w1.heap.size := Nat.lt_of_lt_of_le z0 hb1.size
    have y1 : w.heap.size + 1 < w1.heap.size := Nat.lt_of_lt_of_le z1 hb1.size
    have hb2 : Below w1.heap.size w1 (w1.alloc (Obj.cells #[.int .i64 0, .int .i64 0, .int .i64 0, .int .i64 0, .int .i64 0, .int .i64 0, .int .i64 0, .int .i64 0] 91)) := (Below.refl _ _).alloc (Nat.le_refl _) _
    have hB2 := hB1.call hb2 rfl
    have t0 := (hb2.block _ y0).trans t0
    have t1 := (hb2.block _ y1).trans t1
    have t9 : (w1.alloc (Obj.cells #[.int .i64 0, .int .i64 0, .int .i64 0, .int .i64 0, .int .i64 0, .int .i64 0, .int .i64 0, .int .i64 0] 91)).heap[w1.heap.size]? = some (Obj.cells #[.int .i64 0, .int .i64 0, .int .i64 0, .int .i64 0, .int .i64 0, .int .i64 0, .int .i64 0, .int .i64 0] 91) := heap_new rfl
    clear hb1 hT0 hT1 z0 z1 hB0 HC
    go_wp2_with fail
    refine (HH _ hB2).out.mono ?_
    rintro e w2 ⟨rfl, hb3⟩
    have hB3 := hB2.call hb3 rfl
    have x9 : w1.heap.size < w2.heap.size := by have := hb3.size; simp at this; omega
    have t0 := (hb3.block _ (by simp; omega)).trans t0
    have t1 := (hb3.block _ (by simp; omega)).trans t1
    have t9 := (hb3.block _ (by simp)).trans t9
    have T0 := Lib.hid t0
    have T1 := Lib.hid t1
    have T9 := Lib.hid t9
    clear t0 t1 t9 hb3 HH hb2 hB1 hB2
    by_cases hmx : 0 < V 2 - c.free
    · have hA : Hid (arr6 Hf = #[.int .i64 (V 0), .int .i64 (V 1), .int .i64 (V 2 - c.free), .int .i64 (V 3), .int .i64 (V 4), .int .i64 (V 5)]) := by show _ = _; rw [← hh2'.out, show max 0 (V 2 - c.free) = V 2 - c.free by omega]; rfl
      have q2 : (w2.alloc (Obj.cells #[.int .i64 (V 0), .int .i64 (V 1), .int .i64 (V 2), .int .i64 (V 3), .int .i64 (V 4), .int .i64 (V 5)] 85)).cell? ⟨w2.heap.size, 2, none⟩ = some (.int .i64 (V 2)) := cell_at (heap_new rfl) rfl
      have qf : (w2.alloc (Obj.cells #[.int .i64 (V 0), .int .i64 (V 1), .int .i64 (V 2), .int .i64 (V 3), .int .i64 (V 4), .int .i64 (V 5)] 85)).frozen? ⟨w2.heap.size, 2, none⟩ = false := free_at (heap_new rfl)
      have q6 : (w2.alloc (Obj.cells #[.int .i64 (V 0), .int .i64 (V 1), .int .i64 (V 2), .int .i64 (V 3), .int .i64 (V 4), .int .i64 (V 5)] 85)).cell? ⟨w.heap.size, 6, none⟩ = some (.int .i64 c.free) := cell_at (heap_old (by omega) T0.out) rfl
      obtain ⟨W4, hW4⟩ : ∃ W4, W4 = w2.alloc (Obj.cells #[.int .i64 (V 0), .int .i64 (V 1), .int .i64 (V 2 - c.free), .int .i64 (V 3), .int .i64 (V 4), .int .i64 (V 5)] 85) := ⟨_, rfl⟩
      obtain ⟨ba, hba⟩ : ∃ ba, ba = w2.heap.size := ⟨_, rfl⟩
      have hb4 : Below w2.heap.size w2 W4 := by rw [hW4]; exact (Below.refl _ _).alloc (Nat.le_refl _) _
      have hB4 := hB3.call hb4 rfl
      have t0 := (hb4.block _ (by omega)).trans T0.out
      have t1 := (hb4.block _ (by omega)).trans T1.out
      have t9 := (hb4.block _ x9).trans T9.out
      have ta : W4.heap[ba]? = some (Obj.cells (arr6 Hf) 85) := by rw [hW4, hba, hA.out]; exact heap_new rfl
      have hxa : w1.heap.size < ba := by rw [hba]; exact x9
      clear hb4 hA
      go_wp2_with fail
      rw [← hW4, ← hba]
      clear hW4 hba q2 qf q6
      refine (c123 _).mono ?_
      rintro e w5 ⟨rfl, hb5⟩
      have hB5 := hB4.call hb5 rfl
      have s0 := (hb5.block _ (Array.getElem?_eq_some_iff.1 t0).1).trans t0
      have s1 := (hb5.block _ (Array.getElem?_eq_some_iff.1 t1).1).trans t1
      have s9 : w5.heap[w1.heap.size]? = some (Obj.cells (Inv.mk (Mo.upto pf 0) 0 0).arr 91) := (hb5.block _ (Array.getElem?_eq_some_iff.1 t9).1).trans t9
      have sa := (hb5.block _ (Array.getElem?_eq_some_iff.1 ta).1).trans ta
      have S0 := Lib.hid s0
      have S1 := Lib.hid s1
      have S9 := Lib.hid s9
      have SA := Lib.hid sa
      clear t0 t1 t9 ta s0 s1 s9 sa hb5 hB4
      go_wp2
      go_loopw [31] (fun i wr => ∃ k : Nat, k ≤ 6 ∧ i = .int .i64 k ∧ Below w.heap.size w wr ∧ wr.heap[w.heap.size]? = some (Obj.cells #[.int .i64 (c.r 0), .int .i64 (c.r 1), .int .i64 (c.r 2), .int .i64 (c.r 3), .int .i64 (c.r 4), .int .i64 (c.r 5), .int .i64 c.free, .int .i64 c.bonus, .int .i64 c.pen] 130) ∧ wr.heap[w.heap.size + 1]? = some (Obj.cells #[.int .i64 0, .int .i64 0, .int .i64 0, .int .i64 0, .int .i64 0, .int .i64 0, .int .i64 0, .int .i64 0] 91) ∧ wr.heap[w1.heap.size]? = some (Obj.cells (Inv.mk (Mo.upto pf k) 0 0).arr 91) ∧ wr.heap[ba]? = some (Obj.cells (arr6 Hf) 85)) (fun i _ => 6 - (intOf i).toNat)
      case atStart => exact ⟨0, Nat.zero_le _, rfl, hB5, S0.out, S1.out, S9.out, SA.out⟩
      case round =>
        clear hB5 S0 S1 S9 SA hB3
        obtain ⟨k, hk, rfl, hB, g0, g1, g9, ga⟩ := hrel
        have n0 : w.heap.size < wr.heap.size := (Array.getElem?_eq_some_iff.1 g0).1
        have n1 : w.heap.size + 1 < wr.heap.size := (Array.getElem?_eq_some_iff.1 g1).1
        have n9 : w1.heap.size < wr.heap.size := (Array.getElem?_eq_some_iff.1 g9).1
        have na : ba < wr.heap.size := (Array.getElem?_eq_some_iff.1 ga).1
        by_cases hlt : k < 6
        · rcases (show k = 0 ∨ k = 1 ∨ k = 2 ∨ k = 3 ∨ k = 4 ∨ k = 5 by omega) with rfl | rfl | rfl | rfl | rfl | rfl
          · have hix := idxR0 wr
            have hus : Hid ((Inv.mk (Mo.upto pf 0) 0 0).arr.setIfInBounds 0 (.int .i64 (Hf 0 * c.r 0)) = (Inv.mk (Mo.upto pf (0 + 1)) 0 0).arr) := by
              show _ = _
              rw [Inv.setc _ 0 (by decide), ← (hpe 0).out, ← Mo.upto_succ pf 0]
            have hpb := HPB.out 0 (by decide)
            obtain ⟨hv, hhv⟩ : ∃ hv, hv = Hf 0 := ⟨_, rfl⟩
            have gak : (arr6 Hf)[0]? = some (.int .i64 hv) := by rw [hhv]; rfl
            rw [← hhv] at hus hpb
            clear hhv
            go_wp2_with (refine wpList_store_blk rfl 206 _ _ rfl wr.heap.size _ rfl rfl (heap_new rfl) ?s1 ?s2 ?s3 ?_)
            case s1 => rfl
            case s2 => kernel_rfl
            case s3 => simp [Value.oneCell']
            intro wx h3 hg3 hs3
            have hBa : Below wr.heap.size wr wx := ((show Below wr.heap.size wr (wr.alloc _) from (Below.refl _ _).alloc (Nat.le_refl _) _)).grown hg3 (by simp) (fun j hj => by cases hj; exact Nat.le_refl _)
            have x0 := (hBa.block _ n0).trans g0
            have x1 := (hBa.block _ n1).trans g1
            have x9' := (hBa.block _ n9).trans g9
            have xa := (hBa.block _ na).trans ga
            have hBx := hB.call hBa rfl
            have hf1 : wx.cell? ⟨wr.heap.size, 1, none⟩ = some (.func (.func 155) #[] #[]) := cell_at h3 rfl
            have hfa : wx.cell? ⟨ba, 0, none⟩ = some (.int .i64 hv) := cell_at xa gak
            have hrx : wr.heap.size < wx.heap.size := (Array.getElem?_eq_some_iff.1 h3).1
            have m0 : w.heap.size < wx.heap.size := Nat.lt_of_lt_of_le n0 hBa.size
            have m9 : w1.heap.size < wx.heap.size := Nat.lt_of_lt_of_le n9 hBa.size
            have ma : ba < wx.heap.size := Nat.lt_of_lt_of_le na hBa.size
            have b0 : wx.cell? ⟨w.heap.size, 0, none⟩ = some (.int .i64 (c.r 0)) := cell_at x0 rfl
            have b1 : wx.cell? ⟨w.heap.size, 1, none⟩ = some (.int .i64 (c.r 1)) := cell_at x0 rfl
            have b2 : wx.cell? ⟨w.heap.size, 2, none⟩ = some (.int .i64 (c.r 2)) := cell_at x0 rfl
            have b3 : wx.cell? ⟨w.heap.size, 3, none⟩ = some (.int .i64 (c.r 3)) := cell_at x0 rfl
            have b4 : wx.cell? ⟨w.heap.size, 4, none⟩ = some (.int .i64 (c.r 4)) := cell_at x0 rfl
            have b5 : wx.cell? ⟨w.heap.size, 5, none⟩ = some (.int .i64 (c.r 5)) := cell_at x0 rfl
            have b6 : wx.cell? ⟨w.heap.size, 6, none⟩ = some (.int .i64 c.free) := cell_at x0 rfl
            have b7 : wx.cell? ⟨w.heap.size, 7, none⟩ = some (.int .i64 c.bonus) := cell_at x0 rfl
            have b8 : wx.cell? ⟨w.heap.size, 8, none⟩ = some (.int .i64 c.pen) := cell_at x0 rfl
            have X0 := Lib.hid x0
            have X1 := Lib.hid x1
            have X9 := Lib.hid x9'
            have XA := Lib.hid xa
            clear x0 x1 x9' xa hBa h3 hg3 g0 g1 g9 ga hB gak
            go_wp2
            refine wp_region_splitG 11 (by kernel_rfl) (by kernel_rfl) ?_
            simp only [List.take_succ_cons, List.take_zero, List.drop_succ_cons, List.drop_zero]
            repeat (go_big_quiet_step ((first | (go_at_call 155; exact Calls.gw_of (c155 c _)))))
            refine wpQuiet_nil (gw_out ?_)
            intro w7 hb7
            have hB7 := hBx.call hb7 rfl
            have k0 := (hb7.block _ (Array.getElem?_eq_some_iff.1 X0.out).1).trans X0.out
            have k1 := (hb7.block _ (Array.getElem?_eq_some_iff.1 X1.out).1).trans X1.out
            have k9 := (hb7.block _ (Array.getElem?_eq_some_iff.1 X9.out).1).trans X9.out
            have ka := (hb7.block _ (Array.getElem?_eq_some_iff.1 XA.out).1).trans XA.out
            have pf9 : w7.frozen? ⟨w1.heap.size, 0, none⟩ = false := free_at k9
            have pc9 : w7.cell? ⟨w1.heap.size, 0, none⟩ = some (.int .i64 (Mo.upto pf 0 0)) := cell_at k9 rfl
            have f0 : Hid ((w7.setCell ⟨w1.heap.size, 0, none⟩ (.int .i64 (hv * c.r 0))).heap[w.heap.size]? = some (Obj.cells #[.int .i64 (c.r 0), .int .i64 (c.r 1), .int .i64 (c.r 2), .int .i64 (c.r 3), .int .i64 (c.r 4), .int .i64 (c.r 5), .int .i64 c.free, .int .i64 c.bonus, .int .i64 c.pen] 130)) := by show _ = _; rw [set_far _ (by simp; omega)]; exact k0
            have f1 : Hid ((w7.setCell ⟨w1.heap.size, 0, none⟩ (.int .i64 (hv * c.r 0))).heap[w.heap.size + 1]? = some (Obj.cells #[.int .i64 0, .int .i64 0, .int .i64 0, .int .i64 0, .int .i64 0, .int .i64 0, .int .i64 0, .int .i64 0] 91)) := by show _ = _; rw [set_far _ (by simp; omega)]; exact k1
            have f9 : Hid ((w7.setCell ⟨w1.heap.size, 0, none⟩ (.int .i64 (hv * c.r 0))).heap[w1.heap.size]? = some (Obj.cells (Inv.mk (Mo.upto pf (0 + 1)) 0 0).arr 91)) := by show _ = _; rw [set_blk k9, hus.out]
            have fa : Hid ((w7.setCell ⟨w1.heap.size, 0, none⟩ (.int .i64 (hv * c.r 0))).heap[ba]? = some (Obj.cells (arr6 Hf) 85)) := by show _ = _; rw [set_far _ (by simp; omega)]; exact ka
            have hB8 := hB7.setCell (p := ⟨w1.heap.size, 0, none⟩) (by show w.heap.size ≤ w1.heap.size; omega) (.int .i64 (hv * c.r 0))
            clear k0 k1 k9 ka X0 X1 X9 XA hb7 hus
            go_wp2
            go_roundw
            case rel => exact ⟨1, by omega, rfl, hB8, f0.out, f1.out, f9.out, fa.out⟩
            case measure => simp [intOf]
          · have hix := idxR1 wr
            have hus : Hid ((Inv.mk (Mo.upto pf 1) 0 0).arr.setIfInBounds 1 (.int .i64 (Hf 1 * c.r 1)) = (Inv.mk (Mo.upto pf (1 + 1)) 0 0).arr) := by
              show _ = _
              rw [Inv.setc _ 1 (by decide), ← (hpe 1).out, ← Mo.upto_succ pf 1]
            have hpb := HPB.out 1 (by decide)
            obtain ⟨hv, hhv⟩ : ∃ hv, hv = Hf 1 := ⟨_, rfl⟩
            have gak : (arr6 Hf)[1]? = some (.int .i64 hv) := by rw [hhv]; rfl
            rw [← hhv] at hus hpb
            clear hhv
            go_wp2_with (refine wpList_store_blk rfl 206 _ _ rfl wr.heap.size _ rfl rfl (heap_new rfl) ?s1 ?s2 ?s3 ?_)
            case s1 => rfl
            case s2 => kernel_rfl
            case s3 => simp [Value.oneCell']
            intro wx h3 hg3 hs3
            have hBa : Below wr.heap.size wr wx := ((show Below wr.heap.size wr (wr.alloc _) from (Below.refl _ _).alloc (Nat.le_refl _) _)).grown hg3 (by simp) (fun j hj => by cases hj; exact Nat.le_refl _)
            have x0 := (hBa.block _ n0).trans g0
            have x1 := (hBa.block _ n1).trans g1
            have x9' := (hBa.block _ n9).trans g9
            have xa := (hBa.block _ na).trans ga
            have hBx := hB.call hBa rfl
            have hf1 : wx.cell? ⟨wr.heap.size, 1, none⟩ = some (.func (.func 156) #[] #[]) := cell_at h3 rfl
            have hfa : wx.cell? ⟨ba, 1, none⟩ = some (.int .i64 hv) := cell_at xa gak
            have hrx : wr.heap.size < wx.heap.size := (Array.getElem?_eq_some_iff.1 h3).1
            have m0 : w.heap.size < wx.heap.size := Nat.lt_of_lt_of_le n0 hBa.size
            have m9 : w1.heap.size < wx.heap.size := Nat.lt_of_lt_of_le n9 hBa.size
            have ma : ba < wx.heap.size := Nat.lt_of_lt_of_le na hBa.size
            have b0 : wx.cell? ⟨w.heap.size, 0, none⟩ = some (.int .i64 (c.r 0)) := cell_at x0 rfl
            have b1 : wx.cell? ⟨w.heap.size, 1, none⟩ = some (.int .i64 (c.r 1)) := cell_at x0 rfl
            have b2 : wx.cell? ⟨w.heap.size, 2, none⟩ = some (.int .i64 (c.r 2)) := cell_at x0 rfl
            have b3 : wx.cell? ⟨w.heap.size, 3, none⟩ = some (.int .i64 (c.r 3)) := cell_at x0 rfl
            have b4 : wx.cell? ⟨w.heap.size, 4, none⟩ = some (.int .i64 (c.r 4)) := cell_at x0 rfl
            have b5 : wx.cell? ⟨w.heap.size, 5, none⟩ = some (.int .i64 (c.r 5)) := cell_at x0 rfl
            have b6 : wx.cell? ⟨w.heap.size, 6, none⟩ = some (.int .i64 c.free) := cell_at x0 rfl
            have b7 : wx.cell? ⟨w.heap.size, 7, none⟩ = some (.int .i64 c.bonus) := cell_at x0 rfl
            have b8 : wx.cell? ⟨w.heap.size, 8, none⟩ = some (.int .i64 c.pen) := cell_at x0 rfl
            have X0 := Lib.hid x0
            have X1 := Lib.hid x1
            have X9 := Lib.hid x9'
            have XA := Lib.hid xa
            clear x0 x1 x9' xa hBa h3 hg3 g0 g1 g9 ga hB gak
            go_wp2
            refine wp_region_splitG 11 (by kernel_rfl) (by kernel_rfl) ?_
            simp only [List.take_succ_cons, List.take_zero, List.drop_succ_cons, List.drop_zero]
            repeat (go_big_quiet_step ((first | (go_at_call 156; exact Calls.gw_of (c156 c _)))))
            refine wpQuiet_nil (gw_out ?_)
            intro w7 hb7
            have hB7 := hBx.call hb7 rfl
            have k0 := (hb7.block _ (Array.getElem?_eq_some_iff.1 X0.out).1).trans X0.out
            have k1 := (hb7.block _ (Array.getElem?_eq_some_iff.1 X1.out).1).trans X1.out
            have k9 := (hb7.block _ (Array.getElem?_eq_some_iff.1 X9.out).1).trans X9.out
            have ka := (hb7.block _ (Array.getElem?_eq_some_iff.1 XA.out).1).trans XA.out
            have pf9 : w7.frozen? ⟨w1.heap.size, 1, none⟩ = false := free_at k9
            have pc9 : w7.cell? ⟨w1.heap.size, 1, none⟩ = some (.int .i64 (Mo.upto pf 1 1)) := cell_at k9 rfl
            have f0 : Hid ((w7.setCell ⟨w1.heap.size, 1, none⟩ (.int .i64 (hv * c.r 1))).heap[w.heap.size]? = some (Obj.cells #[.int .i64 (c.r 0), .int .i64 (c.r 1), .int .i64 (c.r 2), .int .i64 (c.r 3), .int .i64 (c.r 4), .int .i64 (c.r 5), .int .i64 c.free, .int .i64 c.bonus, .int .i64 c.pen] 130)) := by show _ = _; rw [set_far _ (by simp; omega)]; exact k0
            have f1 : Hid ((w7.setCell ⟨w1.heap.size, 1, none⟩ (.int .i64 (hv * c.r 1))).heap[w.heap.size + 1]? = some (Obj.cells #[.int .i64 0, .int .i64 0, .int .i64 0, .int .i64 0, .int .i64 0, .int .i64 0, .int .i64 0, .int .i64 0] 91)) := by show _ = _; rw [set_far _ (by simp; omega)]; exact k1
            have f9 : Hid ((w7.setCell ⟨w1.heap.size, 1, none⟩ (.int .i64 (hv * c.r 1))).heap[w1.heap.size]? = some (Obj.cells (Inv.mk (Mo.upto pf (1 + 1)) 0 0).arr 91)) := by show _ = _; rw [set_blk k9, hus.out]
            have fa : Hid ((w7.setCell ⟨w1.heap.size, 1, none⟩ (.int .i64 (hv * c.r 1))).heap[ba]? = some (Obj.cells (arr6 Hf) 85)) := by show _ = _; rw [set_far _ (by simp; omega)]; exact ka
            have hB8 := hB7.setCell (p := ⟨w1.heap.size, 1, none⟩) (by show w.heap.size ≤ w1.heap.size; omega) (.int .i64 (hv * c.r 1))
            clear k0 k1 k9 ka X0 X1 X9 XA hb7 hus
            go_wp2
            go_roundw
            case rel => exact ⟨2, by omega, rfl, hB8, f0.out, f1.out, f9.out, fa.out⟩
            case measure => simp [intOf]
          · have hix := idxR2 wr
            have hus : Hid ((Inv.mk (Mo.upto pf 2) 0 0).arr.setIfInBounds 2 (.int .i64 (Hf 2 * c.r 2)) = (Inv.mk (Mo.upto pf (2 + 1)) 0 0).arr) := by
              show _ = _
              rw [Inv.setc _ 2 (by decide), ← (hpe 2).out, ← Mo.upto_succ pf 2]
            have hpb := HPB.out 2 (by decide)
            obtain ⟨hv, hhv⟩ : ∃ hv, hv = Hf 2 := ⟨_, rfl⟩
            have gak : (arr6 Hf)[2]? = some (.int .i64 hv) := by rw [hhv]; rfl
            rw [← hhv] at hus hpb
            clear hhv
            go_wp2_with (refine wpList_store_blk rfl 206 _ _ rfl wr.heap.size _ rfl rfl (heap_new rfl) ?s1 ?s2 ?s3 ?_)
            case s1 => rfl
            case s2 => kernel_rfl
            case s3 => simp [Value.oneCell']
            intro wx h3 hg3 hs3
            have hBa : Below wr.heap.size wr wx := ((show Below wr.heap.size wr (wr.alloc _) from (Below.refl _ _).alloc (Nat.le_refl _) _)).grown hg3 (by simp) (fun j hj => by cases hj; exact Nat.le_refl _)
            have x0 := (hBa.block _ n0).trans g0
            have x1 := (hBa.block _ n1).trans g1
            have x9' := (hBa.block _ n9).trans g9
            have xa := (hBa.block _ na).trans ga
            have hBx := hB.call hBa rfl
            have hf1 : wx.cell? ⟨wr.heap.size, 1, none⟩ = some (.func (.func 157) #[] #[]) := cell_at h3 rfl
            have hfa : wx.cell? ⟨ba, 2, none⟩ = some (.int .i64 hv) := cell_at xa gak
            have hrx : wr.heap.size < wx.heap.size := (Array.getElem?_eq_some_iff.1 h3).1
            have m0 : w.heap.size < wx.heap.size := Nat.lt_of_lt_of_le n0 hBa.size
            have m9 : w1.heap.size < wx.heap.size := Nat.lt_of_lt_of_le n9 hBa.size
            have ma : ba < wx.heap.size := Nat.lt_of_lt_of_le na hBa.size
            have b0 : wx.cell? ⟨w.heap.size, 0, none⟩ = some (.int .i64 (c.r 0)) := cell_at x0 rfl
            have b1 : wx.cell? ⟨w.heap.size, 1, none⟩ = some (.int .i64 (c.r 1)) := cell_at x0 rfl
            have b2 : wx.cell? ⟨w.heap.size, 2, none⟩ = some (.int .i64 (c.r 2)) := cell_at x0 rfl
            have b3 : wx.cell? ⟨w.heap.size, 3, none⟩ = some (.int .i64 (c.r 3)) := cell_at x0 rfl
            have b4 : wx.cell? ⟨w.heap.size, 4, none⟩ = some (.int .i64 (c.r 4)) := cell_at x0 rfl
            have b5 : wx.cell? ⟨w.heap.size, 5, none⟩ = some (.int .i64 (c.r 5)) := cell_at x0 rfl
            have b6 : wx.cell? ⟨w.heap.size, 6, none⟩ = some (.int .i64 c.free) := cell_at x0 rfl
            have b7 : wx.cell? ⟨w.heap.size, 7, none⟩ = some (.int .i64 c.bonus) := cell_at x0 rfl
            have b8 : wx.cell? ⟨w.heap.size, 8, none⟩ = some (.int .i64 c.pen) := cell_at x0 rfl
            have X0 := Lib.hid x0
            have X1 := Lib.hid x1
            have X9 := Lib.hid x9'
            have XA := Lib.hid xa
            clear x0 x1 x9' xa hBa h3 hg3 g0 g1 g9 ga hB gak
            go_wp2
            refine wp_region_splitG 11 (by kernel_rfl) (by kernel_rfl) ?_
            simp only [List.take_succ_cons, List.take_zero, List.drop_succ_cons, List.drop_zero]
            repeat (go_big_quiet_step ((first | (go_at_call 157; exact Calls.gw_of (c157 c _)))))
            refine wpQuiet_nil (gw_out ?_)
            intro w7 hb7
            have hB7 := hBx.call hb7 rfl
            have k0 := (hb7.block _ (Array.getElem?_eq_some_iff.1 X0.out).1).trans X0.out
            have k1 := (hb7.block _ (Array.getElem?_eq_some_iff.1 X1.out).1).trans X1.out
            have k9 := (hb7.block _ (Array.getElem?_eq_some_iff.1 X9.out).1).trans X9.out
            have ka := (hb7.block _ (Array.getElem?_eq_some_iff.1 XA.out).1).trans XA.out
            have pf9 : w7.frozen? ⟨w1.heap.size, 2, none⟩ = false := free_at k9
            have pc9 : w7.cell? ⟨w1.heap.size, 2, none⟩ = some (.int .i64 (Mo.upto pf 2 2)) := cell_at k9 rfl
            have f0 : Hid ((w7.setCell ⟨w1.heap.size, 2, none⟩ (.int .i64 (hv * c.r 2))).heap[w.heap.size]? = some (Obj.cells #[.int .i64 (c.r 0), .int .i64 (c.r 1), .int .i64 (c.r 2), .int .i64 (c.r 3), .int .i64 (c.r 4), .int .i64 (c.r 5), .int .i64 c.free, .int .i64 c.bonus, .int .i64 c.pen] 130)) := by show _ = _; rw [set_far _ (by simp; omega)]; exact k0
            have f1 : Hid ((w7.setCell ⟨w1.heap.size, 2, none⟩ (.int .i64 (hv * c.r 2))).heap[w.heap.size + 1]? = some (Obj.cells #[.int .i64 0, .int .i64 0, .int .i64 0, .int .i64 0, .int .i64 0, .int .i64 0, .int .i64 0, .int .i64 0] 91)) := by show _ = _; rw [set_far _ (by simp; omega)]; exact k1
            have f9 : Hid ((w7.setCell ⟨w1.heap.size, 2, none⟩ (.int .i64 (hv * c.r 2))).heap[w1.heap.size]? = some (Obj.cells (Inv.mk (Mo.upto pf (2 + 1)) 0 0).arr 91)) := by show _ = _; rw [set_blk k9, hus.out]
            have fa : Hid ((w7.setCell ⟨w1.heap.size, 2, none⟩ (.int .i64 (hv * c.r 2))).heap[ba]? = some (Obj.cells (arr6 Hf) 85)) := by show _ = _; rw [set_far _ (by simp; omega)]; exact ka
            have hB8 := hB7.setCell (p := ⟨w1.heap.size, 2, none⟩) (by show w.heap.size ≤ w1.heap.size; omega) (.int .i64 (hv * c.r 2))
            clear k0 k1 k9 ka X0 X1 X9 XA hb7 hus
            go_wp2
            go_roundw
            case rel => exact ⟨3, by omega, rfl, hB8, f0.out, f1.out, f9.out, fa.out⟩
            case measure => simp [intOf]
          · have hix := idxR3 wr
            have hus : Hid ((Inv.mk (Mo.upto pf 3) 0 0).arr.setIfInBounds 3 (.int .i64 (Hf 3 * c.r 3)) = (Inv.mk (Mo.upto pf (3 + 1)) 0 0).arr) := by
              show _ = _
              rw [Inv.setc _ 3 (by decide), ← (hpe 3).out, ← Mo.upto_succ pf 3]
            have hpb := HPB.out 3 (by decide)
            obtain ⟨hv, hhv⟩ : ∃ hv, hv = Hf 3 := ⟨_, rfl⟩
            have gak : (arr6 Hf)[3]? = some (.int .i64 hv) := by rw [hhv]; rfl
            rw [← hhv] at hus hpb
            clear hhv
            go_wp2_with (refine wpList_store_blk rfl 206 _ _ rfl wr.heap.size _ rfl rfl (heap_new rfl) ?s1 ?s2 ?s3 ?_)
            case s1 => rfl
            case s2 => kernel_rfl
            case s3 => simp [Value.oneCell']
            intro wx h3 hg3 hs3
            have hBa : Below wr.heap.size wr wx := ((show Below wr.heap.size wr (wr.alloc _) from (Below.refl _ _).alloc (Nat.le_refl _) _)).grown hg3 (by simp) (fun j hj => by cases hj; exact Nat.le_refl _)
            have x0 := (hBa.block _ n0).trans g0
            have x1 := (hBa.block _ n1).trans g1
            have x9' := (hBa.block _ n9).trans g9
            have xa := (hBa.block _ na).trans ga
            have hBx := hB.call hBa rfl
            have hf1 : wx.cell? ⟨wr.heap.size, 1, none⟩ = some (.func (.func 158) #[] #[]) := cell_at h3 rfl
            have hfa : wx.cell? ⟨ba, 3, none⟩ = some (.int .i64 hv) := cell_at xa gak
            have hrx : wr.heap.size < wx.heap.size := (Array.getElem?_eq_some_iff.1 h3).1
            have m0 : w.heap.size < wx.heap.size := Nat.lt_of_lt_of_le n0 hBa.size
            have m9 : w1.heap.size < wx.heap.size := Nat.lt_of_lt_of_le n9 hBa.size
            have ma : ba < wx.heap.size := Nat.lt_of_lt_of_le na hBa.size
            have b0 : wx.cell? ⟨w.heap.size, 0, none⟩ = some (.int .i64 (c.r 0)) := cell_at x0 rfl
            have b1 : wx.cell? ⟨w.heap.size, 1, none⟩ = some (.int .i64 (c.r 1)) := cell_at x0 rfl
            have b2 : wx.cell? ⟨w.heap.size, 2, none⟩ = some (.int .i64 (c.r 2)) := cell_at x0 rfl
            have b3 : wx.cell? ⟨w.heap.size, 3, none⟩ = some (.int .i64 (c.r 3)) := cell_at x0 rfl
            have b4 : wx.cell? ⟨w.heap.size, 4, none⟩ = some (.int .i64 (c.r 4)) := cell_at x0 rfl
            have b5 : wx.cell? ⟨w.heap.size, 5, none⟩ = some (.int .i64 (c.r 5)) := cell_at x0 rfl
            have b6 : wx.cell? ⟨w.heap.size, 6, none⟩ = some (.int .i64 c.free) := cell_at x0 rfl
            have b7 : wx.cell? ⟨w.heap.size, 7, none⟩ = some (.int .i64 c.bonus) := cell_at x0 rfl
            have b8 : wx.cell? ⟨w.heap.size, 8, none⟩ = some (.int .i64 c.pen) := cell_at x0 rfl
            have X0 := Lib.hid x0
            have X1 := Lib.hid x1
            have X9 := Lib.hid x9'
            have XA := Lib.hid xa
            clear x0 x1 x9' xa hBa h3 hg3 g0 g1 g9 ga hB gak
            go_wp2
            refine wp_region_splitG 11 (by kernel_rfl) (by kernel_rfl) ?_
            simp only [List.take_succ_cons, List.take_zero, List.drop_succ_cons, List.drop_zero]
            repeat (go_big_quiet_step ((first | (go_at_call 158; exact Calls.gw_of (c158 c _)))))
            refine wpQuiet_nil (gw_out ?_)
            intro w7 hb7
            have hB7 := hBx.call hb7 rfl
            have k0 := (hb7.block _ (Array.getElem?_eq_some_iff.1 X0.out).1).trans X0.out
            have k1 := (hb7.block _ (Array.getElem?_eq_some_iff.1 X1.out).1).trans X1.out
            have k9 := (hb7.block _ (Array.getElem?_eq_some_iff.1 X9.out).1).trans X9.out
            have ka := (hb7.block _ (Array.getElem?_eq_some_iff.1 XA.out).1).trans XA.out
            have pf9 : w7.frozen? ⟨w1.heap.size, 3, none⟩ = false := free_at k9
            have pc9 : w7.cell? ⟨w1.heap.size, 3, none⟩ = some (.int .i64 (Mo.upto pf 3 3)) := cell_at k9 rfl
            have f0 : Hid ((w7.setCell ⟨w1.heap.size, 3, none⟩ (.int .i64 (hv * c.r 3))).heap[w.heap.size]? = some (Obj.cells #[.int .i64 (c.r 0), .int .i64 (c.r 1), .int .i64 (c.r 2), .int .i64 (c.r 3), .int .i64 (c.r 4), .int .i64 (c.r 5), .int .i64 c.free, .int .i64 c.bonus, .int .i64 c.pen] 130)) := by show _ = _; rw [set_far _ (by simp; omega)]; exact k0
            have f1 : Hid ((w7.setCell ⟨w1.heap.size, 3, none⟩ (.int .i64 (hv * c.r 3))).heap[w.heap.size + 1]? = some (Obj.cells #[.int .i64 0, .int .i64 0, .int .i64 0, .int .i64 0, .int .i64 0, .int .i64 0, .int .i64 0, .int .i64 0] 91)) := by show _ = _; rw [set_far _ (by simp; omega)]; exact k1
            have f9 : Hid ((w7.setCell ⟨w1.heap.size, 3, none⟩ (.int .i64 (hv * c.r 3))).heap[w1.heap.size]? = some (Obj.cells (Inv.mk (Mo.upto pf (3 + 1)) 0 0).arr 91)) := by show _ = _; rw [set_blk k9, hus.out]
            have fa : Hid ((w7.setCell ⟨w1.heap.size, 3, none⟩ (.int .i64 (hv * c.r 3))).heap[ba]? = some (Obj.cells (arr6 Hf) 85)) := by show _ = _; rw [set_far _ (by simp; omega)]; exact ka
            have hB8 := hB7.setCell (p := ⟨w1.heap.size, 3, none⟩) (by show w.heap.size ≤ w1.heap.size; omega) (.int .i64 (hv * c.r 3))
            clear k0 k1 k9 ka X0 X1 X9 XA hb7 hus
            go_wp2
            go_roundw
            case rel => exact ⟨4, by omega, rfl, hB8, f0.out, f1.out, f9.out, fa.out⟩
            case measure => simp [intOf]
          · have hix := idxR4 wr
            have hus : Hid ((Inv.mk (Mo.upto pf 4) 0 0).arr.setIfInBounds 4 (.int .i64 (Hf 4 * c.r 4)) = (Inv.mk (Mo.upto pf (4 + 1)) 0 0).arr) := by
              show _ = _
              rw [Inv.setc _ 4 (by decide), ← (hpe 4).out, ← Mo.upto_succ pf 4]
            have hpb := HPB.out 4 (by decide)
            obtain ⟨hv, hhv⟩ : ∃ hv, hv = Hf 4 := ⟨_, rfl⟩
            have gak : (arr6 Hf)[4]? = some (.int .i64 hv) := by rw [hhv]; rfl
            rw [← hhv] at hus hpb
            clear hhv
            go_wp2_with (refine wpList_store_blk rfl 206 _ _ rfl wr.heap.size _ rfl rfl (heap_new rfl) ?s1 ?s2 ?s3 ?_)
            case s1 => rfl
            case s2 => kernel_rfl
            case s3 => simp [Value.oneCell']
            intro wx h3 hg3 hs3
            have hBa : Below wr.heap.size wr wx := ((show Below wr.heap.size wr (wr.alloc _) from (Below.refl _ _).alloc (Nat.le_refl _) _)).grown hg3 (by simp) (fun j hj => by cases hj; exact Nat.le_refl _)
            have x0 := (hBa.block _ n0).trans g0
            have x1 := (hBa.block _ n1).trans g1
            have x9' := (hBa.block _ n9).trans g9
            have xa := (hBa.block _ na).trans ga
            have hBx := hB.call hBa rfl
            have hf1 : wx.cell? ⟨wr.heap.size, 1, none⟩ = some (.func (.func 159) #[] #[]) := cell_at h3 rfl
            have hfa : wx.cell? ⟨ba, 4, none⟩ = some (.int .i64 hv) := cell_at xa gak
            have hrx : wr.heap.size < wx.heap.size := (Array.getElem?_eq_some_iff.1 h3).1
            have m0 : w.heap.size < wx.heap.size := Nat.lt_of_lt_of_le n0 hBa.size
            have m9 : w1.heap.size < wx.heap.size := Nat.lt_of_lt_of_le n9 hBa.size
            have ma : ba < wx.heap.size := Nat.lt_of_lt_of_le na hBa.size
            have b0 : wx.cell? ⟨w.heap.size, 0, none⟩ = some (.int .i64 (c.r 0)) := cell_at x0 rfl
            have b1 : wx.cell? ⟨w.heap.size, 1, none⟩ = some (.int .i64 (c.r 1)) := cell_at x0 rfl
            have b2 : wx.cell? ⟨w.heap.size, 2, none⟩ = some (.int .i64 (c.r 2)) := cell_at x0 rfl
            have b3 : wx.cell? ⟨w.heap.size, 3, none⟩ = some (.int .i64 (c.r 3)) := cell_at x0 rfl
            have b4 : wx.cell? ⟨w.heap.size, 4, none⟩ = some (.int .i64 (c.r 4)) := cell_at x0 rfl
            have b5 : wx.cell? ⟨w.heap.size, 5, none⟩ = some (.int .i64 (c.r 5)) := cell_at x0 rfl
            have b6 : wx.cell? ⟨w.heap.size, 6, none⟩ = some (.int .i64 c.free) := cell_at x0 rfl
            have b7 : wx.cell? ⟨w.heap.size, 7, none⟩ = some (.int .i64 c.bonus) := cell_at x0 rfl
            have b8 : wx.cell? ⟨w.heap.size, 8, none⟩ = some (.int .i64 c.pen) := cell_at x0 rfl
            have X0 := Lib.hid x0
            have X1 := Lib.hid x1
            have X9 := Lib.hid x9'
            have XA := Lib.hid xa
            clear x0 x1 x9' xa hBa h3 hg3 g0 g1 g9 ga hB gak
            go_wp2
            refine wp_region_splitG 11 (by kernel_rfl) (by kernel_rfl) ?_
            simp only [List.take_succ_cons, List.take_zero, List.drop_succ_cons, List.drop_zero]
            repeat (go_big_quiet_step ((first | (go_at_call 159; exact Calls.gw_of (c159 c _)))))
            refine wpQuiet_nil (gw_out ?_)
            intro w7 hb7
            have hB7 := hBx.call hb7 rfl
            have k0 := (hb7.block _ (Array.getElem?_eq_some_iff.1 X0.out).1).trans X0.out
            have k1 := (hb7.block _ (Array.getElem?_eq_some_iff.1 X1.out).1).trans X1.out
            have k9 := (hb7.block _ (Array.getElem?_eq_some_iff.1 X9.out).1).trans X9.out
            have ka := (hb7.block _ (Array.getElem?_eq_some_iff.1 XA.out).1).trans XA.out
            have pf9 : w7.frozen? ⟨w1.heap.size, 4, none⟩ = false := free_at k9
            have pc9 : w7.cell? ⟨w1.heap.size, 4, none⟩ = some (.int .i64 (Mo.upto pf 4 4)) := cell_at k9 rfl
            have f0 : Hid ((w7.setCell ⟨w1.heap.size, 4, none⟩ (.int .i64 (hv * c.r 4))).heap[w.heap.size]? = some (Obj.cells #[.int .i64 (c.r 0), .int .i64 (c.r 1), .int .i64 (c.r 2), .int .i64 (c.r 3), .int .i64 (c.r 4), .int .i64 (c.r 5), .int .i64 c.free, .int .i64 c.bonus, .int .i64 c.pen] 130)) := by show _ = _; rw [set_far _ (by simp; omega)]; exact k0
            have f1 : Hid ((w7.setCell ⟨w1.heap.size, 4, none⟩ (.int .i64 (hv * c.r 4))).heap[w.heap.size + 1]? = some (Obj.cells #[.int .i64 0, .int .i64 0, .int .i64 0, .int .i64 0, .int .i64 0, .int .i64 0, .int .i64 0, .int .i64 0] 91)) := by show _ = _; rw [set_far _ (by simp; omega)]; exact k1
            have f9 : Hid ((w7.setCell ⟨w1.heap.size, 4, none⟩ (.int .i64 (hv * c.r 4))).heap[w1.heap.size]? = some (Obj.cells (Inv.mk (Mo.upto pf (4 + 1)) 0 0).arr 91)) := by show _ = _; rw [set_blk k9, hus.out]
            have fa : Hid ((w7.setCell ⟨w1.heap.size, 4, none⟩ (.int .i64 (hv * c.r 4))).heap[ba]? = some (Obj.cells (arr6 Hf) 85)) := by show _ = _; rw [set_far _ (by simp; omega)]; exact ka
            have hB8 := hB7.setCell (p := ⟨w1.heap.size, 4, none⟩) (by show w.heap.size ≤ w1.heap.size; omega) (.int .i64 (hv * c.r 4))
            clear k0 k1 k9 ka X0 X1 X9 XA hb7 hus
            go_wp2
            go_roundw
            case rel => exact ⟨5, by omega, rfl, hB8, f0.out, f1.out, f9.out, fa.out⟩
            case measure => simp [intOf]
          · have hix := idxR5 wr
            have hus : Hid ((Inv.mk (Mo.upto pf 5) 0 0).arr.setIfInBounds 5 (.int .i64 (Hf 5 * c.r 5)) = (Inv.mk (Mo.upto pf (5 + 1)) 0 0).arr) := by
              show _ = _
              rw [Inv.setc _ 5 (by decide), ← (hpe 5).out, ← Mo.upto_succ pf 5]
            have hpb := HPB.out 5 (by decide)
            obtain ⟨hv, hhv⟩ : ∃ hv, hv = Hf 5 := ⟨_, rfl⟩
            have gak : (arr6 Hf)[5]? = some (.int .i64 hv) := by rw [hhv]; rfl
            rw [← hhv] at hus hpb
            clear hhv
            go_wp2_with (refine wpList_store_blk rfl 206 _ _ rfl wr.heap.size _ rfl rfl (heap_new rfl) ?s1 ?s2 ?s3 ?_)
            case s1 => rfl
            case s2 => kernel_rfl
            case s3 => simp [Value.oneCell']
            intro wx h3 hg3 hs3
            have hBa : Below wr.heap.size wr wx := ((show Below wr.heap.size wr (wr.alloc _) from (Below.refl _ _).alloc (Nat.le_refl _) _)).grown hg3 (by simp) (fun j hj => by cases hj; exact Nat.le_refl _)
            have x0 := (hBa.block _ n0).trans g0
            have x1 := (hBa.block _ n1).trans g1
            have x9' := (hBa.block _ n9).trans g9
            have xa := (hBa.block _ na).trans ga
            have hBx := hB.call hBa rfl
            have hf1 : wx.cell? ⟨wr.heap.size, 1, none⟩ = some (.func (.func 160) #[] #[]) := cell_at h3 rfl
            have hfa : wx.cell? ⟨ba, 5, none⟩ = some (.int .i64 hv) := cell_at xa gak
            have hrx : wr.heap.size < wx.heap.size := (Array.getElem?_eq_some_iff.1 h3).1
            have m0 : w.heap.size < wx.heap.size := Nat.lt_of_lt_of_le n0 hBa.size
            have m9 : w1.heap.size < wx.heap.size := Nat.lt_of_lt_of_le n9 hBa.size
            have ma : ba < wx.heap.size := Nat.lt_of_lt_of_le na hBa.size
            have b0 : wx.cell? ⟨w.heap.size, 0, none⟩ = some (.int .i64 (c.r 0)) := cell_at x0 rfl
            have b1 : wx.cell? ⟨w.heap.size, 1, none⟩ = some (.int .i64 (c.r 1)) := cell_at x0 rfl
            have b2 : wx.cell? ⟨w.heap.size, 2, none⟩ = some (.int .i64 (c.r 2)) := cell_at x0 rfl
            have b3 : wx.cell? ⟨w.heap.size, 3, none⟩ = some (.int .i64 (c.r 3)) := cell_at x0 rfl
            have b4 : wx.cell? ⟨w.heap.size, 4, none⟩ = some (.int .i64 (c.r 4)) := cell_at x0 rfl
            have b5 : wx.cell? ⟨w.heap.size, 5, none⟩ = some (.int .i64 (c.r 5)) := cell_at x0 rfl
            have b6 : wx.cell? ⟨w.heap.size, 6, none⟩ = some (.int .i64 c.free) := cell_at x0 rfl
            have b7 : wx.cell? ⟨w.heap.size, 7, none⟩ = some (.int .i64 c.bonus) := cell_at x0 rfl
            have b8 : wx.cell? ⟨w.heap.size, 8, none⟩ = some (.int .i64 c.pen) := cell_at x0 rfl
            have X0 := Lib.hid x0
            have X1 := Lib.hid x1
            have X9 := Lib.hid x9'
            have XA := Lib.hid xa
            clear x0 x1 x9' xa hBa h3 hg3 g0 g1 g9 ga hB gak
            go_wp2
            refine wp_region_splitG 11 (by kernel_rfl) (by kernel_rfl) ?_
            simp only [List.take_succ_cons, List.take_zero, List.drop_succ_cons, List.drop_zero]
            repeat (go_big_quiet_step ((first | (go_at_call 160; exact Calls.gw_of (c160 c _)))))
            refine wpQuiet_nil (gw_out ?_)
            intro w7 hb7
            have hB7 := hBx.call hb7 rfl
            have k0 := (hb7.block _ (Array.getElem?_eq_some_iff.1 X0.out).1).trans X0.out
            have k1 := (hb7.block _ (Array.getElem?_eq_some_iff.1 X1.out).1).trans X1.out
            have k9 := (hb7.block _ (Array.getElem?_eq_some_iff.1 X9.out).1).trans X9.out
            have ka := (hb7.block _ (Array.getElem?_eq_some_iff.1 XA.out).1).trans XA.out
            have pf9 : w7.frozen? ⟨w1.heap.size, 5, none⟩ = false := free_at k9
            have pc9 : w7.cell? ⟨w1.heap.size, 5, none⟩ = some (.int .i64 (Mo.upto pf 5 5)) := cell_at k9 rfl
            have f0 : Hid ((w7.setCell ⟨w1.heap.size, 5, none⟩ (.int .i64 (hv * c.r 5))).heap[w.heap.size]? = some (Obj.cells #[.int .i64 (c.r 0), .int .i64 (c.r 1), .int .i64 (c.r 2), .int .i64 (c.r 3), .int .i64 (c.r 4), .int .i64 (c.r 5), .int .i64 c.free, .int .i64 c.bonus, .int .i64 c.pen] 130)) := by show _ = _; rw [set_far _ (by simp; omega)]; exact k0
            have f1 : Hid ((w7.setCell ⟨w1.heap.size, 5, none⟩ (.int .i64 (hv * c.r 5))).heap[w.heap.size + 1]? = some (Obj.cells #[.int .i64 0, .int .i64 0, .int .i64 0, .int .i64 0, .int .i64 0, .int .i64 0, .int .i64 0, .int .i64 0] 91)) := by show _ = _; rw [set_far _ (by simp; omega)]; exact k1
            have f9 : Hid ((w7.setCell ⟨w1.heap.size, 5, none⟩ (.int .i64 (hv * c.r 5))).heap[w1.heap.size]? = some (Obj.cells (Inv.mk (Mo.upto pf (5 + 1)) 0 0).arr 91)) := by show _ = _; rw [set_blk k9, hus.out]
            have fa : Hid ((w7.setCell ⟨w1.heap.size, 5, none⟩ (.int .i64 (hv * c.r 5))).heap[ba]? = some (Obj.cells (arr6 Hf) 85)) := by show _ = _; rw [set_far _ (by simp; omega)]; exact ka
            have hB8 := hB7.setCell (p := ⟨w1.heap.size, 5, none⟩) (by show w.heap.size ≤ w1.heap.size; omega) (.int .i64 (hv * c.r 5))
            clear k0 k1 k9 ka X0 X1 X9 XA hb7 hus
            go_wp2
            go_roundw
            case rel => exact ⟨6, by omega, rfl, hB8, f0.out, f1.out, f9.out, fa.out⟩
            case measure => simp [intOf]
        · obtain rfl : k = 6 := by omega
          have g9' : wr.heap[w1.heap.size]? = some (Obj.cells (Inv.mk pf 0 0).arr 91) := by rw [← Mo.arr_upto]; exact g9
          have v0 : wr.cell? ⟨w1.heap.size, 0, none⟩ = some (.int .i64 (pf 0)) := cell_at g9' rfl
          have v1 : wr.cell? ⟨w1.heap.size, 1, none⟩ = some (.int .i64 (pf 1)) := cell_at g9' rfl
          have v2 : wr.cell? ⟨w1.heap.size, 2, none⟩ = some (.int .i64 (pf 2)) := cell_at g9' rfl
          have v3 : wr.cell? ⟨w1.heap.size, 3, none⟩ = some (.int .i64 (pf 3)) := cell_at g9' rfl
          have v4 : wr.cell? ⟨w1.heap.size, 4, none⟩ = some (.int .i64 (pf 4)) := cell_at g9' rfl
          have v5 : wr.cell? ⟨w1.heap.size, 5, none⟩ = some (.int .i64 (pf 5)) := cell_at g9' rfl
          have v6 : wr.cell? ⟨w1.heap.size, 6, none⟩ = some (.int .i64 0) := cell_at g9' rfl
          have v7 : wr.cell? ⟨w1.heap.size, 7, none⟩ = some (.int .i64 0) := cell_at g9' rfl
          have b0 : wr.cell? ⟨w.heap.size, 0, none⟩ = some (.int .i64 (c.r 0)) := cell_at g0 rfl
          have b1 : wr.cell? ⟨w.heap.size, 1, none⟩ = some (.int .i64 (c.r 1)) := cell_at g0 rfl
          have b2 : wr.cell? ⟨w.heap.size, 2, none⟩ = some (.int .i64 (c.r 2)) := cell_at g0 rfl
          have b3 : wr.cell? ⟨w.heap.size, 3, none⟩ = some (.int .i64 (c.r 3)) := cell_at g0 rfl
          have b4 : wr.cell? ⟨w.heap.size, 4, none⟩ = some (.int .i64 (c.r 4)) := cell_at g0 rfl
          have b5 : wr.cell? ⟨w.heap.size, 5, none⟩ = some (.int .i64 (c.r 5)) := cell_at g0 rfl
          have b6 : wr.cell? ⟨w.heap.size, 6, none⟩ = some (.int .i64 c.free) := cell_at g0 rfl
          have b7 : wr.cell? ⟨w.heap.size, 7, none⟩ = some (.int .i64 c.bonus) := cell_at g0 rfl
          have b8 : wr.cell? ⟨w.heap.size, 8, none⟩ = some (.int .i64 c.pen) := cell_at g0 rfl
          have HXX := Lib.hid (HX wr hB HPc.out)
          have G1 := Lib.hid g1
          clear g0 g1 g9 ga g9' HPc HPB HX hpe
          go_wp2_with fail
          refine HXX.out.out.mono ?_
          rintro e w8 ⟨rfl, hb8⟩
          have hB8 := hB.call hb8 rfl
          have hz8 := (hb8.block _ n1).trans G1.out
          clear HXX G1 hb8
          go_wp2_with (refine wpList_store_blk rfl 91 _ _ rfl (w.heap.size + 1) _ rfl rfl hz8 ?s1 ?s2 ?s3 ?_)
          case s1 => rfl
          case s2 => kernel_rfl
          case s3 => simp [Value.oneCell', Inv.arr]
          intro w3 h3 hg3 hs3
          have hB9 : Below w.heap.size w w3 := hB8.grown hg3 hB8.size (fun j hj => by cases hj; omega)
          go_wp2
          exact bodyPost_ret (results_blk_tmp rfl rfl h3 _ Tryz.underlying91 rfl (by kernel_rfl)) rfl ⟨by rw [hfin.out]; rfl, hB9⟩
    · have hA : Hid (arr6 Hf = #[.int .i64 (V 0), .int .i64 (V 1), .int .i64 (0), .int .i64 (V 3), .int .i64 (V 4), .int .i64 (V 5)]) := by show _ = _; rw [← hh2'.out, show max 0 (V 2 - c.free) = 0 by omega]; rfl
      have q2 : (w2.alloc (Obj.cells #[.int .i64 (V 0), .int .i64 (V 1), .int .i64 (V 2), .int .i64 (V 3), .int .i64 (V 4), .int .i64 (V 5)] 85)).cell? ⟨w2.heap.size, 2, none⟩ = some (.int .i64 (V 2)) := cell_at (heap_new rfl) rfl
      have qf : (w2.alloc (Obj.cells #[.int .i64 (V 0), .int .i64 (V 1), .int .i64 (V 2), .int .i64 (V 3), .int .i64 (V 4), .int .i64 (V 5)] 85)).frozen? ⟨w2.heap.size, 2, none⟩ = false := free_at (heap_new rfl)
      have q6 : (w2.alloc (Obj.cells #[.int .i64 (V 0), .int .i64 (V 1), .int .i64 (V 2), .int .i64 (V 3), .int .i64 (V 4), .int .i64 (V 5)] 85)).cell? ⟨w.heap.size, 6, none⟩ = some (.int .i64 c.free) := cell_at (heap_old (by omega) T0.out) rfl
      obtain ⟨W4, hW4⟩ : ∃ W4, W4 = w2.alloc (Obj.cells #[.int .i64 (V 0), .int .i64 (V 1), .int .i64 (0), .int .i64 (V 3), .int .i64 (V 4), .int .i64 (V 5)] 85) := ⟨_, rfl⟩
      obtain ⟨ba, hba⟩ : ∃ ba, ba = w2.heap.size := ⟨_, rfl⟩
      have hb4 : Below w2.heap.size w2 W4 := by rw [hW4]; exact (Below.refl _ _).alloc (Nat.le_refl _) _
      have hB4 := hB3.call hb4 rfl
      have t0 := (hb4.block _ (by omega)).trans T0.out
      have t1 := (hb4.block _ (by omega)).trans T1.out
      have t9 := (hb4.block _ x9).trans T9.out
      have ta : W4.heap[ba]? = some (Obj.cells (arr6 Hf) 85) := by rw [hW4, hba, hA.out]; exact heap_new rfl
      have hxa : w1.heap.size < ba := by rw [hba]; exact x9
      clear hb4 hA
      go_wp2_with fail
      rw [← hW4, ← hba]
      clear hW4 hba q2 qf q6
      refine (c123 _).mono ?_
      rintro e w5 ⟨rfl, hb5⟩
      have hB5 := hB4.call hb5 rfl
      have s0 := (hb5.block _ (Array.getElem?_eq_some_iff.1 t0).1).trans t0
      have s1 := (hb5.block _ (Array.getElem?_eq_some_iff.1 t1).1).trans t1
      have s9 : w5.heap[w1.heap.size]? = some (Obj.cells (Inv.mk (Mo.upto pf 0) 0 0).arr 91) := (hb5.block _ (Array.getElem?_eq_some_iff.1 t9).1).trans t9
      have sa := (hb5.block _ (Array.getElem?_eq_some_iff.1 ta).1).trans ta
      have S0 := Lib.hid s0
      have S1 := Lib.hid s1
      have S9 := Lib.hid s9
      have SA := Lib.hid sa
      clear t0 t1 t9 ta s0 s1 s9 sa hb5 hB4
      go_wp2
      go_loopw [31] (fun i wr => ∃ k : Nat, k ≤ 6 ∧ i = .int .i64 k ∧ Below w.heap.size w wr ∧ wr.heap[w.heap.size]? = some (Obj.cells #[.int .i64 (c.r 0), .int .i64 (c.r 1), .int .i64 (c.r 2), .int .i64 (c.r 3), .int .i64 (c.r 4), .int .i64 (c.r 5), .int .i64 c.free, .int .i64 c.bonus, .int .i64 c.pen] 130) ∧ wr.heap[w.heap.size + 1]? = some (Obj.cells #[.int .i64 0, .int .i64 0, .int .i64 0, .int .i64 0, .int .i64 0, .int .i64 0, .int .i64 0, .int .i64 0] 91) ∧ wr.heap[w1.heap.size]? = some (Obj.cells (Inv.mk (Mo.upto pf k) 0 0).arr 91) ∧ wr.heap[ba]? = some (Obj.cells (arr6 Hf) 85)) (fun i _ => 6 - (intOf i).toNat)
      case atStart => exact ⟨0, Nat.zero_le _, rfl, hB5, S0.out, S1.out, S9.out, SA.out⟩
      case round =>
        clear hB5 S0 S1 S9 SA hB3
        obtain ⟨k, hk, rfl, hB, g0, g1, g9, ga⟩ := hrel
        have n0 : w.heap.size < wr.heap.size := (Array.getElem?_eq_some_iff.1 g0).1
        have n1 : w.heap.size + 1 < wr.heap.size := (Array.getElem?_eq_some_iff.1 g1).1
        have n9 : w1.heap.size < wr.heap.size := (Array.getElem?_eq_some_iff.1 g9).1
        have na : ba < wr.heap.size := (Array.getElem?_eq_some_iff.1 ga).1
        by_cases hlt : k < 6
        · rcases (show k = 0 ∨ k = 1 ∨ k = 2 ∨ k = 3 ∨ k = 4 ∨ k = 5 by omega) with rfl | rfl | rfl | rfl | rfl | rfl
          · have hix := idxR0 wr
            have hus : Hid ((Inv.mk (Mo.upto pf 0) 0 0).arr.setIfInBounds 0 (.int .i64 (Hf 0 * c.r 0)) = (Inv.mk (Mo.upto pf (0 + 1)) 0 0).arr) := by
              show _ = _
              rw [Inv.setc _ 0 (by decide), ← (hpe 0).out, ← Mo.upto_succ pf 0]
            have hpb := HPB.out 0 (by decide)
            obtain ⟨hv, hhv⟩ : ∃ hv, hv = Hf 0 := ⟨_, rfl⟩
            have gak : (arr6 Hf)[0]? = some (.int .i64 hv) := by rw [hhv]; rfl
            rw [← hhv] at hus hpb
            clear hhv
            go_wp2_with (refine wpList_store_blk rfl 206 _ _ rfl wr.heap.size _ rfl rfl (heap_new rfl) ?s1 ?s2 ?s3 ?_)
            case s1 => rfl
            case s2 => kernel_rfl
            case s3 => simp [Value.oneCell']
            intro wx h3 hg3 hs3
            have hBa : Below wr.heap.size wr wx := ((show Below wr.heap.size wr (wr.alloc _) from (Below.refl _ _).alloc (Nat.le_refl _) _)).grown hg3 (by simp) (fun j hj => by cases hj; exact Nat.le_refl _)
            have x0 := (hBa.block _ n0).trans g0
            have x1 := (hBa.block _ n1).trans g1
            have x9' := (hBa.block _ n9).trans g9
            have xa := (hBa.block _ na).trans ga
            have hBx := hB.call hBa rfl
            have hf1 : wx.cell? ⟨wr.heap.size, 1, none⟩ = some (.func (.func 155) #[] #[]) := cell_at h3 rfl
            have hfa : wx.cell? ⟨ba, 0, none⟩ = some (.int .i64 hv) := cell_at xa gak
            have hrx : wr.heap.size < wx.heap.size := (Array.getElem?_eq_some_iff.1 h3).1
            have m0 : w.heap.size < wx.heap.size := Nat.lt_of_lt_of_le n0 hBa.size
            have m9 : w1.heap.size < wx.heap.size := Nat.lt_of_lt_of_le n9 hBa.size
            have ma : ba < wx.heap.size := Nat.lt_of_lt_of_le na hBa.size
            have b0 : wx.cell? ⟨w.heap.size, 0, none⟩ = some (.int .i64 (c.r 0)) := cell_at x0 rfl
            have b1 : wx.cell? ⟨w.heap.size, 1, none⟩ = some (.int .i64 (c.r 1)) := cell_at x0 rfl
            have b2 : wx.cell? ⟨w.heap.size, 2, none⟩ = some (.int .i64 (c.r 2)) := cell_at x0 rfl
            have b3 : wx.cell? ⟨w.heap.size, 3, none⟩ = some (.int .i64 (c.r 3)) := cell_at x0 rfl
            have b4 : wx.cell? ⟨w.heap.size, 4, none⟩ = some (.int .i64 (c.r 4)) := cell_at x0 rfl
            have b5 : wx.cell? ⟨w.heap.size, 5, none⟩ = some (.int .i64 (c.r 5)) := cell_at x0 rfl
            have b6 : wx.cell? ⟨w.heap.size, 6, none⟩ = some (.int .i64 c.free) := cell_at x0 rfl
            have b7 : wx.cell? ⟨w.heap.size, 7, none⟩ = some (.int .i64 c.bonus) := cell_at x0 rfl
            have b8 : wx.cell? ⟨w.heap.size, 8, none⟩ = some (.int .i64 c.pen) := cell_at x0 rfl
            have X0 := Lib.hid x0
            have X1 := Lib.hid x1
            have X9 := Lib.hid x9'
            have XA := Lib.hid xa
            clear x0 x1 x9' xa hBa h3 hg3 g0 g1 g9 ga hB gak
            go_wp2
            refine wp_region_splitG 11 (by kernel_rfl) (by kernel_rfl) ?_
            simp only [List.take_succ_cons, List.take_zero, List.drop_succ_cons, List.drop_zero]
            repeat (go_big_quiet_step ((first | (go_at_call 155; exact Calls.gw_of (c155 c _)))))
            refine wpQuiet_nil (gw_out ?_)
            intro w7 hb7
            have hB7 := hBx.call hb7 rfl
            have k0 := (hb7.block _ (Array.getElem?_eq_some_iff.1 X0.out).1).trans X0.out
            have k1 := (hb7.block _ (Array.getElem?_eq_some_iff.1 X1.out).1).trans X1.out
            have k9 := (hb7.block _ (Array.getElem?_eq_some_iff.1 X9.out).1).trans X9.out
            have ka := (hb7.block _ (Array.getElem?_eq_some_iff.1 XA.out).1).trans XA.out
            have pf9 : w7.frozen? ⟨w1.heap.size, 0, none⟩ = false := free_at k9
            have pc9 : w7.cell? ⟨w1.heap.size, 0, none⟩ = some (.int .i64 (Mo.upto pf 0 0)) := cell_at k9 rfl
            have f0 : Hid ((w7.setCell ⟨w1.heap.size, 0, none⟩ (.int .i64 (hv * c.r 0))).heap[w.heap.size]? = some (Obj.cells #[.int .i64 (c.r 0), .int .i64 (c.r 1), .int .i64 (c.r 2), .int .i64 (c.r 3), .int .i64 (c.r 4), .int .i64 (c.r 5), .int .i64 c.free, .int .i64 c.bonus, .int .i64 c.pen] 130)) := by show _ = _; rw [set_far _ (by simp; omega)]; exact k0
            have f1 : Hid ((w7.setCell ⟨w1.heap.size, 0, none⟩ (.int .i64 (hv * c.r 0))).heap[w.heap.size + 1]? = some (Obj.cells #[.int .i64 0, .int .i64 0, .int .i64 0, .int .i64 0, .int .i64 0, .int .i64 0, .int .i64 0, .int .i64 0] 91)) := by show _ = _; rw [set_far _ (by simp; omega)]; exact k1
            have f9 : Hid ((w7.setCell ⟨w1.heap.size, 0, none⟩ (.int .i64 (hv * c.r 0))).heap[w1.heap.size]? = some (Obj.cells (Inv.mk (Mo.upto pf (0 + 1)) 0 0).arr 91)) := by show _ = _; rw [set_blk k9, hus.out]
            have fa : Hid ((w7.setCell ⟨w1.heap.size, 0, none⟩ (.int .i64 (hv * c.r 0))).heap[ba]? = some (Obj.cells (arr6 Hf) 85)) := by show _ = _; rw [set_far _ (by simp; omega)]; exact ka
            have hB8 := hB7.setCell (p := ⟨w1.heap.size, 0, none⟩) (by show w.heap.size ≤ w1.heap.size; omega) (.int .i64 (hv * c.r 0))
            clear k0 k1 k9 ka X0 X1 X9 XA hb7 hus
            go_wp2
            go_roundw
            case rel => exact ⟨1, by omega, rfl, hB8, f0.out, f1.out, f9.out, fa.out⟩
            case measure => simp [intOf]
          · have hix := idxR1 wr
            have hus : Hid ((Inv.mk (Mo.upto pf 1) 0 0).arr.setIfInBounds 1 (.int .i64 (Hf 1 * c.r 1)) = (Inv.mk (Mo.upto pf (1 + 1)) 0 0).arr) := by
              show _ = _
              rw [Inv.setc _ 1 (by decide), ← (hpe 1).out, ← Mo.upto_succ pf 1]
            have hpb := HPB.out 1 (by decide)
            obtain ⟨hv, hhv⟩ : ∃ hv, hv = Hf 1 := ⟨_, rfl⟩
            have gak : (arr6 Hf)[1]? = some (.int .i64 hv) := by rw [hhv]; rfl
            rw [← hhv] at hus hpb
            clear hhv
            go_wp2_with (refine wpList_store_blk rfl 206 _ _ rfl wr.heap.size _ rfl rfl (heap_new rfl) ?s1 ?s2 ?s3 ?_)
            case s1 => rfl
            case s2 => kernel_rfl
            case s3 => simp [Value.oneCell']
            intro wx h3 hg3 hs3
            have hBa : Below wr.heap.size wr wx := ((show Below wr.heap.size wr (wr.alloc _) from (Below.refl _ _).alloc (Nat.le_refl _) _)).grown hg3 (by simp) (fun j hj => by cases hj; exact Nat.le_refl _)
            have x0 := (hBa.block _ n0).trans g0
            have x1 := (hBa.block _ n1).trans g1
            have x9' := (hBa.block _ n9).trans g9
            have xa := (hBa.block _ na).trans ga
            have hBx := hB.call hBa rfl
            have hf1 : wx.cell? ⟨wr.heap.size, 1, none⟩ = some (.func (.func 156) #[] #[]) := cell_at h3 rfl
            have hfa : wx.cell? ⟨ba, 1, none⟩ = some (.int .i64 hv) := cell_at xa gak
            have hrx : wr.heap.size < wx.heap.size := (Array.getElem?_eq_some_iff.1 h3).1
            have m0 : w.heap.size < wx.heap.size := Nat.lt_of_lt_of_le n0 hBa.size
            have m9 : w1.heap.size < wx.heap.size := Nat.lt_of_lt_of_le n9 hBa.size
            have ma : ba < wx.heap.size := Nat.lt_of_lt_of_le na hBa.size
            have b0 : wx.cell? ⟨w.heap.size, 0, none⟩ = some (.int .i64 (c.r 0)) := cell_at x0 rfl
            have b1 : wx.cell? ⟨w.heap.size, 1, none⟩ = some (.int .i64 (c.r 1)) := cell_at x0 rfl
            have b2 : wx.cell? ⟨w.heap.size, 2, none⟩ = some (.int .i64 (c.r 2)) := cell_at x0 rfl
            have b3 : wx.cell? ⟨w.heap.size, 3, none⟩ = some (.int .i64 (c.r 3)) := cell_at x0 rfl
            have b4 : wx.cell? ⟨w.heap.size, 4, none⟩ = some (.int .i64 (c.r 4)) := cell_at x0 rfl
            have b5 : wx.cell? ⟨w.heap.size, 5, none⟩ = some (.int .i64 (c.r 5)) := cell_at x0 rfl
            have b6 : wx.cell? ⟨w.heap.size, 6, none⟩ = some (.int .i64 c.free) := cell_at x0 rfl
            have b7 : wx.cell? ⟨w.heap.size, 7, none⟩ = some (.int .i64 c.bonus) := cell_at x0 rfl
            have b8 : wx.cell? ⟨w.heap.size, 8, none⟩ = some (.int .i64 c.pen) := cell_at x0 rfl
            have X0 := Lib.hid x0
            have X1 := Lib.hid x1
            have X9 := Lib.hid x9'
            have XA := Lib.hid xa
            clear x0 x1 x9' xa hBa h3 hg3 g0 g1 g9 ga hB gak
            go_wp2
            refine wp_region_splitG 11 (by kernel_rfl) (by kernel_rfl) ?_
            simp only [List.take_succ_cons, List.take_zero, List.drop_succ_cons, List.drop_zero]
            repeat (go_big_quiet_step ((first | (go_at_call 156; exact Calls.gw_of (c156 c _)))))
            refine wpQuiet_nil (gw_out ?_)
            intro w7 hb7
            have hB7 := hBx.call hb7 rfl
            have k0 := (hb7.block _ (Array.getElem?_eq_some_iff.1 X0.out).1).trans X0.out
            have k1 := (hb7.block _ (Array.getElem?_eq_some_iff.1 X1.out).1).trans X1.out
            have k9 := (hb7.block _ (Array.getElem?_eq_some_iff.1 X9.out).1).trans X9.out
            have ka := (hb7.block _ (Array.getElem?_eq_some_iff.1 XA.out).1).trans XA.out
            have pf9 : w7.frozen? ⟨w1.heap.size, 1, none⟩ = false := free_at k9
            have pc9 : w7.cell? ⟨w1.heap.size, 1, none⟩ = some (.int .i64 (Mo.upto pf 1 1)) := cell_at k9 rfl
            have f0 : Hid ((w7.setCell ⟨w1.heap.size, 1, none⟩ (.int .i64 (hv * c.r 1))).heap[w.heap.size]? = some (Obj.cells #[.int .i64 (c.r 0), .int .i64 (c.r 1), .int .i64 (c.r 2), .int .i64 (c.r 3), .int .i64 (c.r 4), .int .i64 (c.r 5), .int .i64 c.free, .int .i64 c.bonus, .int .i64 c.pen] 130)) := by show _ = _; rw [set_far _ (by simp; omega)]; exact k0
            have f1 : Hid ((w7.setCell ⟨w1.heap.size, 1, none⟩ (.int .i64 (hv * c.r 1))).heap[w.heap.size + 1]? = some (Obj.cells #[.int .i64 0, .int .i64 0, .int .i64 0, .int .i64 0, .int .i64 0, .int .i64 0, .int .i64 0, .int .i64 0] 91)) := by show _ = _; rw [set_far _ (by simp; omega)]; exact k1
            have f9 : Hid ((w7.setCell ⟨w1.heap.size, 1, none⟩ (.int .i64 (hv * c.r 1))).heap[w1.heap.size]? = some (Obj.cells (Inv.mk (Mo.upto pf (1 + 1)) 0 0).arr 91)) := by show _ = _; rw [set_blk k9, hus.out]
            have fa : Hid ((w7.setCell ⟨w1.heap.size, 1, none⟩ (.int .i64 (hv * c.r 1))).heap[ba]? = some (Obj.cells (arr6 Hf) 85)) := by show _ = _; rw [set_far _ (by simp; omega)]; exact ka
            have hB8 := hB7.setCell (p := ⟨w1.heap.size, 1, none⟩) (by show w.heap.size ≤ w1.heap.size; omega) (.int .i64 (hv * c.r 1))
            clear k0 k1 k9 ka X0 X1 X9 XA hb7 hus
            go_wp2
            go_roundw
            case rel => exact ⟨2, by omega, rfl, hB8, f0.out, f1.out, f9.out, fa.out⟩
            case measure => simp [intOf]
          · have hix := idxR2 wr
            have hus : Hid ((Inv.mk (Mo.upto pf 2) 0 0).arr.setIfInBounds 2 (.int .i64 (Hf 2 * c.r 2)) = (Inv.mk (Mo.upto pf (2 + 1)) 0 0).arr) := by
              show _ = _
              rw [Inv.setc _ 2 (by decide), ← (hpe 2).out, ← Mo.upto_succ pf 2]
            have hpb := HPB.out 2 (by decide)
            obtain ⟨hv, hhv⟩ : ∃ hv, hv = Hf 2 := ⟨_, rfl⟩
            have gak : (arr6 Hf)[2]? = some (.int .i64 hv) := by rw [hhv]; rfl
            rw [← hhv] at hus hpb
            clear hhv
            go_wp2_with (refine wpList_store_blk rfl 206 _ _ rfl wr.heap.size _ rfl rfl (heap_new rfl) ?s1 ?s2 ?s3 ?_)
            case s1 => rfl
            case s2 => kernel_rfl
            case s3 => simp [Value.oneCell']
            intro wx h3 hg3 hs3
            have hBa : Below wr.heap.size wr wx := ((show Below wr.heap.size wr (wr.alloc _) from (Below.refl _ _).alloc (Nat.le_refl _) _)).grown hg3 (by simp) (fun j hj => by cases hj; exact Nat.le_refl _)
            have x0 := (hBa.block _ n0).trans g0
            have x1 := (hBa.block _ n1).trans g1
            have x9' := (hBa.block _ n9).trans g9
            have xa := (hBa.block _ na).trans ga
            have hBx := hB.call hBa rfl
            have hf1 : wx.cell? ⟨wr.heap.size, 1, none⟩ = some (.func (.func 157) #[] #[]) := cell_at h3 rfl
            have hfa : wx.cell? ⟨ba, 2, none⟩ = some (.int .i64 hv) := cell_at xa gak
            have hrx : wr.heap.size < wx.heap.size := (Array.getElem?_eq_some_iff.1 h3).1
            have m0 : w.heap.size < wx.heap.size := Nat.lt_of_lt_of_le n0 hBa.size
            have m9 : w1.heap.size < wx.heap.size := Nat.lt_of_lt_of_le n9 hBa.size
            have ma : ba < wx.heap.size := Nat.lt_of_lt_of_le na hBa.size
            have b0 : wx.cell? ⟨w.heap.size, 0, none⟩ = some (.int .i64 (c.r 0)) := cell_at x0 rfl
            have b1 : wx.cell? ⟨w.heap.size, 1, none⟩ = some (.int .i64 (c.r 1)) := cell_at x0 rfl
            have b2 : wx.cell? ⟨w.heap.size, 2, none⟩ = some (.int .i64 (c.r 2)) := cell_at x0 rfl
            have b3 : wx.cell? ⟨w.heap.size, 3, none⟩ = some (.int .i64 (c.r 3)) := cell_at x0 rfl
            have b4 : wx.cell? ⟨w.heap.size, 4, none⟩ = some (.int .i64 (c.r 4)) := cell_at x0 rfl
            have b5 : wx.cell? ⟨w.heap.size, 5, none⟩ = some (.int .i64 (c.r 5)) := cell_at x0 rfl
            have b6 : wx.cell? ⟨w.heap.size, 6, none⟩ = some (.int .i64 c.free) := cell_at x0 rfl
            have b7 : wx.cell? ⟨w.heap.size, 7, none⟩ = some (.int .i64 c.bonus) := cell_at x0 rfl
            have b8 : wx.cell? ⟨w.heap.size, 8, none⟩ = some (.int .i64 c.pen) := cell_at x0 rfl
            have X0 := Lib.hid x0
            have X1 := Lib.hid x1
            have X9 := Lib.hid x9'
            have XA := Lib.hid xa
            clear x0 x1 x9' xa hBa h3 hg3 g0 g1 g9 ga hB gak
            go_wp2
            refine wp_region_splitG 11 (by kernel_rfl) (by kernel_rfl) ?_
            simp only [List.take_succ_cons, List.take_zero, List.drop_succ_cons, List.drop_zero]
            repeat (go_big_quiet_step ((first | (go_at_call 157; exact Calls.gw_of (c157 c _)))))
            refine wpQuiet_nil (gw_out ?_)
            intro w7 hb7
            have hB7 := hBx.call hb7 rfl
            have k0 := (hb7.block _ (Array.getElem?_eq_some_iff.1 X0.out).1).trans X0.out
            have k1 := (hb7.block _ (Array.getElem?_eq_some_iff.1 X1.out).1).trans X1.out
            have k9 := (hb7.block _ (Array.getElem?_eq_some_iff.1 X9.out).1).trans X9.out
            have ka := (hb7.block _ (Array.getElem?_eq_some_iff.1 XA.out).1).trans XA.out
            have pf9 : w7.frozen? ⟨w1.heap.size, 2, none⟩ = false := free_at k9
            have pc9 : w7.cell? ⟨w1.heap.size, 2, none⟩ = some (.int .i64 (Mo.upto pf 2 2)) := cell_at k9 rfl
            have f0 : Hid ((w7.setCell ⟨w1.heap.size, 2, none⟩ (.int .i64 (hv * c.r 2))).heap[w.heap.size]? = some (Obj.cells #[.int .i64 (c.r 0), .int .i64 (c.r 1), .int .i64 (c.r 2), .int .i64 (c.r 3), .int .i64 (c.r 4), .int .i64 (c.r 5), .int .i64 c.free, .int .i64 c.bonus, .int .i64 c.pen] 130)) := by show _ = _; rw [set_far _ (by simp; omega)]; exact k0
            have f1 : Hid ((w7.setCell ⟨w1.heap.size, 2, none⟩ (.int .i64 (hv * c.r 2))).heap[w.heap.size + 1]? = some (Obj.cells #[.int .i64 0, .int .i64 0, .int .i64 0, .int .i64 0, .int .i64 0, .int .i64 0, .int .i64 0, .int .i64 0] 91)) := by show _ = _; rw [set_far _ (by simp; omega)]; exact k1
            have f9 : Hid ((w7.setCell ⟨w1.heap.size, 2, none⟩ (.int .i64 (hv * c.r 2))).heap[w1.heap.size]? = some (Obj.cells (Inv.mk (Mo.upto pf (2 + 1)) 0 0).arr 91)) := by show _ = _; rw [set_blk k9, hus.out]
            have fa : Hid ((w7.setCell ⟨w1.heap.size, 2, none⟩ (.int .i64 (hv * c.r 2))).heap[ba]? = some (Obj.cells (arr6 Hf) 85)) := by show _ = _; rw [set_far _ (by simp; omega)]; exact ka
            have hB8 := hB7.setCell (p := ⟨w1.heap.size, 2, none⟩) (by show w.heap.size ≤ w1.heap.size; omega) (.int .i64 (hv * c.r 2))
            clear k0 k1 k9 ka X0 X1 X9 XA hb7 hus
            go_wp2
            go_roundw
            case rel => exact ⟨3, by omega, rfl, hB8, f0.out, f1.out, f9.out, fa.out⟩
            case measure => simp [intOf]
          · have hix := idxR3 wr
            have hus : Hid ((Inv.mk (Mo.upto pf 3) 0 0).arr.setIfInBounds 3 (.int .i64 (Hf 3 * c.r 3)) = (Inv.mk (Mo.upto pf (3 + 1)) 0 0).arr) := by
              show _ = _
              rw [Inv.setc _ 3 (by decide), ← (hpe 3).out, ← Mo.upto_succ pf 3]
            have hpb := HPB.out 3 (by decide)
            obtain ⟨hv, hhv⟩ : ∃ hv, hv = Hf 3 := ⟨_, rfl⟩
            have gak : (arr6 Hf)[3]? = some (.int .i64 hv) := by rw [hhv]; rfl
            rw [← hhv] at hus hpb
            clear hhv
            go_wp2_with (refine wpList_store_blk rfl 206 _ _ rfl wr.heap.size _ rfl rfl (heap_new rfl) ?s1 ?s2 ?s3 ?_)
            case s1 => rfl
            case s2 => kernel_rfl
            case s3 => simp [Value.oneCell']
            intro wx h3 hg3 hs3
            have hBa : Below wr.heap.size wr wx := ((show Below wr.heap.size wr (wr.alloc _) from (Below.refl _ _).alloc (Nat.le_refl _) _)).grown hg3 (by simp) (fun j hj => by cases hj; exact Nat.le_refl _)
            have x0 := (hBa.block _ n0).trans g0
            have x1 := (hBa.block _ n1).trans g1
            have x9' := (hBa.block _ n9).trans g9
            have xa := (hBa.block _ na).trans ga
            have hBx := hB.call hBa rfl
            have hf1 : wx.cell? ⟨wr.heap.size, 1, none⟩ = some (.func (.func 158) #[] #[]) := cell_at h3 rfl
            have hfa : wx.cell? ⟨ba, 3, none⟩ = some (.int .i64 hv) := cell_at xa gak
            have hrx : wr.heap.size < wx.heap.size := (Array.getElem?_eq_some_iff.1 h3).1
            have m0 : w.heap.size < wx.heap.size := Nat.lt_of_lt_of_le n0 hBa.size
            have m9 : w1.heap.size < wx.heap.size := Nat.lt_of_lt_of_le n9 hBa.size
            have ma : ba < wx.heap.size := Nat.lt_of_lt_of_le na hBa.size
            have b0 : wx.cell? ⟨w.heap.size, 0, none⟩ = some (.int .i64 (c.r 0)) := cell_at x0 rfl
            have b1 : wx.cell? ⟨w.heap.size, 1, none⟩ = some (.int .i64 (c.r 1)) := cell_at x0 rfl
            have b2 : wx.cell? ⟨w.heap.size, 2, none⟩ = some (.int .i64 (c.r 2)) := cell_at x0 rfl
            have b3 : wx.cell? ⟨w.heap.size, 3, none⟩ = some (.int .i64 (c.r 3)) := cell_at x0 rfl
            have b4 : wx.cell? ⟨w.heap.size, 4, none⟩ = some (.int .i64 (c.r 4)) := cell_at x0 rfl
            have b5 : wx.cell? ⟨w.heap.size, 5, none⟩ = some (.int .i64 (c.r 5)) := cell_at x0 rfl
            have b6 : wx.cell? ⟨w.heap.size, 6, none⟩ = some (.int .i64 c.free) := cell_at x0 rfl
            have b7 : wx.cell? ⟨w.heap.size, 7, none⟩ = some (.int .i64 c.bonus) := cell_at x0 rfl
            have b8 : wx.cell? ⟨w.heap.size, 8, none⟩ = some (.int .i64 c.pen) := cell_at x0 rfl
            have X0 := Lib.hid x0
            have X1 := Lib.hid x1
            have X9 := Lib.hid x9'
            have XA := Lib.hid xa
            clear x0 x1 x9' xa hBa h3 hg3 g0 g1 g9 ga hB gak
            go_wp2
            refine wp_region_splitG 11 (by kernel_rfl) (by kernel_rfl) ?_
            simp only [List.take_succ_cons, List.take_zero, List.drop_succ_cons, List.drop_zero]
            repeat (go_big_quiet_step ((first | (go_at_call 158; exact Calls.gw_of (c158 c _)))))
            refine wpQuiet_nil (gw_out ?_)
            intro w7 hb7
            have hB7 := hBx.call hb7 rfl
            have k0 := (hb7.block _ (Array.getElem?_eq_some_iff.1 X0.out).1).trans X0.out
            have k1 := (hb7.block _ (Array.getElem?_eq_some_iff.1 X1.out).1).trans X1.out
            have k9 := (hb7.block _ (Array.getElem?_eq_some_iff.1 X9.out).1).trans X9.out
            have ka := (hb7.block _ (Array.getElem?_eq_some_iff.1 XA.out).1).trans XA.out
            have pf9 : w7.frozen? ⟨w1.heap.size, 3, none⟩ = false := free_at k9
            have pc9 : w7.cell? ⟨w1.heap.size, 3, none⟩ = some (.int .i64 (Mo.upto pf 3 3)) := cell_at k9 rfl
            have f0 : Hid ((w7.setCell ⟨w1.heap.size, 3, none⟩ (.int .i64 (hv * c.r 3))).heap[w.heap.size]? = some (Obj.cells #[.int .i64 (c.r 0), .int .i64 (c.r 1), .int .i64 (c.r 2), .int .i64 (c.r 3), .int .i64 (c.r 4), .int .i64 (c.r 5), .int .i64 c.free, .int .i64 c.bonus, .int .i64 c.pen] 130)) := by show _ = _; rw [set_far _ (by simp; omega)]; exact k0
            have f1 : Hid ((w7.setCell ⟨w1.heap.size, 3, none⟩ (.int .i64 (hv * c.r 3))).heap[w.heap.size + 1]? = some (Obj.cells #[.int .i64 0, .int .i64 0, .int .i64 0, .int .i64 0, .int .i64 0, .int .i64 0, .int .i64 0, .int .i64 0] 91)) := by show _ = _; rw [set_far _ (by simp; omega)]; exact k1
            have f9 : Hid ((w7.setCell ⟨w1.heap.size, 3, none⟩ (.int .i64 (hv * c.r 3))).heap[w1.heap.size]? = some (Obj.cells (Inv.mk (Mo.upto pf (3 + 1)) 0 0).arr 91)) := by show _ = _; rw [set_blk k9, hus.out]
            have fa : Hid ((w7.setCell ⟨w1.heap.size, 3, none⟩ (.int .i64 (hv * c.r 3))).heap[ba]? = some (Obj.cells (arr6 Hf) 85)) := by show _ = _; rw [set_far _ (by simp; omega)]; exact ka
            have hB8 := hB7.setCell (p := ⟨w1.heap.size, 3, none⟩) (by show w.heap.size ≤ w1.heap.size; omega) (.int .i64 (hv * c.r 3))
            clear k0 k1 k9 ka X0 X1 X9 XA hb7 hus
            go_wp2
            go_roundw
            case rel => exact ⟨4, by omega, rfl, hB8, f0.out, f1.out, f9.out, fa.out⟩
            case measure => simp [intOf]
          · have hix := idxR4 wr
            have hus : Hid ((Inv.mk (Mo.upto pf 4) 0 0).arr.setIfInBounds 4 (.int .i64 (Hf 4 * c.r 4)) = (Inv.mk (Mo.upto pf (4 + 1)) 0 0).arr) := by
              show _ = _
              rw [Inv.setc _ 4 (by decide), ← (hpe 4).out, ← Mo.upto_succ pf 4]
            have hpb := HPB.out 4 (by decide)
            obtain ⟨hv, hhv⟩ : ∃ hv, hv = Hf 4 := ⟨_, rfl⟩
            have gak : (arr6 Hf)[4]? = some (.int .i64 hv) := by rw [hhv]; rfl
            rw [← hhv] at hus hpb
            clear hhv
            go_wp2_with (refine wpList_store_blk rfl 206 _ _ rfl wr.heap.size _ rfl rfl (heap_new rfl) ?s1 ?s2 ?s3 ?_)
            case s1 => rfl
            case s2 => kernel_rfl
            case s3 => simp [Value.oneCell']
            intro wx h3 hg3 hs3
            have hBa : Below wr.heap.size wr wx := ((show Below wr.heap.size wr (wr.alloc _) from (Below.refl _ _).alloc (Nat.le_refl _) _)).grown hg3 (by simp) (fun j hj => by cases hj; exact Nat.le_refl _)
            have x0 := (hBa.block _ n0).trans g0
            have x1 := (hBa.block _ n1).trans g1
            have x9' := (hBa.block _ n9).trans g9
            have xa := (hBa.block _ na).trans ga
            have hBx := hB.call hBa rfl
            have hf1 : wx.cell? ⟨wr.heap.size, 1, none⟩ = some (.func (.func 159) #[] #[]) := cell_at h3 rfl
            have hfa : wx.cell? ⟨ba, 4, none⟩ = some (.int .i64 hv) := cell_at xa gak
            have hrx : wr.heap.size < wx.heap.size := (Array.getElem?_eq_some_iff.1 h3).1
            have m0 : w.heap.size < wx.heap.size := Nat.lt_of_lt_of_le n0 hBa.size
            have m9 : w1.heap.size < wx.heap.size := Nat.lt_of_lt_of_le n9 hBa.size
            have ma : ba < wx.heap.size := Nat.lt_of_lt_of_le na hBa.size
            have b0 : wx.cell? ⟨w.heap.size, 0, none⟩ = some (.int .i64 (c.r 0)) := cell_at x0 rfl
            have b1 : wx.cell? ⟨w.heap.size, 1, none⟩ = some (.int .i64 (c.r 1)) := cell_at x0 rfl
            have b2 : wx.cell? ⟨w.heap.size, 2, none⟩ = some (.int .i64 (c.r 2)) := cell_at x0 rfl
            have b3 : wx.cell? ⟨w.heap.size, 3, none⟩ = some (.int .i64 (c.r 3)) := cell_at x0 rfl
            have b4 : wx.cell? ⟨w.heap.size, 4, none⟩ = some (.int .i64 (c.r 4)) := cell_at x0 rfl
            have b5 : wx.cell? ⟨w.heap.size, 5, none⟩ = some (.int .i64 (c.r 5)) := cell_at x0 rfl
            have b6 : wx.cell? ⟨w.heap.size, 6, none⟩ = some (.int .i64 c.free) := cell_at x0 rfl
            have b7 : wx.cell? ⟨w.heap.size, 7, none⟩ = some (.int .i64 c.bonus) := cell_at x0 rfl
            have b8 : wx.cell? ⟨w.heap.size, 8, none⟩ = some (.int .i64 c.pen) := cell_at x0 rfl
            have X0 := Lib.hid x0
            have X1 := Lib.hid x1
            have X9 := Lib.hid x9'
            have XA := Lib.hid xa
            clear x0 x1 x9' xa hBa h3 hg3 g0 g1 g9 ga hB gak
            go_wp2
            refine wp_region_splitG 11 (by kernel_rfl) (by kernel_rfl) ?_
            simp only [List.take_succ_cons, List.take_zero, List.drop_succ_cons, List.drop_zero]
            repeat (go_big_quiet_step ((first | (go_at_call 159; exact Calls.gw_of (c159 c _)))))
            refine wpQuiet_nil (gw_out ?_)
            intro w7 hb7
            have hB7 := hBx.call hb7 rfl
            have k0 := (hb7.block _ (Array.getElem?_eq_some_iff.1 X0.out).1).trans X0.out
            have k1 := (hb7.block _ (Array.getElem?_eq_some_iff.1 X1.out).1).trans X1.out
            have k9 := (hb7.block _ (Array.getElem?_eq_some_iff.1 X9.out).1).trans X9.out
            have ka := (hb7.block _ (Array.getElem?_eq_some_iff.1 XA.out).1).trans XA.out
            have pf9 : w7.frozen? ⟨w1.heap.size, 4, none⟩ = false := free_at k9
            have pc9 : w7.cell? ⟨w1.heap.size, 4, none⟩ = some (.int .i64 (Mo.upto pf 4 4)) := cell_at k9 rfl
            have f0 : Hid ((w7.setCell ⟨w1.heap.size, 4, none⟩ (.int .i64 (hv * c.r 4))).heap[w.heap.size]? = some (Obj.cells #[.int .i64 (c.r 0), .int .i64 (c.r 1), .int .i64 (c.r 2), .int .i64 (c.r 3), .int .i64 (c.r 4), .int .i64 (c.r 5), .int .i64 c.free, .int .i64 c.bonus, .int .i64 c.pen] 130)) := by show _ = _; rw [set_far _ (by simp; omega)]; exact k0
            have f1 : Hid ((w7.setCell ⟨w1.heap.size, 4, none⟩ (.int .i64 (hv * c.r 4))).heap[w.heap.size + 1]? = some (Obj.cells #[.int .i64 0, .int .i64 0, .int .i64 0, .int .i64 0, .int .i64 0, .int .i64 0, .int .i64 0, .int .i64 0] 91)) := by show _ = _; rw [set_far _ (by simp; omega)]; exact k1
            have f9 : Hid ((w7.setCell ⟨w1.heap.size, 4, none⟩ (.int .i64 (hv * c.r 4))).heap[w1.heap.size]? = some (Obj.cells (Inv.mk (Mo.upto pf (4 + 1)) 0 0).arr 91)) := by show _ = _; rw [set_blk k9, hus.out]
            have fa : Hid ((w7.setCell ⟨w1.heap.size, 4, none⟩ (.int .i64 (hv * c.r 4))).heap[ba]? = some (Obj.cells (arr6 Hf) 85)) := by show _ = _; rw [set_far _ (by simp; omega)]; exact ka
            have hB8 := hB7.setCell (p := ⟨w1.heap.size, 4, none⟩) (by show w.heap.size ≤ w1.heap.size; omega) (.int .i64 (hv * c.r 4))
            clear k0 k1 k9 ka X0 X1 X9 XA hb7 hus
            go_wp2
            go_roundw
            case rel => exact ⟨5, by omega, rfl, hB8, f0.out, f1.out, f9.out, fa.out⟩
            case measure => simp [intOf]
          · have hix := idxR5 wr
            have hus : Hid ((Inv.mk (Mo.upto pf 5) 0 0).arr.setIfInBounds 5 (.int .i64 (Hf 5 * c.r 5)) = (Inv.mk (Mo.upto pf (5 + 1)) 0 0).arr) := by
              show _ = _
              rw [Inv.setc _ 5 (by decide), ← (hpe 5).out, ← Mo.upto_succ pf 5]
            have hpb := HPB.out 5 (by decide)
            obtain ⟨hv, hhv⟩ : ∃ hv, hv = Hf 5 := ⟨_, rfl⟩
            have gak : (arr6 Hf)[5]? = some (.int .i64 hv) := by rw [hhv]; rfl
            rw [← hhv] at hus hpb
            clear hhv
            go_wp2_with (refine wpList_store_blk rfl 206 _ _ rfl wr.heap.size _ rfl rfl (heap_new rfl) ?s1 ?s2 ?s3 ?_)
            case s1 => rfl
            case s2 => kernel_rfl
            case s3 => simp [Value.oneCell']
            intro wx h3 hg3 hs3
            have hBa : Below wr.heap.size wr wx := ((show Below wr.heap.size wr (wr.alloc _) from (Below.refl _ _).alloc (Nat.le_refl _) _)).grown hg3 (by simp) (fun j hj => by cases hj; exact Nat.le_refl _)
            have x0 := (hBa.block _ n0).trans g0
            have x1 := (hBa.block _ n1).trans g1
            have x9' := (hBa.block _ n9).trans g9
            have xa := (hBa.block _ na).trans ga
            have hBx := hB.call hBa rfl
            have hf1 : wx.cell? ⟨wr.heap.size, 1, none⟩ = some (.func (.func 160) #[] #[]) := cell_at h3 rfl
            have hfa : wx.cell? ⟨ba, 5, none⟩ = some (.int .i64 hv) := cell_at xa gak
            have hrx : wr.heap.size < wx.heap.size := (Array.getElem?_eq_some_iff.1 h3).1
            have m0 : w.heap.size < wx.heap.size := Nat.lt_of_lt_of_le n0 hBa.size
            have m9 : w1.heap.size < wx.heap.size := Nat.lt_of_lt_of_le n9 hBa.size
            have ma : ba < wx.heap.size := Nat.lt_of_lt_of_le na hBa.size
            have b0 : wx.cell? ⟨w.heap.size, 0, none⟩ = some (.int .i64 (c.r 0)) := cell_at x0 rfl
            have b1 : wx.cell? ⟨w.heap.size, 1, none⟩ = some (.int .i64 (c.r 1)) := cell_at x0 rfl
            have b2 : wx.cell? ⟨w.heap.size, 2, none⟩ = some (.int .i64 (c.r 2)) := cell_at x0 rfl
            have b3 : wx.cell? ⟨w.heap.size, 3, none⟩ = some (.int .i64 (c.r 3)) := cell_at x0 rfl
            have b4 : wx.cell? ⟨w.heap.size, 4, none⟩ = some (.int .i64 (c.r 4)) := cell_at x0 rfl
            have b5 : wx.cell? ⟨w.heap.size, 5, none⟩ = some (.int .i64 (c.r 5)) := cell_at x0 rfl
            have b6 : wx.cell? ⟨w.heap.size, 6, none⟩ = some (.int .i64 c.free) := cell_at x0 rfl
            have b7 : wx.cell? ⟨w.heap.size, 7, none⟩ = some (.int .i64 c.bonus) := cell_at x0 rfl
            have b8 : wx.cell? ⟨w.heap.size, 8, none⟩ = some (.int .i64 c.pen) := cell_at x0 rfl
            have X0 := Lib.hid x0
            have X1 := Lib.hid x1
            have X9 := Lib.hid x9'
            have XA := Lib.hid xa
            clear x0 x1 x9' xa hBa h3 hg3 g0 g1 g9 ga hB gak
            go_wp2
            refine wp_region_splitG 11 (by kernel_rfl) (by kernel_rfl) ?_
            simp only [List.take_succ_cons, List.take_zero, List.drop_succ_cons, List.drop_zero]
            repeat (go_big_quiet_step ((first | (go_at_call 160; exact Calls.gw_of (c160 c _)))))
            refine wpQuiet_nil (gw_out ?_)
            intro w7 hb7
            have hB7 := hBx.call hb7 rfl
            have k0 := (hb7.block _ (Array.getElem?_eq_some_iff.1 X0.out).1).trans X0.out
            have k1 := (hb7.block _ (Array.getElem?_eq_some_iff.1 X1.out).1).trans X1.out
            have k9 := (hb7.block _ (Array.getElem?_eq_some_iff.1 X9.out).1).trans X9.out
            have ka := (hb7.block _ (Array.getElem?_eq_some_iff.1 XA.out).1).trans XA.out
            have pf9 : w7.frozen? ⟨w1.heap.size, 5, none⟩ = false := free_at k9
            have pc9 : w7.cell? ⟨w1.heap.size, 5, none⟩ = some (.int .i64 (Mo.upto pf 5 5)) := cell_at k9 rfl
            have f0 : Hid ((w7.setCell ⟨w1.heap.size, 5, none⟩ (.int .i64 (hv * c.r 5))).heap[w.heap.size]? = some (Obj.cells #[.int .i64 (c.r 0), .int .i64 (c.r 1), .int .i64 (c.r 2), .int .i64 (c.r 3), .int .i64 (c.r 4), .int .i64 (c.r 5), .int .i64 c.free, .int .i64 c.bonus, .int .i64 c.pen] 130)) := by show _ = _; rw [set_far _ (by simp; omega)]; exact k0
            have f1 : Hid ((w7.setCell ⟨w1.heap.size, 5, none⟩ (.int .i64 (hv * c.r 5))).heap[w.heap.size + 1]? = some (Obj.cells #[.int .i64 0, .int .i64 0, .int .i64 0, .int .i64 0, .int .i64 0, .int .i64 0, .int .i64 0, .int .i64 0] 91)) := by show _ = _; rw [set_far _ (by simp; omega)]; exact k1
            have f9 : Hid ((w7.setCell ⟨w1.heap.size, 5, none⟩ (.int .i64 (hv * c.r 5))).heap[w1.heap.size]? = some (Obj.cells (Inv.mk (Mo.upto pf (5 + 1)) 0 0).arr 91)) := by show _ = _; rw [set_blk k9, hus.out]
            have fa : Hid ((w7.setCell ⟨w1.heap.size, 5, none⟩ (.int .i64 (hv * c.r 5))).heap[ba]? = some (Obj.cells (arr6 Hf) 85)) := by show _ = _; rw [set_far _ (by simp; omega)]; exact ka
            have hB8 := hB7.setCell (p := ⟨w1.heap.size, 5, none⟩) (by show w.heap.size ≤ w1.heap.size; omega) (.int .i64 (hv * c.r 5))
            clear k0 k1 k9 ka X0 X1 X9 XA hb7 hus
            go_wp2
            go_roundw
            case rel => exact ⟨6, by omega, rfl, hB8, f0.out, f1.out, f9.out, fa.out⟩
            case measure => simp [intOf]
        · obtain rfl : k = 6 := by omega
          have g9' : wr.heap[w1.heap.size]? = some (Obj.cells (Inv.mk pf 0 0).arr 91) := by rw [← Mo.arr_upto]; exact g9
          have v0 : wr.cell? ⟨w1.heap.size, 0, none⟩ = some (.int .i64 (pf 0)) := cell_at g9' rfl
          have v1 : wr.cell? ⟨w1.heap.size, 1, none⟩ = some (.int .i64 (pf 1)) := cell_at g9' rfl
          have v2 : wr.cell? ⟨w1.heap.size, 2, none⟩ = some (.int .i64 (pf 2)) := cell_at g9' rfl
          have v3 : wr.cell? ⟨w1.heap.size, 3, none⟩ = some (.int .i64 (pf 3)) := cell_at g9' rfl
          have v4 : wr.cell? ⟨w1.heap.size, 4, none⟩ = some (.int .i64 (pf 4)) := cell_at g9' rfl
          have v5 : wr.cell? ⟨w1.heap.size, 5, none⟩ = some (.int .i64 (pf 5)) := cell_at g9' rfl
          have v6 : wr.cell? ⟨w1.heap.size, 6, none⟩ = some (.int .i64 0) := cell_at g9' rfl
          have v7 : wr.cell? ⟨w1.heap.size, 7, none⟩ = some (.int .i64 0) := cell_at g9' rfl
          have b0 : wr.cell? ⟨w.heap.size, 0, none⟩ = some (.int .i64 (c.r 0)) := cell_at g0 rfl
          have b1 : wr.cell? ⟨w.heap.size, 1, none⟩ = some (.int .i64 (c.r 1)) := cell_at g0 rfl
          have b2 : wr.cell? ⟨w.heap.size, 2, none⟩ = some (.int .i64 (c.r 2)) := cell_at g0 rfl
          have b3 : wr.cell? ⟨w.heap.size, 3, none⟩ = some (.int .i64 (c.r 3)) := cell_at g0 rfl
          have b4 : wr.cell? ⟨w.heap.size, 4, none⟩ = some (.int .i64 (c.r 4)) := cell_at g0 rfl
          have b5 : wr.cell? ⟨w.heap.size, 5, none⟩ = some (.int .i64 (c.r 5)) := cell_at g0 rfl
          have b6 : wr.cell? ⟨w.heap.size, 6, none⟩ = some (.int .i64 c.free) := cell_at g0 rfl
          have b7 : wr.cell? ⟨w.heap.size, 7, none⟩ = some (.int .i64 c.bonus) := cell_at g0 rfl
          have b8 : wr.cell? ⟨w.heap.size, 8, none⟩ = some (.int .i64 c.pen) := cell_at g0 rfl
          have HXX := Lib.hid (HX wr hB HPc.out)
          have G1 := Lib.hid g1
          clear g0 g1 g9 ga g9' HPc HPB HX hpe
          go_wp2_with fail
          refine HXX.out.out.mono ?_
          rintro e w8 ⟨rfl, hb8⟩
          have hB8 := hB.call hb8 rfl
          have hz8 := (hb8.block _ n1).trans G1.out
          clear HXX G1 hb8
          go_wp2_with (refine wpList_store_blk rfl 91 _ _ rfl (w.heap.size + 1) _ rfl rfl hz8 ?s1 ?s2 ?s3 ?_)
          case s1 => rfl
          case s2 => kernel_rfl
          case s3 => simp [Value.oneCell', Inv.arr]
          intro w3 h3 hg3 hs3
          have hB9 : Below w.heap.size w w3 := hB8.grown hg3 hB8.size (fun j hj => by cases hj; omega)
          go_wp2
          exact bodyPost_ret (results_blk_tmp rfl rfl h3 _ Tryz.underlying91 rfl (by kernel_rfl)) rfl ⟨by rw [hfin.out]; rfl, hB9⟩
  · have hE' : (Mo.bill c l rs != 0) = true := by simpa using hE
    have hbv : Mo.billV c l rs = Mo.zeroI := by unfold Mo.billV; rw [if_pos hE]
    rw [hbv]
    obtain ⟨E, hEe⟩ : ∃ E, E = Mo.bill c l rs := ⟨_, rfl⟩
    obtain ⟨n, hn⟩ : ∃ n, n = l.length := ⟨_, rfl⟩
    obtain ⟨m, hm⟩ : ∃ m, m = rs.length := ⟨_, rfl⟩
    rw [← hEe] at hE' HC ⊢
    rw [← hn] at HC ⊢
    rw [← hm] at HC ⊢
    clear hbv hEe hE hn hm H HG hle hrs hl hg hgc hgc2
    go_enter Tryz.func66, Tryz.ntmps66
    go_wp2_with fail
    rw [← hW]
    clear hW
    refine HC.out.mono ?_
    rintro e w1 ⟨rfl, hb1⟩
    have hB1 := hB0.call hb1 rfl
    have t1 := (hb1.block _ z1).trans hT1
    clear hb1 HC
    go_wp2_with (refine wpList_store_blk rfl 91 _ _ rfl (w.heap.size + 1) _ rfl rfl t1 ?s1 ?s2 ?s3 ?_)
    case s1 => rfl
    case s2 => kernel_rfl
    case s3 => simp [Value.oneCell', Inv.arr]
    intro w3 h3 hg3 hs3
    have hB9 : Below w.heap.size w w3 := hB1.grown hg3 hB1.size (fun j hj => by cases hj; omega)
    go_wp2
    exact bodyPost_ret (results_blk_tmp rfl rfl h3 _ Tryz.underlying91 rfl (by kernel_rfl)) rfl ⟨rfl, hB9⟩

end Go.Proofs.YtndhjkammoeikaaGreatDoor
