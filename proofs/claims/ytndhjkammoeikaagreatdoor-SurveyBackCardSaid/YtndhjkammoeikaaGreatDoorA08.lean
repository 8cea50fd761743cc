/- A part of the proofs about chapter 9: contracts of functions and plain laws (W41, W42, W43, Eq, Model16, W44, W45, Model17, W46). -/
import Derived.Laws.StructEq
import Derived.Test.YtndhjkammoeikaaGreatDoorA07
set_option linter.all false
namespace Go.Proofs.YtndhjkammoeikaaGreatDoor
open Go.RowKit
set_option maxHeartbeats 1000000
set_option maxRecDepth 20000

theorem c58 (A : Option Addr) (cap : Nat) (l : List Ent) (w : World) (hlen : l.length ≤ 64) (hok : ∀ e ∈ l, Mo.EOk e) (H : RdL w 3 Ent.enc A l) :
    Calls Tryz.prog 58 #[.slice A l.length cap] w fun en w' => en = .returned (hrsV l) ∧ Below w.heap.size w w' := by
  have hB0 : Below w.heap.size w ((w.alloc (Obj.cells #[.int .i64 0, .int .i64 0, .int .i64 0, .int .i64 0, .int .i64 0, .int .i64 0] 85)).alloc (Obj.cells #[.int .i64 0, .int .i64 0, .int .i64 0, .int .i64 0, .int .i64 0, .int .i64 0] 85)) := (((Below.refl _ _).alloc (by first | omega | (simp <;> omega)) _).alloc (by first | omega | (simp <;> omega)) _)
  have hz0 : ((w.alloc (Obj.cells #[.int .i64 0, .int .i64 0, .int .i64 0, .int .i64 0, .int .i64 0, .int .i64 0] 85)).alloc (Obj.cells #[.int .i64 0, .int .i64 0, .int .i64 0, .int .i64 0, .int .i64 0, .int .i64 0] 85)).heap[w.heap.size]? = some (.cells (arr6 fun _ => 0) 85 (0, 0)) := heap_old (by simp) (heap_new (by simp))
  have hz1 : ((w.alloc (Obj.cells #[.int .i64 0, .int .i64 0, .int .i64 0, .int .i64 0, .int .i64 0, .int .i64 0] 85)).alloc (Obj.cells #[.int .i64 0, .int .i64 0, .int .i64 0, .int .i64 0, .int .i64 0, .int .i64 0] 85)).heap[w.heap.size + 1]? = some (.cells (arr6 fun i => Mo.hrs (l.take 0) i) 85 (0, 0)) := heap_new (by simp)
  obtain ⟨n, hn⟩ : ∃ n, n = l.length := ⟨_, rfl⟩
  rw [← hn] at hlen ⊢
  have Hn := Lib.hid hn
  clear hn
  go_enter Tryz.func58, Tryz.ntmps58
  go_wp2
  go_loopw [4] (fun i wr => ∃ k : Nat, k ≤ n ∧ i = .int .i64 k ∧ Below w.heap.size w wr ∧ wr.heap[w.heap.size]? = some (.cells (arr6 fun _ => 0) 85 (0, 0)) ∧ wr.heap[w.heap.size + 1]? = some (.cells (arr6 fun i => Mo.hrs (l.take k) i) 85 (0, 0))) (fun i _ => n - (intOf i).toNat)
  case atStart => exact ⟨0, Nat.zero_le _, rfl, hB0, hz0, hz1⟩
  case round =>
    clear hz0 hz1 hB0
    obtain ⟨k, hk, rfl, hB, g0, g1⟩ := hrel
    by_cases hlt : k < n
    · obtain ⟨b, off, s, rfl, hx, hb, hc⟩ := (H.below hB).at Ent.len (by rw [← Hn.out]; exact hlt)
      have h0 : wr.cell? ⟨b, off + k * 3, none⟩ = some (.int .i64 s.f) := hc 0 (by omega)
      have h1 : wr.cell? ⟨b, off + k * 3 + 1, none⟩ = some (.int .i64 s.t) := hc 1 (by omega)
      have h2 : wr.cell? ⟨b, off + k * 3 + 2, none⟩ = some (.string s.c) := hc 2 (by omega)
      have hos := hok s (List.mem_of_getElem? hx)
      have hsb := hos.b
      obtain ⟨m, hm⟩ : ∃ m : Nat, Mo.num s.c = m := ⟨(Mo.num s.c).toNat, by have := hos.n; omega⟩
      have hm6 : m < 6 := by have := hos.n; omega
      have hstep := Lib.hid (arr6_step hx m hm hm6)
      have hbd := Mo.hrs_bd (l.take k) (fun e he => hok e (List.mem_of_mem_take he)) m
      have htl : (l.take k).length ≤ 64 := by rw [List.length_take, ← Hn.out]; omega
      have hgb0 : w.heap.size < wr.heap.size := (Array.getElem?_eq_some_iff.1 g0).1
      have hgb1 : w.heap.size + 1 < wr.heap.size := (Array.getElem?_eq_some_iff.1 g1).1
      clear hc hx hos
      go_wp2_with fail
      refine (c115 s.c _).mono ?_
      rintro e w1 ⟨rfl, hb1⟩
      rw [hm]
      have hB1 := fin0 hB hb1
      have p0 := (hb1.cell (p := ⟨b, _, none⟩) hb).trans h0
      have p1 := (hb1.cell (p := ⟨b, _, none⟩) hb).trans h1
      have k0 := (hb1.block _ hgb0).trans g0
      have k1 := (hb1.block _ hgb1).trans g1
      have pk : w1.cell? ⟨w.heap.size + 1, m, none⟩ = some (.int .i64 (Mo.hrs (l.take k) m)) := cell_at k1 (arr6_get _ m hm6)
      have pf : w1.frozen? ⟨w.heap.size + 1, m, none⟩ = false := free_at k1
      have hbw : b < w1.heap.size := Nat.lt_of_lt_of_le hb hb1.size
      have hz1 : w.heap.size + 1 < w1.heap.size := Nat.lt_of_lt_of_le hgb1 hb1.size
      have hm1 : (m : Int) < 6 := by omega
      have hstep' := hstep.out
      obtain ⟨q, hq⟩ : ∃ q, q = Mo.hrs (l.take k) m := ⟨_, rfl⟩
      rw [← hq] at pk hbd hstep'
      have HS := Lib.hid hstep'
      have hqb : 0 ≤ q ∧ q ≤ 6400000 := by omega
      have HK0 := Lib.hid k0
      have HK1 := Lib.hid k1
      clear h0 h1 h2 hb1 hstep hstep' hbd htl hq g0 g1 k0 k1
      go_wp2
      refine wp_region_splitG 19 (by kernel_rfl) (by kernel_rfl) ?_
      simp only [List.take_succ_cons, List.take_zero, List.drop_succ_cons, List.drop_zero]
      repeat (go_big_quiet_step ((first | fail)))
      refine wpQuiet_nil (gw_out ?_)
      intro w2 hb2
      have j0 := (hb2.block _ (Nat.lt_of_succ_lt hz1)).trans HK0.out
      have j1 := (hb2.block _ hz1).trans HK1.out
      have jf : w2.frozen? ⟨w.heap.size + 1, m, none⟩ = false := free_at j1
      have jc : w2.cell? ⟨w.heap.size + 1, m, none⟩ = some (.int .i64 q) := ((bcell hb2).1 _ _ hz1).trans pk
      have e0 : q + s.t - s.f = q + (s.t - s.f) := by omega
      have f1 : Hid ((w2.setCell ⟨w.heap.size + 1, m, none⟩ (.int .i64 (q + s.t - s.f))).heap[w.heap.size + 1]? = some (.cells (arr6 fun i => Mo.hrs (l.take (k + 1)) i) 85 (0, 0))) := by
        show _ = _
        rw [set_blk j1, e0, HS.out]
      have f0 : Hid ((w2.setCell ⟨w.heap.size + 1, m, none⟩ (.int .i64 (q + s.t - s.f))).heap[w.heap.size]? = some (.cells (arr6 fun _ => 0) 85 (0, 0))) := by
        show _ = _
        rw [set_far _ (by simp)]; exact j0
      have hB2 := (fin0 hB1 hb2).setCell (p := ⟨w.heap.size + 1, m, none⟩) (Nat.le_succ _) (.int .i64 (q + s.t - s.f))
      clear e0 j0 j1 hb2 HS HK0 HK1
      go_wp2
      go_roundw
      case rel => exact ⟨k + 1, by omega, by go_num, hB2, f0.out, f1.out⟩
      case measure => simp [intOf]; omega
    · obtain rfl : k = n := by omega
      rw [Hn.out, List.take_length] at g1
      obtain ⟨V, hV⟩ : ∃ V : Nat → Int, V = fun (i : Nat) => Mo.hrs l i := ⟨_, rfl⟩
      have hVV : Hid (hrsV l = .agg #[.int .i64 (V 0), .int .i64 (V 1), .int .i64 (V 2), .int .i64 (V 3), .int .i64 (V 4), .int .i64 (V 5)]) := by show _ = _; rw [hV]; rfl
      have g1' : wr.heap[w.heap.size + 1]? = some (.cells #[.int .i64 (V 0), .int .i64 (V 1), .int .i64 (V 2), .int .i64 (V 3), .int .i64 (V 4), .int .i64 (V 5)] 85 (0, 0)) := by rw [hV]; exact g1
      have c0 : wr.cell? ⟨w.heap.size + 1, 0, none⟩ = some (.int .i64 (V 0)) := cell_at g1' rfl
      have c1 : wr.cell? ⟨w.heap.size + 1, 1, none⟩ = some (.int .i64 (V 1)) := cell_at g1' rfl
      have c2 : wr.cell? ⟨w.heap.size + 1, 2, none⟩ = some (.int .i64 (V 2)) := cell_at g1' rfl
      have c3 : wr.cell? ⟨w.heap.size + 1, 3, none⟩ = some (.int .i64 (V 3)) := cell_at g1' rfl
      have c4 : wr.cell? ⟨w.heap.size + 1, 4, none⟩ = some (.int .i64 (V 4)) := cell_at g1' rfl
      have c5 : wr.cell? ⟨w.heap.size + 1, 5, none⟩ = some (.int .i64 (V 5)) := cell_at g1' rfl
      have hgb0 : w.heap.size < wr.heap.size := (Array.getElem?_eq_some_iff.1 g0).1
      have hgb1 : w.heap.size + 1 < wr.heap.size := (Array.getElem?_eq_some_iff.1 g1').1
      clear g1 g1' hV
      have hsz6 : (arr6 fun _ => 0).size = 6 := rfl
      go_wp2_with (refine wpList_store_blk rfl 85 _ _ rfl w.heap.size _ rfl rfl g0 ?s1 ?s2 ?s3 ?_)
      case s1 => exact hsz6
      case s2 => kernel_rfl
      case s3 => simp [Value.oneCell']
      intro w3 h3 hg3 hs3
      have hB3 : Below w.heap.size w w3 := hB.grown hg3 hB.size (fun j hj => by cases hj; exact Nat.le_refl _)
      go_wp2
      exact bodyPost_ret (results_blk rfl rfl h3 _ Tryz.underlying85 rfl (by kernel_rfl)) rfl ⟨by rw [hVV.out], hB3⟩

end Go.Proofs.YtndhjkammoeikaaGreatDoor
namespace Go.Proofs.YtndhjkammoeikaaGreatDoor
open Go.RowKit
set_option maxHeartbeats 1000000
set_option maxRecDepth 20000

theorem Nums.set {w : World} {b : Nat} (h : Nums w b) {p : Addr} (u : Value) (hp : p.block ≠ b) : Nums (w.setCell p u) b := by
  have hb := (Below.refl p.block w).setCell (Nat.le_refl _) u
  exact World.ownsMap.kept h (row := some p.block) ⟨hb.os, hb.tape, hb.output, hb.size, fun i hi hne => Below.heap_setCell w p u i (fun e => hne (by rw [e]))⟩ (by intro e; injection e with e; exact hp e.symm)
theorem c113 (A : Option Addr) (cap : Nat) (l : List Ent) (w : World) (hlen : l.length ≤ 64) (hok : ∀ e ∈ l, Mo.EOk e) (H : RdL w 3 Ent.enc A l) :
    Calls Tryz.prog 113 #[.slice A l.length cap] w fun en w' => en = .returned (hrsV l) ∧ Below w.heap.size w w' := by
  obtain ⟨n, hn⟩ : ∃ n, n = l.length := ⟨_, rfl⟩
  rw [← hn] at hlen ⊢
  have Hn := Lib.hid hn
  clear hn
  go_enter Tryz.func113, Tryz.ntmps113
  go_wp2_with fail
  refine (c117 _).mono ?_
  rintro e w1 ⟨b, rfl, hN, hbz, hb1⟩
  have hB1 := (show Below w.heap.size w (w.alloc (Obj.cells #[.int .i64 0, .int .i64 0, .int .i64 0, .int .i64 0, .int .i64 0, .int .i64 0] 85)) from (Below.refl _ _).alloc (Nat.le_refl _) _).call hb1 rfl
  have hz0 : w1.heap[w.heap.size]? = some (.cells (arr6 fun _ => 0) 85 (0, 0)) := (hb1.block _ (by simp)).trans (heap_new rfl)
  have hbl := hN.lt
  have hsz1 : w.heap.size < w1.heap.size := by have := hb1.size; simp at this; omega
  simp at hbz
  have hgw : Hid (Below w1.heap.size w1 (w1.alloc (Obj.cells #[.int .i64 0, .int .i64 0, .int .i64 0, .int .i64 0, .int .i64 0, .int .i64 0] 85))) := (Below.refl _ _).alloc (Nat.le_refl _) _
  have hB2 := hB1.call hgw.out rfl
  have hN2 := hN.below hgw.out
  have h0' := (hgw.out.block _ hsz1).trans hz0
  have h1' : (w1.alloc (Obj.cells #[.int .i64 0, .int .i64 0, .int .i64 0, .int .i64 0, .int .i64 0, .int .i64 0] 85)).heap[w1.heap.size]? = some (.cells (arr6 fun i => Mo.hrs (l.take 0) i) 85 (0, 0)) := heap_new rfl
  clear hz0 hb1 hN hB1 hgw
  go_wp2
  go_loopw [10] (fun i wr => ∃ k : Nat, k ≤ n ∧ i = .int .i64 k ∧ Below w.heap.size w wr ∧ wr.heap[w.heap.size]? = some (.cells (arr6 fun _ => 0) 85 (0, 0)) ∧ wr.heap[w1.heap.size]? = some (.cells (arr6 fun i => Mo.hrs (l.take k) i) 85 (0, 0)) ∧ Nums wr b) (fun i _ => n - (intOf i).toNat)
  case atStart => exact ⟨0, Nat.zero_le _, rfl, hB2, h0', h1', hN2⟩
  case round =>
    clear h0' h1' hB2 hN2
    obtain ⟨k, hk, rfl, hB, g0, g1, hN⟩ := hrel
    by_cases hlt : k < n
    · obtain ⟨bb, off, s, rfl, hx, hb, hc⟩ := (H.below hB).at Ent.len (by rw [← Hn.out]; exact hlt)
      have h0 : wr.cell? ⟨bb, off + k * 3, none⟩ = some (.int .i64 s.f) := hc 0 (by omega)
      have h1 : wr.cell? ⟨bb, off + k * 3 + 1, none⟩ = some (.int .i64 s.t) := hc 1 (by omega)
      have h2 : wr.cell? ⟨bb, off + k * 3 + 2, none⟩ = some (.string s.c) := hc 2 (by omega)
      have hos := hok s (List.mem_of_getElem? hx)
      have hsb := hos.b
      have hcz := Mo.num_size hos.n.1
      obtain ⟨m, hm⟩ : ∃ m : Nat, Mo.num s.c = m := ⟨(Mo.num s.c).toNat, by have := hos.n; omega⟩
      have hm6 : m < 6 := by have := hos.n; omega
      have hmz : Mo.numZ s.c = m := by unfold Mo.numZ; rw [hm, if_pos (by omega)]
      have hstep := Lib.hid (arr6_step hx m hm hm6)
      have hbd := Mo.hrs_bd (l.take k) (fun e he => hok e (List.mem_of_mem_take he)) m
      have htl : (l.take k).length ≤ 64 := by rw [List.length_take, ← Hn.out]; omega
      have hgb0 : w.heap.size < wr.heap.size := (Array.getElem?_eq_some_iff.1 g0).1
      have hgb1 : w1.heap.size < wr.heap.size := (Array.getElem?_eq_some_iff.1 g1).1
      obtain ⟨W1, hW1⟩ : ∃ W1, W1 = wr.alloc (Obj.cells #[.int .i64 s.f, .int .i64 s.t, .string s.c] 134) := ⟨_, rfl⟩
      obtain ⟨bx, hbx⟩ : ∃ bx, bx = wr.heap.size := ⟨_, rfl⟩
      have hBr : Below wr.heap.size wr W1 := by rw [hW1]; exact (Below.refl _ _).alloc (Nat.le_refl _) _
      have hT : W1.heap[bx]? = some (.cells #[.int .i64 s.f, .int .i64 s.t, .string s.c] 134 (0, 0)) := by rw [hW1, hbx]; exact heap_new (by simp)
      have hbxW : bx < W1.heap.size := by rw [hW1, hbx]; simp
      have a0 : W1.cell? ⟨bx, 0, none⟩ = some (.int .i64 s.f) := cell_at hT rfl
      have a1 : W1.cell? ⟨bx, 1, none⟩ = some (.int .i64 s.t) := cell_at hT rfl
      have a2 : W1.cell? ⟨bx, 2, none⟩ = some (.string s.c) := cell_at hT rfl
      have k0 := (hBr.block _ hgb0).trans g0
      have k1 := (hBr.block _ hgb1).trans g1
      have hNW := hN.below hBr
      have hBW := hB.call hBr rfl
      have hz0 : w.heap.size < W1.heap.size := Nat.lt_of_lt_of_le hgb0 hBr.size
      have hz1 : w1.heap.size < W1.heap.size := Nat.lt_of_lt_of_le hgb1 hBr.size
      have pk : W1.cell? ⟨w1.heap.size, m, none⟩ = some (.int .i64 (Mo.hrs (l.take k) m)) := cell_at k1 (arr6_get _ m hm6)
      have hm1 : (m : Int) < 6 := by omega
      have hstep' := hstep.out
      obtain ⟨q, hq⟩ : ∃ q, q = Mo.hrs (l.take k) m := ⟨_, rfl⟩
      rw [← hq] at pk hbd hstep'
      have HS := Lib.hid hstep'
      have hqb : 0 ≤ q ∧ q ≤ 6400000 := by omega
      have HK0 := Lib.hid k0
      have HK1 := Lib.hid k1
      have HNN := Lib.hid hNW
      have hlk : ∀ p : Go.GB, (Instr.lookup 194 (.map (some b)) (.string s.c) false).run Tryz.prog (Go.gw W1 p) = .ok (.int .i64 m) (Go.gw W1 p) := fun p => by
        rw [← hmz]; exact (HNN.out.below (Go.gw_below W1 p)).look s.c (by omega)
      clear hc hx hos hstep hstep' hbd htl hq g0 g1 k0 k1 hT hN hNW hBr hB
      go_wp2
      rw [← hW1, ← hbx]
      clear hW1 hbx
      refine wp_region_splitG 15 (by kernel_rfl) (by kernel_rfl) ?_
      simp only [List.take_succ_cons, List.take_zero, List.drop_succ_cons, List.drop_zero]
      repeat (go_big_quiet_step ((first | fail)))
      refine wpQuiet_nil (gw_out ?_)
      intro w2 hb2
      have j0 := (hb2.block _ hz0).trans HK0.out
      have j1 := (hb2.block _ hz1).trans HK1.out
      have jf : w2.frozen? ⟨w1.heap.size, m, none⟩ = false := free_at j1
      have jc : w2.cell? ⟨w1.heap.size, m, none⟩ = some (.int .i64 q) := ((bcell hb2).1 _ _ hz1).trans pk
      have f1 : Hid ((w2.setCell ⟨w1.heap.size, m, none⟩ (.int .i64 (q + (s.t - s.f)))).heap[w1.heap.size]? = some (.cells (arr6 fun i => Mo.hrs (l.take (k + 1)) i) 85 (0, 0))) := by
        show _ = _
        rw [set_blk j1, HS.out]
      have f0 : Hid ((w2.setCell ⟨w1.heap.size, m, none⟩ (.int .i64 (q + (s.t - s.f)))).heap[w.heap.size]? = some (.cells (arr6 fun _ => 0) 85 (0, 0))) := by
        show _ = _
        rw [set_far _ (by simp; omega)]; exact j0
      have fN := Lib.hid (Nums.set (HNN.out.below hb2) (p := ⟨w1.heap.size, m, none⟩) (.int .i64 (q + (s.t - s.f))) (by show w1.heap.size ≠ b; omega))
      have hB2 := (hBW.call hb2 rfl).setCell (p := ⟨w1.heap.size, m, none⟩) (by show w.heap.size ≤ w1.heap.size; omega) (.int .i64 (q + (s.t - s.f)))
      clear j0 j1 hb2 HS HK0 HK1 HNN hlk
      go_wp2
      go_roundw
      case rel => exact ⟨k + 1, by omega, by go_num, hB2, f0.out, f1.out, fN.out⟩
      case measure => simp [intOf]; omega
    · obtain rfl : k = n := by omega
      rw [Hn.out, List.take_length] at g1
      obtain ⟨V, hV⟩ : ∃ V : Nat → Int, V = fun (i : Nat) => Mo.hrs l i := ⟨_, rfl⟩
      have hVV : Hid (hrsV l = .agg #[.int .i64 (V 0), .int .i64 (V 1), .int .i64 (V 2), .int .i64 (V 3), .int .i64 (V 4), .int .i64 (V 5)]) := by show _ = _; rw [hV]; rfl
      have g1' : wr.heap[w1.heap.size]? = some (.cells #[.int .i64 (V 0), .int .i64 (V 1), .int .i64 (V 2), .int .i64 (V 3), .int .i64 (V 4), .int .i64 (V 5)] 85 (0, 0)) := by rw [hV]; exact g1
      have c0 : wr.cell? ⟨w1.heap.size, 0, none⟩ = some (.int .i64 (V 0)) := cell_at g1' rfl
      have c1 : wr.cell? ⟨w1.heap.size, 1, none⟩ = some (.int .i64 (V 1)) := cell_at g1' rfl
      have c2 : wr.cell? ⟨w1.heap.size, 2, none⟩ = some (.int .i64 (V 2)) := cell_at g1' rfl
      have c3 : wr.cell? ⟨w1.heap.size, 3, none⟩ = some (.int .i64 (V 3)) := cell_at g1' rfl
      have c4 : wr.cell? ⟨w1.heap.size, 4, none⟩ = some (.int .i64 (V 4)) := cell_at g1' rfl
      have c5 : wr.cell? ⟨w1.heap.size, 5, none⟩ = some (.int .i64 (V 5)) := cell_at g1' rfl
      have hgb0 : w.heap.size < wr.heap.size := (Array.getElem?_eq_some_iff.1 g0).1
      have hgb1 : w1.heap.size < wr.heap.size := (Array.getElem?_eq_some_iff.1 g1').1
      have hsz6 : (arr6 fun _ => 0).size = 6 := rfl
      clear g1 g1' hV hN
      go_wp2_with (refine wpList_store_blk rfl 85 _ _ rfl w.heap.size _ rfl rfl g0 ?s1 ?s2 ?s3 ?_)
      case s1 => exact hsz6
      case s2 => kernel_rfl
      case s3 => simp [Value.oneCell']
      intro w3 h3 hg3 hs3
      have hB3 : Below w.heap.size w w3 := hB.grown hg3 hB.size (fun j hj => by cases hj; exact Nat.le_refl _)
      go_wp2
      exact bodyPost_ret (results_blk rfl rfl h3 _ Tryz.underlying85 rfl (by kernel_rfl)) rfl ⟨by rw [hVV.out], hB3⟩

end Go.Proofs.YtndhjkammoeikaaGreatDoor
namespace Go.Proofs.YtndhjkammoeikaaGreatDoor
open Go.RowKit
set_option maxHeartbeats 1000000
set_option maxRecDepth 20000

def hoursV (l : List Ent) : Value := if Mo.entries l ≠ 0 then .agg #[.int .i64 0, .int .i64 0, .int .i64 0, .int .i64 0, .int .i64 0, .int .i64 0] else hrsV l
theorem c54 (A : Option Addr) (cap : Nat) (l : List Ent) (w : World) (hlen : l.length ≤ 1000000) (hsz : ∀ e ∈ l, e.c.size ≤ 1000000) (H : RdL w 3 Ent.enc A l) :
    Calls Tryz.prog 54 #[.slice A l.length cap] w fun en w' => en = .returned (.tuple #[hoursV l, .int .i64 (Mo.entries l)]) ∧ Below w.heap.size w w' := by
  have hB0 : Below w.heap.size w (w.alloc (Obj.cells #[.int .i64 0, .int .i64 0, .int .i64 0, .int .i64 0, .int .i64 0, .int .i64 0] 85)) := ((Below.refl _ _).alloc (by first | omega | (simp <;> omega)) _)
  have HC := Lib.hid (c62 A cap l (w.alloc (Obj.cells #[.int .i64 0, .int .i64 0, .int .i64 0, .int .i64 0, .int .i64 0, .int .i64 0] 85)) hlen hsz (H.below hB0))
  by_cases hE : Mo.entries l = 0
  · obtain ⟨ho1, ho2, _⟩ := Mo.entries_ok hE
    have HX := fun W (hW : Below w.heap.size w W) => Lib.hid (c113 A cap l W ho1 ho2 (H.below hW))
    have hVal : Hid (hoursV l = hrsV l) := by show _ = _; unfold hoursV; simp [hE]
    rw [hE] at HC ⊢
    clear H hsz ho2 hE
    obtain ⟨n, hn⟩ : ∃ n, n = l.length := ⟨_, rfl⟩
    rw [← hn] at HC HX ⊢
    clear hn
    obtain ⟨V, hV⟩ : ∃ V : Nat → Int, V = fun (i : Nat) => Mo.hrs l i := ⟨_, rfl⟩
    have hVV : hrsV l = .agg #[.int .i64 (V 0), .int .i64 (V 1), .int .i64 (V 2), .int .i64 (V 3), .int .i64 (V 4), .int .i64 (V 5)] := by rw [hV]; rfl
    rw [hVV] at hVal HX
    obtain ⟨U, hU⟩ : ∃ U, U = hoursV l := ⟨_, rfl⟩
    rw [← hU] at hVal ⊢
    clear hV hVV hU
    go_enter Tryz.func54, Tryz.ntmps54
    go_wp2_with fail
    refine HC.out.mono ?_
    rintro e w1 ⟨rfl, hb1⟩
    have hB1 := hB0.call hb1 rfl
    have hz1 : w1.heap[w.heap.size]? = some (Obj.cells #[.int .i64 0, .int .i64 0, .int .i64 0, .int .i64 0, .int .i64 0, .int .i64 0] 85) := (hb1.block _ (by simp)).trans (heap_new rfl)
    clear hb1
    go_wp2_with fail
    refine (HX _ hB1).out.mono ?_
    rintro e w2 ⟨rfl, hb2⟩
    have hB2 := hB1.call hb2 rfl
    have hz2 := (hb2.block _ (Array.getElem?_eq_some_iff.1 hz1).1).trans hz1
    clear hb2 hz1 HX HC
    go_wp2_with (refine wpList_store_blk rfl 85 _ _ rfl w.heap.size _ rfl rfl hz2 ?s1 ?s2 ?s3 ?_)
    case s1 => rfl
    case s2 => kernel_rfl
    case s3 => simp [Value.oneCell']
    intro w3 h3 hg3 hs3
    have hB3 : Below w.heap.size w w3 := hB2.grown hg3 hB2.size (fun j hj => by cases hj; exact Nat.le_refl _)
    go_wp2
    exact bodyPost_ret (results_blk_tmp rfl rfl h3 _ Tryz.underlying85 rfl (by kernel_rfl)) rfl ⟨by rw [hVal.out]; rfl, hB3⟩
  · have hE' : (Mo.entries l != 0) = true := by simpa using hE
    have hVal : Hid (hoursV l = .agg #[.int .i64 0, .int .i64 0, .int .i64 0, .int .i64 0, .int .i64 0, .int .i64 0]) := by show _ = _; unfold hoursV; simp [hE]
    clear H hsz
    obtain ⟨n, hn⟩ : ∃ n, n = l.length := ⟨_, rfl⟩
    rw [← hn] at HC ⊢
    obtain ⟨U, hU⟩ : ∃ U, U = hoursV l := ⟨_, rfl⟩
    rw [← hU] at hVal ⊢
    obtain ⟨E, hEe⟩ : ∃ E, E = Mo.entries l := ⟨_, rfl⟩
    rw [← hEe] at hE' hE HC ⊢
    clear hn hU hEe
    go_enter Tryz.func54, Tryz.ntmps54
    go_wp2_with fail
    refine HC.out.mono ?_
    rintro e w1 ⟨rfl, hb1⟩
    have hB1 := hB0.call hb1 rfl
    have hz1 : w1.heap[w.heap.size]? = some (Obj.cells #[.int .i64 0, .int .i64 0, .int .i64 0, .int .i64 0, .int .i64 0, .int .i64 0] 85) := (hb1.block _ (by simp)).trans (heap_new rfl)
    clear hb1
    go_wp2_with (refine wpList_store_blk rfl 85 _ _ rfl w.heap.size _ rfl rfl hz1 ?s1 ?s2 ?s3 ?_)
    case s1 => rfl
    case s2 => kernel_rfl
    case s3 => simp [Value.oneCell']
    intro w3 h3 hg3 hs3
    have hB3 : Below w.heap.size w w3 := hB1.grown hg3 hB1.size (fun j hj => by cases hj; exact Nat.le_refl _)
    go_wp2
    exact bodyPost_ret (results_blk_tmp rfl rfl h3 _ Tryz.underlying85 rfl (by kernel_rfl)) rfl ⟨by rw [hVal.out]; rfl, hB3⟩
theorem idiv_rem (x y : Nat) (h : y ≠ 0) : Op.intDiv .rem .i64 (x : Int) (y : Int) = pure (.int .i64 ((x % y : Nat) : Int)) := by
  unfold Op.intDiv
  rw [if_neg (by omega), Int.ofNat_tmod]
theorem quo_wrap (x y : Nat) (hx : x ≤ 100000000) : wrap64 ((x : Int) / (y : Int)) = ((x / y : Nat) : Int) := by
  have h1 : x / y ≤ 100000000 := Nat.le_trans (Nat.div_le_self _ _) hx
  have h2 : (x : Int) / (y : Int) = ((x / y : Nat) : Int) := (Int.natCast_ediv x y).symm
  rw [h2]
  generalize x / y = z at h1
  exact IntWalk.wrap64_in _ (by omega)
theorem c154 (p q : Nat) (w : World) (hp : p ≤ 100000000) (hq : q ≤ 100000000) : Calls Tryz.prog 154 #[.int .i64 p, .int .i64 q] w fun en w' => en = .returned (.int .i64 (Nat.gcd p q : Nat)) ∧ Below w.heap.size w w' := by
  go_enter Tryz.func154, Tryz.ntmps154
  go_wp2
  go_loopw [0, 1] (fun a b wr => ∃ x y : Nat, a = .int .i64 x ∧ b = .int .i64 y ∧ x ≤ 100000000 ∧ y ≤ 100000000 ∧ Nat.gcd x y = Nat.gcd p q ∧ Below w.heap.size w wr) (fun _ b _ => (intOf b).toNat)
  case atStart => exact ⟨p, q, rfl, rfl, hp, hq, rfl, Below.refl _ _⟩
  case round =>
    obtain ⟨x, y, rfl, rfl, hx, hy, hg, hB⟩ := hrel
    have HG := Lib.hid hg
    clear hg
    by_cases h0 : y = 0
    · subst h0
      have hfin : Hid (Nat.gcd p q = x) := by show _ = _; rw [← HG.out, Nat.gcd_zero_right]
      have hx0 : ¬ ((x : Int) < 0) := by omega
      go_wp2
      go_ret
      exact ⟨by rw [hfin.out]; rfl, hB⟩
    · have hy0 : ((y : Int) != 0) = true := by simp; omega
      have hy1 : ((y : Int) == 0) = false := by simp; omega
      have hmod : Op.intDiv .rem .i64 (x : Int) (y : Int) = pure (.int .i64 ((x % y : Nat) : Int)) := idiv_rem x y (by omega)
      have hlt : x % y < y := Nat.mod_lt _ (by omega)
      have HN : Hid (Nat.gcd y (x % y) = Nat.gcd p q) := by show _ = _; rw [← HG.out, Nat.gcd_comm x y, Nat.gcd_rec y x, Nat.gcd_comm]
      obtain ⟨z, hz⟩ : ∃ z, z = x % y := ⟨_, rfl⟩
      have HZ : Hid ((x : Int) % (y : Int) = (z : Int)) := by show _ = _; rw [hz]; rfl
      rw [← hz] at hmod hlt HN
      clear hz
      go_wp2
      refine wp_region_growG (by kernel_rfl) (by kernel_rfl) ?_
      repeat (go_big_quiet_step ((first | fail)))
      refine wpQuiet_nil (gw_out ?_)
      intro w2 hb2
      go_wp2
      go_roundw
      case rel => exact ⟨y, z, rfl, by first | rfl | rw [HZ.out], hy, by omega, HN.out, fin0 hB hb2⟩
      case measure => simp [intOf]; try rw [HZ.out]
                      simp; exact hlt

theorem c114 (p q : Nat) (w : World) (hp : p ≤ 100000000) (hq : q ≤ 100000000) (hq0 : 0 < q) : Calls Tryz.prog 114 #[.int .i64 p, .int .i64 q] w fun en w' => en = .returned (.agg #[.int .i64 (p / Nat.gcd p q : Nat), .int .i64 (q / Nat.gcd p q : Nat)]) ∧ Below w.heap.size w w' := by
  have hg0 : Nat.gcd p q ≠ 0 := by have := Nat.gcd_pos_of_pos_right p hq0; omega
  have hgle : Nat.gcd p q ≤ 100000000 := Nat.le_trans (Nat.le_of_dvd hq0 (Nat.gcd_dvd_right p q)) hq
  obtain ⟨G, hG⟩ : ∃ G, G = Nat.gcd p q := ⟨_, rfl⟩
  rw [← hG] at hgle hg0 ⊢
  obtain ⟨r1, hr1⟩ : ∃ r1, r1 = p / G := ⟨_, rfl⟩
  obtain ⟨r2, hr2⟩ : ∃ r2, r2 = q / G := ⟨_, rfl⟩
  have HR1 : Hid (wrap64 ((p : Int) / (G : Int)) = (r1 : Int)) := by show _ = _; rw [hr1]; exact quo_wrap p G hp
  have HR2 : Hid (wrap64 ((q : Int) / (G : Int)) = (r2 : Int)) := by show _ = _; rw [hr2]; exact quo_wrap q G hq
  rw [← hr1]
  rw [← hr2]
  have HG0 := Lib.hid hG
  clear hG hr1 hr2
  go_enter Tryz.func114, Tryz.ntmps114
  go_wp2
  go_loopw [5, 6] (fun a b wr => ∃ x y : Nat, a = .int .i64 x ∧ b = .int .i64 y ∧ x ≤ 100000000 ∧ y ≤ 100000000 ∧ Nat.gcd x y = G ∧ Below w.heap.size w wr ∧ wr.heap[w.heap.size]? = some (Obj.cells #[.int .i64 0, .int .i64 0] 111)) (fun _ b _ => (intOf b).toNat)
  case atStart => exact ⟨p, q, rfl, rfl, hp, hq, HG0.out.symm, (Below.refl _ _).alloc (Nat.le_refl _) _, heap_new rfl⟩
  case round =>
    obtain ⟨x, y, rfl, rfl, hx, hy, hg, hB, hT0⟩ := hrel
    have HG := Lib.hid hg
    clear hg
    by_cases h0 : y = 0
    · subst h0
      obtain rfl : G = x := by rw [← HG.out, Nat.gcd_zero_right]
      go_wp2
      refine wp_region_splitG 7 (by kernel_rfl) (by kernel_rfl) ?_
      simp only [List.take_succ_cons, List.take_zero, List.drop_succ_cons, List.drop_zero]
      repeat (go_big_quiet_step ((first | fail)))
      refine wpQuiet_nil (gw_out ?_)
      intro w2 hb2
      rw [HR1.out, HR2.out]
      clear HR1 HR2
      have hT := (hb2.block w.heap.size (Array.getElem?_eq_some_iff.1 hT0).1).trans hT0
      have hB2 := fin0 hB hb2
      go_wp2_with (refine wpList_store_blk rfl 111 _ _ rfl w.heap.size _ rfl rfl hT ?s1 ?s2 ?s3 ?_)
      case s1 => rfl
      case s2 => kernel_rfl
      case s3 => simp [Value.oneCell']
      intro w3 h3 hg3 hs3
      have hB3 : Below w.heap.size w w3 := hB2.grown hg3 hB2.size (fun j hj => by cases hj; exact Nat.le_refl _)
      go_wp2
      exact bodyPost_ret (results_blk rfl rfl h3 _ Tryz.underlying111 rfl (by kernel_rfl)) rfl ⟨rfl, hB3⟩
    · have hy0 : ((y : Int) != 0) = true := by simp; omega
      have hmod : Op.intDiv .rem .i64 (x : Int) (y : Int) = pure (.int .i64 ((x % y : Nat) : Int)) := idiv_rem x y (by omega)
      have hlt : x % y < y := Nat.mod_lt _ (by omega)
      have HN : Hid (Nat.gcd y (x % y) = G) := by show _ = _; rw [← HG.out, Nat.gcd_comm x y, Nat.gcd_rec y x, Nat.gcd_comm]
      obtain ⟨z, hz⟩ : ∃ z, z = x % y := ⟨_, rfl⟩
      have HZ : Hid ((x : Int) % (y : Int) = (z : Int)) := by show _ = _; rw [hz]; rfl
      rw [← hz] at hmod hlt HN
      clear hz
      go_wp2
      refine wp_region_growG (by kernel_rfl) (by kernel_rfl) ?_
      repeat (go_big_quiet_step ((first | fail)))
      refine wpQuiet_nil (gw_out ?_)
      intro w2 hb2
      go_wp2
      go_roundw
      case rel => exact ⟨y, z, rfl, by first | rfl | rw [HZ.out], hy, by omega, HN.out, fin0 hB hb2, (hb2.block _ (Array.getElem?_eq_some_iff.1 hT0).1).trans hT0⟩
      case measure => simp [intOf]; try rw [HZ.out]
                      simp; exact hlt

end Go.Proofs.YtndhjkammoeikaaGreatDoor
/- What '==' says of two arrays of six integers. -/
namespace Go.Proofs.YtndhjkammoeikaaGreatDoor
open Go.RowKit
set_option maxHeartbeats 4000000
set_option maxRecDepth 20000
def eq6 (a b : Nat → Int) : Bool := (a 0 == b 0) && (a 1 == b 1) && (a 2 == b 2) && (a 3 == b 3) && (a 4 == b 4) && (a 5 == b 5)
theorem eq85 (a b : Nat → Int) (w : World) : (Op.equalIn 10000 85 (.agg (arr6 a)) (.agg (arr6 b))).run Tryz.prog w = .ok (eq6 a b) w := by
  have u3 := Tryz.underlying3
  have a3 := Tryz.isAgg3
  have z3 := Tryz.sizeOf3
  rw [arr6_eq, arr6_eq, show (10000 : Nat) = 9999 + 1 from rfl, Op.equalIn]
  simp only [Sem.run_bind, run_underlying Tryz.underlying85, Result.andThen_ok]
  simp only [Std.Legacy.Range.forIn_eq_forIn_range', Std.Legacy.Range.size, Nat.sub_zero, Nat.add_sub_cancel, Nat.div_one, List.range'_succ, List.range'_zero, List.forIn_cons, List.forIn_nil]
  go_simp
  unfold eq6
  by_cases h0 : a 0 = b 0 <;> simp [h0]
  by_cases h1 : a 1 = b 1 <;> simp [h1]
  by_cases h2 : a 2 = b 2 <;> simp [h2]
  by_cases h3 : a 3 = b 3 <;> simp [h3]
  by_cases h4 : a 4 = b 4 <;> simp [h4]
  by_cases h5 : a 5 = b 5 <;> simp [h5]
theorem eq6_iff (a b : Nat → Int) : eq6 a b = true ↔ ∀ i, i < 6 → a i = b i := by
  unfold eq6
  simp only [Bool.and_eq_true, beq_iff_eq]
  constructor
  · rintro ⟨⟨⟨⟨⟨h0, h1⟩, h2⟩, h3⟩, h4⟩, h5⟩ i hi
    match i, hi with
    | 0, _ => exact h0
    | 1, _ => exact h1
    | 2, _ => exact h2
    | 3, _ => exact h3
    | 4, _ => exact h4
    | 5, _ => exact h5
  · intro h
    exact ⟨⟨⟨⟨⟨h 0 (by decide), h 1 (by decide)⟩, h 2 (by decide)⟩, h 3 (by decide)⟩, h 4 (by decide)⟩, h 5 (by decide)⟩
end Go.Proofs.YtndhjkammoeikaaGreatDoor
namespace Go.Proofs.YtndhjkammoeikaaGreatDoor
namespace Mo
def tot (l : List Ent) : Int := hrs l 0 + hrs l 1 + hrs l 2 + hrs l 3 + hrs l 4 + hrs l 5
def dwn (l : List Ent) : Int := hrs l 2 + hrs l 3 + hrs l 4 + hrs l 5
theorem tot_cons (e : Ent) (l : List Ent) (h : EOk e) : tot (e :: l) = (e.t - e.f) + tot l := by
  have hn := h.n
  unfold tot
  simp only [hrs]
  rcases (show num e.c = 0 ∨ num e.c = 1 ∨ num e.c = 2 ∨ num e.c = 3 ∨ num e.c = 4 ∨ num e.c = 5 by omega) with h | h | h | h | h | h <;> rw [h] <;> simp <;> omega
theorem tot_bd (l : List Ent) (h : ∀ e ∈ l, EOk e) : (l.length : Int) ≤ tot l := by
  induction l with
  | nil => simp [tot, hrs]
  | cons e l ih =>
    rw [tot_cons e l (h e (by simp))]
    have := ih (fun x hx => h x (by simp [hx]))
    have h1 := (h e (by simp)).b
    simp only [List.length_cons]
    push_cast
    omega
def downE (l : List Ent) : Int := if entries l ≠ 0 then entries l else if l.length = 0 then 12 else 0
def ratioV (p q : Nat) : Value := .agg #[.int .i64 (p / Nat.gcd p q : Nat), .int .i64 (q / Nat.gcd p q : Nat)]
def downV (l : List Ent) : Value := if downE l ≠ 0 then .agg #[.int .i64 0, .int .i64 0] else ratioV (dwn l).toNat (tot l).toNat
def psum (V : Nat → Int) : Nat → Int
  | 0 => 0
  | k+1 => psum V k + V k
theorem psum_bd (V : Nat → Int) (B : Int) (h : ∀ i, 0 ≤ V i ∧ V i ≤ B) (k : Nat) : 0 ≤ psum V k ∧ psum V k ≤ k * B := by
  induction k with
  | zero => simp [psum]
  | succ k ih =>
    have := h k
    simp only [psum]
    push_cast
    rw [Int.add_mul]
    omega
end Mo
end Go.Proofs.YtndhjkammoeikaaGreatDoor
namespace Go.Proofs.YtndhjkammoeikaaGreatDoor
open Go.RowKit
set_option maxHeartbeats 1000000
set_option maxRecDepth 20000

theorem idx85 (V : Nat → Int) (k : Nat) (h : k < 6) (W : World) : (Instr.index 85 (.agg #[.int .i64 (V 0), .int .i64 (V 1), .int .i64 (V 2), .int .i64 (V 3), .int .i64 (V 4), .int .i64 (V 5)]) (.int .i64 k)).run Tryz.prog W = .ok (.int .i64 (V k)) W := by
  match k, h with
  | 0, _ => (show _ = _); kernel_rfl
  | 1, _ => (show _ = _); kernel_rfl
  | 2, _ => (show _ = _); kernel_rfl
  | 3, _ => (show _ = _); kernel_rfl
  | 4, _ => (show _ = _); kernel_rfl
  | 5, _ => (show _ = _); kernel_rfl
theorem c116 (p q : Nat) (w : World) (hp : p ≤ 100000000) (hq : q ≤ 100000000) (hq0 : 0 < q) : Calls Tryz.prog 116 #[.int .i64 p, .int .i64 q] w fun en w' => en = .returned (Mo.ratioV p q) ∧ Below w.heap.size w w' := by
  unfold Mo.ratioV
  have hg0 : Nat.gcd p q ≠ 0 := by have := Nat.gcd_pos_of_pos_right p hq0; omega
  have HC := fun W => Lib.hid (c154 p q W hp hq)
  obtain ⟨G, hG⟩ : ∃ G, G = Nat.gcd p q := ⟨_, rfl⟩
  rw [← hG] at hg0 ⊢
  simp only [← hG] at HC
  obtain ⟨r1, hr1⟩ : ∃ r1, r1 = p / G := ⟨_, rfl⟩
  obtain ⟨r2, hr2⟩ : ∃ r2, r2 = q / G := ⟨_, rfl⟩
  have HR1 : Hid (wrap64 ((p : Int) / (G : Int)) = (r1 : Int)) := by show _ = _; rw [hr1]; exact quo_wrap p G hp
  have HR2 : Hid (wrap64 ((q : Int) / (G : Int)) = (r2 : Int)) := by show _ = _; rw [hr2]; exact quo_wrap q G hq
  rw [← hr1]
  rw [← hr2]
  clear hr1 hr2 hG
  have hB0 : Below w.heap.size w (w.alloc (Obj.cells #[.int .i64 0, .int .i64 0] 111)) := ((Below.refl _ _).alloc (by first | omega | (simp <;> omega)) _)
  have hqn : ¬ ((q : Int) < 0) := by omega
  go_enter Tryz.func116, Tryz.ntmps116
  go_wp2_with fail
  refine (HC _).out.mono ?_
  rintro e w1 ⟨rfl, hb1⟩
  have hB1 := hB0.call hb1 rfl
  have hT1 : w1.heap[w.heap.size]? = some (Obj.cells #[.int .i64 0, .int .i64 0] 111) := (hb1.block _ (by simp)).trans (heap_new rfl)
  clear hb1 HC hB0
  go_wp2
  refine wp_region_splitG 7 (by kernel_rfl) (by kernel_rfl) ?_
  simp only [List.take_succ_cons, List.take_zero, List.drop_succ_cons, List.drop_zero]
  repeat (go_big_quiet_step ((first | fail)))
  refine wpQuiet_nil (gw_out ?_)
  intro w2 hb2
  rw [HR1.out, HR2.out]
  clear HR1 HR2
  have hT := (hb2.block w.heap.size (Array.getElem?_eq_some_iff.1 hT1).1).trans hT1
  have hB2 := fin0 hB1 hb2
  go_wp2_with (refine wpList_store_blk rfl 111 _ _ rfl w.heap.size _ rfl rfl hT ?s1 ?s2 ?s3 ?_)
  case s1 => rfl
  case s2 => kernel_rfl
  case s3 => simp [Value.oneCell']
  intro w3 h3 hg3 hs3
  have hB3 : Below w.heap.size w w3 := hB2.grown hg3 hB2.size (fun j hj => by cases hj; exact Nat.le_refl _)
  go_wp2
  exact bodyPost_ret (results_blk rfl rfl h3 _ Tryz.underlying111 rfl (by kernel_rfl)) rfl ⟨rfl, hB3⟩
/-- the program's Downtime, out of what Hours gives -/
theorem c55_g (A : Option Addr) (n cap : Nat) (V : Nat → Int) (E : Int) (w : World) (B : Bool) (R : Int) (U : Value)
    (HC : ∀ W, Below w.heap.size w W → Hid (Calls Tryz.prog 54 #[.slice A n cap] W fun en w' => en = .returned (.tuple #[.agg #[.int .i64 (V 0), .int .i64 (V 1), .int .i64 (V 2), .int .i64 (V 3), .int .i64 (V 4), .int .i64 (V 5)], .int .i64 E]) ∧ Below W.heap.size W w'))
    (hB : eq6 V (fun _ => 0) = B) (hR : Mo.first [E, Mo.when B 12] = R)
    (hbad : R ≠ 0 → U = .agg #[.int .i64 0, .int .i64 0])
    (hok : R = 0 → (∀ i, 0 ≤ V i ∧ V i ≤ 6400000) ∧ ∃ p q : Nat, 0 < q ∧ Mo.psum V 6 = q ∧ Mo.psum V 6 - V 0 - V 1 = p ∧ p ≤ 100000000 ∧ q ≤ 100000000 ∧ U = Mo.ratioV p q) :
    Calls Tryz.prog 55 #[.slice A n cap] w fun en w' => en = .returned (.tuple #[U, .int .i64 R]) ∧ Below w.heap.size w w' := by
  have hB0 : Below w.heap.size w (w.alloc (Obj.cells #[.int .i64 0, .int .i64 0] 111)) := ((Below.refl _ _).alloc (by first | omega | (simp <;> omega)) _)
  have heq : ∀ W, (Op.equalIn 10000 85 (.agg #[.int .i64 (V 0), .int .i64 (V 1), .int .i64 (V 2), .int .i64 (V 3), .int .i64 (V 4), .int .i64 (V 5)]) (.agg #[.int .i64 0, .int .i64 0, .int .i64 0, .int .i64 0, .int .i64 0, .int .i64 0])).run Tryz.prog W = .ok B W := fun W => by rw [← hB]; exact eq85 V (fun _ => 0) W
  have HR := Lib.hid hR
  have HCC := HC _ hB0
  clear hB HC
  by_cases hR0 : R = 0
  · obtain ⟨hV, p, q, hq0, hS, hD, hp, hq, hU⟩ := hok hR0
    have HX := fun W => Lib.hid (c114 p q W hp hq hq0)
    have hUU : U = .agg #[.int .i64 (p / Nat.gcd p q : Nat), .int .i64 (q / Nat.gcd p q : Nat)] := hU
    have hRe : (Mo.first [E, Mo.when B 12] != 0) = false := by rw [HR.out]; simp [hR0]
    have hps := fun k => Lib.hid (Mo.psum_bd V 6400000 hV k)
    obtain ⟨G, hG⟩ : ∃ G, G = Nat.gcd p q := ⟨_, rfl⟩
    rw [← hG] at hUU
    simp only [← hG] at HX
    obtain ⟨r1, hr1⟩ : ∃ r1, r1 = p / G := ⟨_, rfl⟩
    obtain ⟨r2, hr2⟩ : ∃ r2, r2 = q / G := ⟨_, rfl⟩
    rw [← hr1, ← hr2] at hUU
    simp only [← hr1, ← hr2] at HX
    have HU := Lib.hid hUU
    have HS6 := Lib.hid hS
    have hst : ∀ k, Hid (Mo.psum V (k + 1) = Mo.psum V k + V k) := fun k => rfl
    obtain ⟨P, hP⟩ : ∃ P, P = Mo.psum V := ⟨_, rfl⟩
    have hP0 : Hid (P 0 = 0) := by show _ = _; rw [hP]; rfl
    rw [← hP] at hS hD hps hst HS6
    have HD := Lib.hid hD
    clear hok hbad hU hUU hr1 hr2 hG hP hS hD
    go_enter Tryz.func55, Tryz.ntmps55
    go_wp2_with fail
    refine HCC.out.mono ?_
    rintro e w1 ⟨rfl, hb1⟩
    have hB1 := hB0.call hb1 rfl
    have hz1 : w1.heap[w.heap.size]? = some (Obj.cells #[.int .i64 0, .int .i64 0] 111) := (hb1.block _ (by simp)).trans (heap_new rfl)
    have hzs : w.heap.size < w1.heap.size := (Array.getElem?_eq_some_iff.1 hz1).1
    obtain ⟨W3, hW3⟩ : ∃ W3, W3 = (w1.alloc (Obj.cells #[.int .i64 (V 0), .int .i64 (V 1), .int .i64 (V 2), .int .i64 (V 3), .int .i64 (V 4), .int .i64 (V 5)] 85)).alloc (Obj.cells #[.int .i64 E, .int .i64 (Mo.when B 12)] 32) := ⟨_, rfl⟩
    obtain ⟨bb, hbb⟩ : ∃ bb, bb = w1.heap.size := ⟨_, rfl⟩
    have hb2 : Below w1.heap.size w1 W3 := by rw [hW3]; exact ((Below.refl _ _).alloc (Nat.le_refl _) _).alloc (by simp) _
    have hB3 := fin0 hB1 hb2
    have hT : W3.heap[bb]? = some (Obj.cells #[.int .i64 (V 0), .int .i64 (V 1), .int .i64 (V 2), .int .i64 (V 3), .int .i64 (V 4), .int .i64 (V 5)] 85) := by rw [hW3, hbb]; exact heap_old (by simp) (heap_new rfl)
    have hz3 := (hb2.block _ hzs).trans hz1
    have v0 : W3.cell? ⟨bb, 0, none⟩ = some (.int .i64 (V 0)) := cell_at hT rfl
    have v1 : W3.cell? ⟨bb, 1, none⟩ = some (.int .i64 (V 1)) := cell_at hT rfl
    have y0 : (w1.alloc (Obj.cells #[.int .i64 (V 0), .int .i64 (V 1), .int .i64 (V 2), .int .i64 (V 3), .int .i64 (V 4), .int .i64 (V 5)] 85)).cell? ⟨w1.heap.size, 0, none⟩ = some (.int .i64 (V 0)) := cell_at (heap_new rfl) rfl
    have y1 : (w1.alloc (Obj.cells #[.int .i64 (V 0), .int .i64 (V 1), .int .i64 (V 2), .int .i64 (V 3), .int .i64 (V 4), .int .i64 (V 5)] 85)).cell? ⟨w1.heap.size, 1, none⟩ = some (.int .i64 (V 1)) := cell_at (heap_new rfl) rfl
    have y2 : (w1.alloc (Obj.cells #[.int .i64 (V 0), .int .i64 (V 1), .int .i64 (V 2), .int .i64 (V 3), .int .i64 (V 4), .int .i64 (V 5)] 85)).cell? ⟨w1.heap.size, 2, none⟩ = some (.int .i64 (V 2)) := cell_at (heap_new rfl) rfl
    have y3 : (w1.alloc (Obj.cells #[.int .i64 (V 0), .int .i64 (V 1), .int .i64 (V 2), .int .i64 (V 3), .int .i64 (V 4), .int .i64 (V 5)] 85)).cell? ⟨w1.heap.size, 3, none⟩ = some (.int .i64 (V 3)) := cell_at (heap_new rfl) rfl
    have y4 : (w1.alloc (Obj.cells #[.int .i64 (V 0), .int .i64 (V 1), .int .i64 (V 2), .int .i64 (V 3), .int .i64 (V 4), .int .i64 (V 5)] 85)).cell? ⟨w1.heap.size, 4, none⟩ = some (.int .i64 (V 4)) := cell_at (heap_new rfl) rfl
    have y5 : (w1.alloc (Obj.cells #[.int .i64 (V 0), .int .i64 (V 1), .int .i64 (V 2), .int .i64 (V 3), .int .i64 (V 4), .int .i64 (V 5)] 85)).cell? ⟨w1.heap.size, 5, none⟩ = some (.int .i64 (V 5)) := cell_at (heap_new rfl) rfl
    have hzb : bb < W3.heap.size := (Array.getElem?_eq_some_iff.1 hT).1
    have HZ3 := Lib.hid hz3
    have HV := Lib.hid hV
    clear hb1 hb2 hz1 hT HCC hz3 hB0 hV
    go_wp2_with (first | (go_at_call 100; refine (c100 _ _ _).mono ?_; rintro e w' ⟨rfl, rfl⟩) | (go_at_call 94; refine (c94 _ 2 _ [E, Mo.when B 12] _ rfl (by omega) ?_).mono ?_; (first | exact RdS.of_new (by simp) rfl | exact RdS.drew (RdS.of_new (by simp) rfl)); rintro e w' ⟨rfl, rfl⟩))
    rw [← hW3, ← hbb]
    clear hW3 hbb y0 y1 y2 y3 y4 y5
    go_loop [7, 27] (fun a i => ∃ k : Nat, k ≤ 6 ∧ i = .int .i64 k ∧ a = .int .i64 (P k)) (fun _ i => 6 - (intOf i).toNat)
    case atStart => exact ⟨0, Nat.zero_le _, rfl, by rw [hP0.out]⟩
    case round =>
      obtain ⟨k, hk, rfl, rfl⟩ := hrel
      have hpk := (hps k).out
      have hVk := HV.out k
      have hstk := hst k
      by_cases hlt : k < 6
      · have hix := idx85 V k hlt W3
        have hx2 : (k : Int) < 6 := by omega
        clear hVk
        have hVk := HV.out k
        go_wp2
        go_round
        case rel => exact ⟨k + 1, by omega, by go_num, by rw [hstk.out]⟩
        case measure => simp [intOf]; omega
      · obtain rfl : k = 6 := by omega
        clear hVk
        rw [HS6.out] at hpk ⊢
        clear hstk
        have hd2 := HD.out
        rw [HS6.out] at hd2
        have HD2 := Lib.hid hd2
        have hv0 := HV.out 0
        have hv1 := HV.out 1
        clear hd2 HD HS6
        go_wp2_with fail
        rw [HD2.out]
        refine (HX _).out.mono ?_
        rintro e w5 ⟨rfl, hb5⟩
        have hB5 := hB3.call hb5 rfl
        have hT5 := (hb5.block _ (Array.getElem?_eq_some_iff.1 HZ3.out).1).trans HZ3.out
        clear hb5 HX
        go_wp2_with (refine wpList_store_blk rfl 111 _ _ rfl w.heap.size _ rfl rfl hT5 ?s1 ?s2 ?s3 ?_)
        case s1 => rfl
        case s2 => kernel_rfl
        case s3 => simp [Value.oneCell']
        intro w3 h3 hg3 hs3
        have hB6 : Below w.heap.size w w3 := hB5.grown hg3 hB5.size (fun j hj => by cases hj; exact Nat.le_refl _)
        go_wp2
        exact bodyPost_ret (results_blk_tmp rfl rfl h3 _ Tryz.underlying111 rfl (by kernel_rfl)) rfl ⟨by rw [HU.out, hR0]; rfl, hB6⟩
  · have hU := Lib.hid (hbad hR0)
    have hRe : (Mo.first [E, Mo.when B 12] != 0) = true := by rw [HR.out]; simpa using hR0
    clear hbad hok hR0
    go_enter Tryz.func55, Tryz.ntmps55
    go_wp2_with fail
    refine HCC.out.mono ?_
    rintro e w1 ⟨rfl, hb1⟩
    have hB1 := hB0.call hb1 rfl
    have hz1 : w1.heap[w.heap.size]? = some (Obj.cells #[.int .i64 0, .int .i64 0] 111) := (hb1.block _ (by simp)).trans (heap_new rfl)
    have hzs : w.heap.size < w1.heap.size := (Array.getElem?_eq_some_iff.1 hz1).1
    obtain ⟨W3, hW3⟩ : ∃ W3, W3 = (w1.alloc (Obj.cells #[.int .i64 (V 0), .int .i64 (V 1), .int .i64 (V 2), .int .i64 (V 3), .int .i64 (V 4), .int .i64 (V 5)] 85)).alloc (Obj.cells #[.int .i64 E, .int .i64 (Mo.when B 12)] 32) := ⟨_, rfl⟩
    have hb2 : Below w1.heap.size w1 W3 := by rw [hW3]; exact ((Below.refl _ _).alloc (Nat.le_refl _) _).alloc (by simp) _
    have hB3 := fin0 hB1 hb2
    have hz3 := (hb2.block _ hzs).trans hz1
    rw [hW3] at hz3
    have y0 : (w1.alloc (Obj.cells #[.int .i64 (V 0), .int .i64 (V 1), .int .i64 (V 2), .int .i64 (V 3), .int .i64 (V 4), .int .i64 (V 5)] 85)).cell? ⟨w1.heap.size, 0, none⟩ = some (.int .i64 (V 0)) := cell_at (heap_new rfl) rfl
    have y1 : (w1.alloc (Obj.cells #[.int .i64 (V 0), .int .i64 (V 1), .int .i64 (V 2), .int .i64 (V 3), .int .i64 (V 4), .int .i64 (V 5)] 85)).cell? ⟨w1.heap.size, 1, none⟩ = some (.int .i64 (V 1)) := cell_at (heap_new rfl) rfl
    have y2 : (w1.alloc (Obj.cells #[.int .i64 (V 0), .int .i64 (V 1), .int .i64 (V 2), .int .i64 (V 3), .int .i64 (V 4), .int .i64 (V 5)] 85)).cell? ⟨w1.heap.size, 2, none⟩ = some (.int .i64 (V 2)) := cell_at (heap_new rfl) rfl
    have y3 : (w1.alloc (Obj.cells #[.int .i64 (V 0), .int .i64 (V 1), .int .i64 (V 2), .int .i64 (V 3), .int .i64 (V 4), .int .i64 (V 5)] 85)).cell? ⟨w1.heap.size, 3, none⟩ = some (.int .i64 (V 3)) := cell_at (heap_new rfl) rfl
    have y4 : (w1.alloc (Obj.cells #[.int .i64 (V 0), .int .i64 (V 1), .int .i64 (V 2), .int .i64 (V 3), .int .i64 (V 4), .int .i64 (V 5)] 85)).cell? ⟨w1.heap.size, 4, none⟩ = some (.int .i64 (V 4)) := cell_at (heap_new rfl) rfl
    have y5 : (w1.alloc (Obj.cells #[.int .i64 (V 0), .int .i64 (V 1), .int .i64 (V 2), .int .i64 (V 3), .int .i64 (V 4), .int .i64 (V 5)] 85)).cell? ⟨w1.heap.size, 5, none⟩ = some (.int .i64 (V 5)) := cell_at (heap_new rfl) rfl
    clear hb1 hb2 hz1 HCC hB0
    have hR2 := HR.out
    rw [hW3] at hB3
    clear hW3
    go_wp2_with (first | (go_at_call 100; refine (c100 _ _ _).mono ?_; rintro e w' ⟨rfl, rfl⟩) | (go_at_call 94; refine (c94 _ 2 _ [E, Mo.when B 12] _ rfl (by omega) ?_).mono ?_; (first | exact RdS.of_new (by simp) rfl | exact RdS.drew (RdS.of_new (by simp) rfl)); rintro e w' ⟨rfl, rfl⟩) | (refine wpList_store_blk rfl 111 _ _ rfl w.heap.size _ rfl rfl hz3 ?s1 ?s2 ?s3 ?_))
    case s1 => rfl
    case s2 => kernel_rfl
    case s3 => simp [Value.oneCell']
    intro w3 h3 hg3 hs3
    have hB6 : Below w.heap.size w w3 := hB3.grown hg3 hB3.size (fun j hj => by cases hj; exact Nat.le_refl _)
    go_wp2
    exact bodyPost_ret (results_blk_tmp rfl rfl h3 _ Tryz.underlying111 rfl (by kernel_rfl)) rfl ⟨by rw [hU.out, ← HR.out]; rfl, hB6⟩

end Go.Proofs.YtndhjkammoeikaaGreatDoor
namespace Go.Proofs.YtndhjkammoeikaaGreatDoor
open Go.RowKit
set_option maxHeartbeats 1000000
set_option maxRecDepth 20000

theorem Mo.down_facts (l : List Ent) (hE : Mo.entries l = 0) (hl : l ≠ []) : (∀ i : Nat, 0 ≤ Mo.hrs l i ∧ Mo.hrs l i ≤ 6400000) ∧ ∃ p q : Nat, 0 < q ∧ Mo.tot l = q ∧ Mo.dwn l = p ∧ p ≤ 100000000 ∧ q ≤ 100000000 ∧ Mo.downV l = Mo.ratioV p q := by
  obtain ⟨h1, h2, _⟩ := Mo.entries_ok hE
  have hb := Mo.tot_bd l h2
  have hpos : 0 < l.length := List.length_pos_iff.2 hl
  have hV : ∀ i : Nat, 0 ≤ Mo.hrs l i ∧ Mo.hrs l i ≤ 6400000 := fun i => by have := Mo.hrs_bd l h2 i; omega
  have v0 := hV 0
  have v1 := hV 1
  have v2 := hV 2
  have v3 := hV 3
  have v4 := hV 4
  have v5 := hV 5
  have hd : Mo.downE l = 0 := by unfold Mo.downE; rw [if_neg (by simp [hE]), if_neg (by omega)]
  refine ⟨hV, (Mo.dwn l).toNat, (Mo.tot l).toNat, ?_, ?_, ?_, ?_, ?_, ?_⟩
  · omega
  · omega
  · unfold Mo.dwn; push_cast at v2 v3 v4 v5; omega
  · unfold Mo.dwn; push_cast at v2 v3 v4 v5; omega
  · unfold Mo.tot; push_cast at v0 v1 v2 v3 v4 v5; omega
  · unfold Mo.downV; rw [if_neg (by simp [hd])]
theorem c55 (A : Option Addr) (cap : Nat) (l : List Ent) (w : World) (hlen : l.length ≤ 1000000) (hsz : ∀ e ∈ l, e.c.size ≤ 1000000) (H : RdL w 3 Ent.enc A l) :
    Calls Tryz.prog 55 #[.slice A l.length cap] w fun en w' => en = .returned (.tuple #[Mo.downV l, .int .i64 (Mo.downE l)]) ∧ Below w.heap.size w w' := by
  have HC := fun W (hW : Below w.heap.size w W) => Lib.hid (c54 A cap l W hlen hsz (H.below hW))
  by_cases hE : Mo.entries l = 0
  · have hv : hoursV l = .agg (arr6 fun i => Mo.hrs l i) := by unfold hoursV; simp [hE]; rfl
    rw [hv] at HC
    by_cases hl : l = []
    · refine c55_g A l.length cap (fun i => Mo.hrs l i) (Mo.entries l) w true (Mo.downE l) (Mo.downV l) HC ?_ ?_ ?_ ?_
      · rw [hl]; rfl
      · rw [hE]; unfold Mo.downE; simp [hE, hl]; rfl
      · intro h; unfold Mo.downV; rw [if_pos h]
      · intro h; have : Mo.downE l = 12 := by unfold Mo.downE; rw [if_neg (by simp [hE]), if_pos (by rw [hl]; rfl)]
        rw [this] at h; cases h
    · obtain ⟨hV, p, q, hq, e1, e2, hp, hq', e3⟩ := Mo.down_facts l hE hl
      have hd : Mo.downE l = 0 := by unfold Mo.downE; simp [hE]; exact hl
      have hps : Mo.psum (fun i : Nat => Mo.hrs l i) 6 = Mo.tot l := by simp only [Mo.psum, Mo.tot]; push_cast; omega
      refine c55_g A l.length cap (fun i => Mo.hrs l i) (Mo.entries l) w false (Mo.downE l) (Mo.downV l) HC ?_ ?_ ?_ ?_
      · rw [Bool.eq_false_iff]
        intro h
        rw [eq6_iff] at h
        have g0 := h 0 (by decide)
        have g1 := h 1 (by decide)
        have g2 := h 2 (by decide)
        have g3 := h 3 (by decide)
        have g4 := h 4 (by decide)
        have g5 := h 5 (by decide)
        push_cast at g0 g1 g2 g3 g4 g5
        unfold Mo.tot at e1
        omega
      · rw [hE, hd]; rfl
      · intro h; exact absurd hd h
      · intro _
        refine ⟨hV, p, q, hq, by rw [hps, e1], ?_, hp, hq', e3⟩
        rw [hps, ← e2]
        unfold Mo.tot Mo.dwn
        push_cast
        omega
  · have hv : hoursV l = .agg (arr6 fun _ => 0) := by unfold hoursV; simp [hE]; rfl
    have hd : Mo.downE l = Mo.entries l := by unfold Mo.downE; rw [if_pos hE]
    rw [hv] at HC
    refine c55_g A l.length cap (fun _ => 0) (Mo.entries l) w true (Mo.downE l) (Mo.downV l) HC rfl ?_ ?_ ?_
    · rw [hd]; unfold Mo.first; rw [if_pos hE]
    · intro h; unfold Mo.downV; rw [if_pos h]
    · intro h; rw [hd] at h; exact absurd h hE
theorem c59 (A : Option Addr) (cap : Nat) (l : List Ent) (w : World) (hlen : l.length ≤ 1000000) (H : RdL w 3 Ent.enc A l) :
    Calls Tryz.prog 59 #[.slice A l.length cap] w fun en w' => en = .returned (.tuple #[Mo.downV l, .int .i64 (Mo.downE l)]) ∧ Below w.heap.size w w' := by
  have hB0 : Below w.heap.size w (w.alloc (Obj.cells #[.int .i64 0, .int .i64 0] 111)) := ((Below.refl _ _).alloc (by first | omega | (simp <;> omega)) _)
  have HC := Lib.hid (c56 A cap l (w.alloc (Obj.cells #[.int .i64 0, .int .i64 0] 111)) hlen (H.below hB0))
  by_cases hE : Mo.entries l = 0
  · obtain ⟨ho1, ho2, _⟩ := Mo.entries_ok hE
    have HH := fun W (hW : Below w.heap.size w W) => Lib.hid (c58 A cap l W ho1 ho2 (H.below hW))
    rw [hE] at HC
    by_cases hl : l = []
    · have hd : Mo.downE l = 12 := by unfold Mo.downE; rw [if_neg (by simp [hE]), if_pos (by rw [hl]; rfl)]
      have hU : Hid (Mo.downV l = .agg #[.int .i64 0, .int .i64 0]) := by show _ = _; unfold Mo.downV; rw [hd]; rfl
      rw [hd]
      have hn0 : l.length = 0 := by rw [hl]; rfl
      obtain ⟨U, hUe⟩ : ∃ U, U = Mo.downV l := ⟨_, rfl⟩
      rw [← hUe] at hU ⊢
      rw [hn0] at HC ⊢
      clear hUe hl hd HH H hn0
      go_enter Tryz.func59, Tryz.ntmps59
      go_wp2_with fail
      refine HC.out.mono ?_
      rintro e w1 ⟨rfl, hb1⟩
      have hB1 := hB0.call hb1 rfl
      have hz1 : w1.heap[w.heap.size]? = some (Obj.cells #[.int .i64 0, .int .i64 0] 111) := (hb1.block _ (by simp)).trans (heap_new rfl)
      clear hb1 HC hB0
      go_wp2_with (refine wpList_store_blk rfl 111 _ _ rfl w.heap.size _ rfl rfl hz1 ?s1 ?s2 ?s3 ?_)
      case s1 => rfl
      case s2 => kernel_rfl
      case s3 => simp [Value.oneCell']
      intro w3 h3 hg3 hs3
      have hB6 : Below w.heap.size w w3 := hB1.grown hg3 hB1.size (fun j hj => by cases hj; exact Nat.le_refl _)
      go_wp2
      exact bodyPost_ret (results_blk_tmp rfl rfl h3 _ Tryz.underlying111 rfl (by kernel_rfl)) rfl ⟨by rw [hU.out]; rfl, hB6⟩
    · obtain ⟨hV, p, q, hq, e1, e2, hp, hq', e3⟩ := Mo.down_facts l hE hl
      have hd : Mo.downE l = 0 := by unfold Mo.downE; simp [hE]; exact hl
      have HX := fun W => Lib.hid (c116 p q W hp hq' hq)
      have hpos : 0 < l.length := List.length_pos_iff.2 hl
      obtain ⟨V, hVe⟩ : ∃ V : Nat → Int, V = fun (i : Nat) => Mo.hrs l i := ⟨_, rfl⟩
      have hVV : hrsV l = .agg #[.int .i64 (V 0), .int .i64 (V 1), .int .i64 (V 2), .int .i64 (V 3), .int .i64 (V 4), .int .i64 (V 5)] := by rw [hVe]; rfl
      have hD : V 2 + V 3 + V 4 + V 5 = p := by rw [hVe, ← e2]; rfl
      have hS : V 2 + V 3 + V 4 + V 5 + V 0 + V 1 = q := by rw [hVe, ← e1]; unfold Mo.tot; push_cast; omega
      have v0 : 0 ≤ V 0 ∧ V 0 ≤ 6400000 := by rw [hVe]; exact hV 0
      have v1 : 0 ≤ V 1 ∧ V 1 ≤ 6400000 := by rw [hVe]; exact hV 1
      have v2 : 0 ≤ V 2 ∧ V 2 ≤ 6400000 := by rw [hVe]; exact hV 2
      have v3 : 0 ≤ V 3 ∧ V 3 ≤ 6400000 := by rw [hVe]; exact hV 3
      have v4 : 0 ≤ V 4 ∧ V 4 ≤ 6400000 := by rw [hVe]; exact hV 4
      have v5 : 0 ≤ V 5 ∧ V 5 ≤ 6400000 := by rw [hVe]; exact hV 5
      rw [hVV] at HH
      rw [hd]
      obtain ⟨U, hUe⟩ : ∃ U, U = Mo.downV l := ⟨_, rfl⟩
      rw [← hUe] at e3 ⊢
      obtain ⟨n, hn⟩ : ∃ n, n = l.length := ⟨_, rfl⟩
      rw [← hn] at HC HH hpos ⊢
      have hn0 : ((n : Int) == 0) = false := by simp; omega
      have hU : Hid (U = Mo.ratioV p q) := e3
      have HD := Lib.hid hD
      have HS := Lib.hid hS
      clear hUe hl hd H hn hV e1 e2 e3 hVe hVV hE ho1 ho2 hlen hD hS
      unfold Mo.ratioV at hU HX
      obtain ⟨r1, hr1⟩ : ∃ r1, r1 = p / Nat.gcd p q := ⟨_, rfl⟩
      obtain ⟨r2, hr2⟩ : ∃ r2, r2 = q / Nat.gcd p q := ⟨_, rfl⟩
      rw [← hr1, ← hr2] at hU
      simp only [← hr1, ← hr2] at HX
      clear hr1 hr2
      go_enter Tryz.func59, Tryz.ntmps59
      go_wp2_with fail
      refine HC.out.mono ?_
      rintro e w1 ⟨rfl, hb1⟩
      have hB1 := hB0.call hb1 rfl
      have hz1 : w1.heap[w.heap.size]? = some (Obj.cells #[.int .i64 0, .int .i64 0] 111) := (hb1.block _ (by simp)).trans (heap_new rfl)
      clear hb1 HC hB0
      go_wp2_with fail
      refine (HH _ hB1).out.mono ?_
      rintro e w2 ⟨rfl, hb2⟩
      have hB2 := hB1.call hb2 rfl
      have hz2 := (hb2.block _ (Array.getElem?_eq_some_iff.1 hz1).1).trans hz1
      clear hb2 HH hz1
      have hb3 : Below w2.heap.size w2 (w2.alloc (Obj.cells #[.int .i64 (V 0), .int .i64 (V 1), .int .i64 (V 2), .int .i64 (V 3), .int .i64 (V 4), .int .i64 (V 5)] 85)) := (Below.refl _ _).alloc (Nat.le_refl _) _
      have hz3 := (hb3.block _ (Array.getElem?_eq_some_iff.1 hz2).1).trans hz2
      have y0 : (w2.alloc (Obj.cells #[.int .i64 (V 0), .int .i64 (V 1), .int .i64 (V 2), .int .i64 (V 3), .int .i64 (V 4), .int .i64 (V 5)] 85)).cell? ⟨w2.heap.size, 0, none⟩ = some (.int .i64 (V 0)) := cell_at (heap_new rfl) rfl
      have y1 : (w2.alloc (Obj.cells #[.int .i64 (V 0), .int .i64 (V 1), .int .i64 (V 2), .int .i64 (V 3), .int .i64 (V 4), .int .i64 (V 5)] 85)).cell? ⟨w2.heap.size, 1, none⟩ = some (.int .i64 (V 1)) := cell_at (heap_new rfl) rfl
      have y2 : (w2.alloc (Obj.cells #[.int .i64 (V 0), .int .i64 (V 1), .int .i64 (V 2), .int .i64 (V 3), .int .i64 (V 4), .int .i64 (V 5)] 85)).cell? ⟨w2.heap.size, 2, none⟩ = some (.int .i64 (V 2)) := cell_at (heap_new rfl) rfl
      have y3 : (w2.alloc (Obj.cells #[.int .i64 (V 0), .int .i64 (V 1), .int .i64 (V 2), .int .i64 (V 3), .int .i64 (V 4), .int .i64 (V 5)] 85)).cell? ⟨w2.heap.size, 3, none⟩ = some (.int .i64 (V 3)) := cell_at (heap_new rfl) rfl
      have y4 : (w2.alloc (Obj.cells #[.int .i64 (V 0), .int .i64 (V 1), .int .i64 (V 2), .int .i64 (V 3), .int .i64 (V 4), .int .i64 (V 5)] 85)).cell? ⟨w2.heap.size, 4, none⟩ = some (.int .i64 (V 4)) := cell_at (heap_new rfl) rfl
      have y5 : (w2.alloc (Obj.cells #[.int .i64 (V 0), .int .i64 (V 1), .int .i64 (V 2), .int .i64 (V 3), .int .i64 (V 4), .int .i64 (V 5)] 85)).cell? ⟨w2.heap.size, 5, none⟩ = some (.int .i64 (V 5)) := cell_at (heap_new rfl) rfl
      have hB3 := hB2.call hb3 rfl
      have HZ := Lib.hid hz3
      clear hb3 hz3 hz2 hB2
      go_wp2_with fail
      rw [HS.out, HD.out]
      refine (HX _).out.mono ?_
      rintro e w5 ⟨rfl, hb5⟩
      have hB5 := hB3.call hb5 rfl
      have hT5 := (hb5.block _ (Array.getElem?_eq_some_iff.1 HZ.out).1).trans HZ.out
      clear hb5 HX
      go_wp2_with (refine wpList_store_blk rfl 111 _ _ rfl w.heap.size _ rfl rfl hT5 ?s1 ?s2 ?s3 ?_)
      case s1 => rfl
      case s2 => kernel_rfl
      case s3 => simp [Value.oneCell']
      intro w3 h3 hg3 hs3
      have hB6 : Below w.heap.size w w3 := hB5.grown hg3 hB5.size (fun j hj => by cases hj; exact Nat.le_refl _)
      go_wp2
      exact bodyPost_ret (results_blk_tmp rfl rfl h3 _ Tryz.underlying111 rfl (by kernel_rfl)) rfl ⟨by rw [hU.out]; rfl, hB6⟩
  · have hd : Mo.downE l = Mo.entries l := by unfold Mo.downE; rw [if_pos hE]
    have hU : Hid (Mo.downV l = .agg #[.int .i64 0, .int .i64 0]) := by show _ = _; unfold Mo.downV; rw [hd, if_pos hE]
    rw [hd]
    obtain ⟨U, hUe⟩ : ∃ U, U = Mo.downV l := ⟨_, rfl⟩
    rw [← hUe] at hU ⊢
    obtain ⟨n, hn⟩ : ∃ n, n = l.length := ⟨_, rfl⟩
    rw [← hn] at HC ⊢
    obtain ⟨E, hEe⟩ : ∃ E, E = Mo.entries l := ⟨_, rfl⟩
    rw [← hEe] at HC hE ⊢
    have hE' : (E != 0) = true := by simpa using hE
    clear hUe hd H hn hEe hE
    go_enter Tryz.func59, Tryz.ntmps59
    go_wp2_with fail
    refine HC.out.mono ?_
    rintro e w1 ⟨rfl, hb1⟩
    have hB1 := hB0.call hb1 rfl
    have hz1 : w1.heap[w.heap.size]? = some (Obj.cells #[.int .i64 0, .int .i64 0] 111) := (hb1.block _ (by simp)).trans (heap_new rfl)
    clear hb1 HC hB0
    go_wp2_with (refine wpList_store_blk rfl 111 _ _ rfl w.heap.size _ rfl rfl hz1 ?s1 ?s2 ?s3 ?_)
    case s1 => rfl
    case s2 => kernel_rfl
    case s3 => simp [Value.oneCell']
    intro w3 h3 hg3 hs3
    have hB6 : Below w.heap.size w w3 := hB1.grown hg3 hB1.size (fun j hj => by cases hj; exact Nat.le_refl _)
    go_wp2
    exact bodyPost_ret (results_blk_tmp rfl rfl h3 _ Tryz.underlying111 rfl (by kernel_rfl)) rfl ⟨by rw [hU.out]; rfl, hB6⟩

end Go.Proofs.YtndhjkammoeikaaGreatDoor
namespace Go.Proofs.YtndhjkammoeikaaGreatDoor
/-- a contract: the six rates, and three numbers -/
structure Con where
  r : Nat → Int
  free : Int
  bonus : Int
  pen : Int
def Con.enc (c : Con) : List Value := [.int .i64 (c.r 0), .int .i64 (c.r 1), .int .i64 (c.r 2), .int .i64 (c.r 3), .int .i64 (c.r 4), .int .i64 (c.r 5), .int .i64 c.free, .int .i64 c.bonus, .int .i64 c.pen]
namespace Mo
def rr (c : Con) : Nat → Int := fun k => range (c.r k) (-10000) 10000
def con3 (c : Con) : Int := first [range c.free 0 100000, range c.bonus 0 10000, range c.pen 0 10000]
def con (c : Con) : Int := if first ((List.range 6).map (rr c)) ≠ 0 then first ((List.range 6).map (rr c)) else con3 c
structure COk (c : Con) : Prop where
  r : ∀ k, k < 6 → -10000 ≤ c.r k ∧ c.r k ≤ 10000
  free : 0 ≤ c.free ∧ c.free ≤ 100000
  bonus : 0 ≤ c.bonus ∧ c.bonus ≤ 10000
  pen : 0 ≤ c.pen ∧ c.pen ≤ 10000
theorem con_ok {c : Con} (h : con c = 0) : COk c := by
  unfold con at h
  split at h
  · rename_i h1; exact absurd h h1
  · rename_i h1
    have h2 : first ((List.range 6).map (rr c)) = 0 := by simpa using h1
    have h3 := first_zero h2
    have h4 := first_zero h
    exact ⟨fun k hk => range_zero (h3 (rr c k) (List.mem_map.2 ⟨k, List.mem_range.2 hk, rfl⟩)), range_zero (h4 (range c.free 0 100000) (by simp)), range_zero (h4 (range c.bonus 0 10000) (by simp)), range_zero (h4 (range c.pen 0 10000) (by simp))⟩
end Mo
end Go.Proofs.YtndhjkammoeikaaGreatDoor
namespace Go.Proofs.YtndhjkammoeikaaGreatDoor
open Go.RowKit
set_option maxHeartbeats 1000000
set_option maxRecDepth 20000

theorem c155 (c : Con) (w : World) : Calls Tryz.prog 155 #[.agg #[.int .i64 (c.r 0), .int .i64 (c.r 1), .int .i64 (c.r 2), .int .i64 (c.r 3), .int .i64 (c.r 4), .int .i64 (c.r 5), .int .i64 c.free, .int .i64 c.bonus, .int .i64 c.pen]] w fun en w' => en = .returned (.int .i64 (c.r 0)) ∧ Below w.heap.size w w' := by
  have hB : Below w.heap.size w (w.alloc (Obj.cells #[.int .i64 (c.r 0), .int .i64 (c.r 1), .int .i64 (c.r 2), .int .i64 (c.r 3), .int .i64 (c.r 4), .int .i64 (c.r 5), .int .i64 c.free, .int .i64 c.bonus, .int .i64 c.pen] 130)) := ((Below.refl _ _).alloc (by first | omega | (simp <;> omega)) _)
  go_enter Tryz.func155, Tryz.ntmps155
  go_wp2
  go_ret
  exact ⟨rfl, hB⟩

theorem c156 (c : Con) (w : World) : Calls Tryz.prog 156 #[.agg #[.int .i64 (c.r 0), .int .i64 (c.r 1), .int .i64 (c.r 2), .int .i64 (c.r 3), .int .i64 (c.r 4), .int .i64 (c.r 5), .int .i64 c.free, .int .i64 c.bonus, .int .i64 c.pen]] w fun en w' => en = .returned (.int .i64 (c.r 1)) ∧ Below w.heap.size w w' := by
  have hB : Below w.heap.size w (w.alloc (Obj.cells #[.int .i64 (c.r 0), .int .i64 (c.r 1), .int .i64 (c.r 2), .int .i64 (c.r 3), .int .i64 (c.r 4), .int .i64 (c.r 5), .int .i64 c.free, .int .i64 c.bonus, .int .i64 c.pen] 130)) := ((Below.refl _ _).alloc (by first | omega | (simp <;> omega)) _)
  go_enter Tryz.func156, Tryz.ntmps156
  go_wp2
  go_ret
  exact ⟨rfl, hB⟩

theorem c157 (c : Con) (w : World) : Calls Tryz.prog 157 #[.agg #[.int .i64 (c.r 0), .int .i64 (c.r 1), .int .i64 (c.r 2), .int .i64 (c.r 3), .int .i64 (c.r 4), .int .i64 (c.r 5), .int .i64 c.free, .int .i64 c.bonus, .int .i64 c.pen]] w fun en w' => en = .returned (.int .i64 (c.r 2)) ∧ Below w.heap.size w w' := by
  have hB : Below w.heap.size w (w.alloc (Obj.cells #[.int .i64 (c.r 0), .int .i64 (c.r 1), .int .i64 (c.r 2), .int .i64 (c.r 3), .int .i64 (c.r 4), .int .i64 (c.r 5), .int .i64 c.free, .int .i64 c.bonus, .int .i64 c.pen] 130)) := ((Below.refl _ _).alloc (by first | omega | (simp <;> omega)) _)
  go_enter Tryz.func157, Tryz.ntmps157
  go_wp2
  go_ret
  exact ⟨rfl, hB⟩

theorem c158 (c : Con) (w : World) : Calls Tryz.prog 158 #[.agg #[.int .i64 (c.r 0), .int .i64 (c.r 1), .int .i64 (c.r 2), .int .i64 (c.r 3), .int .i64 (c.r 4), .int .i64 (c.r 5), .int .i64 c.free, .int .i64 c.bonus, .int .i64 c.pen]] w fun en w' => en = .returned (.int .i64 (c.r 3)) ∧ Below w.heap.size w w' := by
  have hB : Below w.heap.size w (w.alloc (Obj.cells #[.int .i64 (c.r 0), .int .i64 (c.r 1), .int .i64 (c.r 2), .int .i64 (c.r 3), .int .i64 (c.r 4), .int .i64 (c.r 5), .int .i64 c.free, .int .i64 c.bonus, .int .i64 c.pen] 130)) := ((Below.refl _ _).alloc (by first | omega | (simp <;> omega)) _)
  go_enter Tryz.func158, Tryz.ntmps158
  go_wp2
  go_ret
  exact ⟨rfl, hB⟩

theorem c159 (c : Con) (w : World) : Calls Tryz.prog 159 #[.agg #[.int .i64 (c.r 0), .int .i64 (c.r 1), .int .i64 (c.r 2), .int .i64 (c.r 3), .int .i64 (c.r 4), .int .i64 (c.r 5), .int .i64 c.free, .int .i64 c.bonus, .int .i64 c.pen]] w fun en w' => en = .returned (.int .i64 (c.r 4)) ∧ Below w.heap.size w w' := by
  have hB : Below w.heap.size w (w.alloc (Obj.cells #[.int .i64 (c.r 0), .int .i64 (c.r 1), .int .i64 (c.r 2), .int .i64 (c.r 3), .int .i64 (c.r 4), .int .i64 (c.r 5), .int .i64 c.free, .int .i64 c.bonus, .int .i64 c.pen] 130)) := ((Below.refl _ _).alloc (by first | omega | (simp <;> omega)) _)
  go_enter Tryz.func159, Tryz.ntmps159
  go_wp2
  go_ret
  exact ⟨rfl, hB⟩

theorem c160 (c : Con) (w : World) : Calls Tryz.prog 160 #[.agg #[.int .i64 (c.r 0), .int .i64 (c.r 1), .int .i64 (c.r 2), .int .i64 (c.r 3), .int .i64 (c.r 4), .int .i64 (c.r 5), .int .i64 c.free, .int .i64 c.bonus, .int .i64 c.pen]] w fun en w' => en = .returned (.int .i64 (c.r 5)) ∧ Below w.heap.size w w' := by
  have hB : Below w.heap.size w (w.alloc (Obj.cells #[.int .i64 (c.r 0), .int .i64 (c.r 1), .int .i64 (c.r 2), .int .i64 (c.r 3), .int .i64 (c.r 4), .int .i64 (c.r 5), .int .i64 c.free, .int .i64 c.bonus, .int .i64 c.pen] 130)) := ((Below.refl _ _).alloc (by first | omega | (simp <;> omega)) _)
  go_enter Tryz.func160, Tryz.ntmps160
  go_wp2
  go_ret
  exact ⟨rfl, hB⟩

def ratesV : Value := .agg #[.string Mo.shoot, .func (.func 155) #[] #[], .string Mo.turn, .func (.func 156) #[] #[], .string Mo.weather, .func (.func 157) #[] #[], .string Mo.animal, .func (.func 158) #[] #[], .string Mo.gear, .func (.func 159) #[] #[], .string Mo.share, .func (.func 160) #[] #[]]
theorem c123 (w : World) : Calls Tryz.prog 123 #[] w fun en w' => en = .returned (ratesV) ∧ Below w.heap.size w w' := by
  go_enter Tryz.func123, Tryz.ntmps123
  go_wp2_with (refine wpList_store_blk rfl 207 _ _ rfl w.heap.size _ rfl rfl (heap_new rfl) ?s1 ?s2 ?s3 ?_)
  case s1 => rfl
  case s2 => kernel_rfl
  case s3 => simp [Value.oneCell']
  intro w3 h3 hg3 hs3
  have hB3 : Below w.heap.size w w3 := (show Below w.heap.size w (w.alloc _) from (Below.refl _ _).alloc (Nat.le_refl _) _).grown hg3 (by simp) (fun j hj => by cases hj; exact Nat.le_refl _)
  go_wp2
  exact bodyPost_ret (results_blk rfl rfl h3 _ Tryz.underlying207 rfl (by kernel_rfl)) rfl ⟨rfl, hB3⟩

end Go.Proofs.YtndhjkammoeikaaGreatDoor
