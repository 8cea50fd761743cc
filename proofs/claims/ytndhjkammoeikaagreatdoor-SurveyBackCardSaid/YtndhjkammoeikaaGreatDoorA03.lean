/- A part of the proofs about chapter 9: contracts of functions and plain laws (W12, W13, Model6, Fill, W14, W15, Own, W16, W17, Model7). -/
import Derived.Laws.MakeOwn
import Derived.WalkKit
import Derived.Test.YtndhjkammoeikaaGreatDoorA02
set_option linter.all false
namespace Go.Proofs.YtndhjkammoeikaaGreatDoor
open Go.RowKit
set_option maxHeartbeats 1000000
set_option maxRecDepth 20000

theorem c93 (v : Ves) (u : Wat) (A : Option Addr) (cap : Nat) (l : List Sgt) (k : Int) (w : World) (hv : VOk v) (hu : WOk u) (hl : l.length ≤ 64 ∧ ∀ s ∈ l, SOk s) (hk : 0 ≤ k ∧ k ≤ 4096) (H : RdL w 3 Sgt.enc A l) :
    Calls Tryz.prog 93 #[.agg #[.int .i64 v.sx, .int .i64 v.sy, .int .i64 v.dx, .int .i64 v.dy, .int .i64 v.n], .agg #[.int .i64 u.ring, .int .i64 u.speed, .int .i64 u.loss, .int .i64 u.clear, .int .i64 u.soft], .slice A l.length cap, .int .i64 k] w fun en w' => en = .returned (.bool (Mo.inside v u l k)) ∧ Below w.heap.size w w' := by
  obtain ⟨W, hW⟩ : ∃ W, W = (w.alloc (Obj.cells #[.int .i64 v.sx, .int .i64 v.sy, .int .i64 v.dx, .int .i64 v.dy, .int .i64 v.n] 25)).alloc (Obj.cells #[.int .i64 u.ring, .int .i64 u.speed, .int .i64 u.loss, .int .i64 u.clear, .int .i64 u.soft] 27) := ⟨_, rfl⟩
  have hT0 : W.heap[w.heap.size]? = some (.cells #[.int .i64 v.sx, .int .i64 v.sy, .int .i64 v.dx, .int .i64 v.dy, .int .i64 v.n] 25 (0, 0)) := by rw [hW]; exact heap_old (by simp <;> omega) (heap_new (by simp))
  have h0_0 : W.cell? ⟨w.heap.size, 0, none⟩ = some (.int .i64 v.sx) := cell_at hT0 rfl
  have h0_1 : W.cell? ⟨w.heap.size, 1, none⟩ = some (.int .i64 v.sy) := cell_at hT0 rfl
  have h0_2 : W.cell? ⟨w.heap.size, 2, none⟩ = some (.int .i64 v.dx) := cell_at hT0 rfl
  have h0_3 : W.cell? ⟨w.heap.size, 3, none⟩ = some (.int .i64 v.dy) := cell_at hT0 rfl
  have h0_4 : W.cell? ⟨w.heap.size, 4, none⟩ = some (.int .i64 v.n) := cell_at hT0 rfl
  have hT1 : W.heap[w.heap.size + 1]? = some (.cells #[.int .i64 u.ring, .int .i64 u.speed, .int .i64 u.loss, .int .i64 u.clear, .int .i64 u.soft] 27 (0, 0)) := by rw [hW]; exact heap_new (by simp)
  have h1_0 : W.cell? ⟨w.heap.size + 1, 0, none⟩ = some (.int .i64 u.ring) := cell_at hT1 rfl
  have h1_1 : W.cell? ⟨w.heap.size + 1, 1, none⟩ = some (.int .i64 u.speed) := cell_at hT1 rfl
  have h1_2 : W.cell? ⟨w.heap.size + 1, 2, none⟩ = some (.int .i64 u.loss) := cell_at hT1 rfl
  have h1_3 : W.cell? ⟨w.heap.size + 1, 3, none⟩ = some (.int .i64 u.clear) := cell_at hT1 rfl
  have h1_4 : W.cell? ⟨w.heap.size + 1, 4, none⟩ = some (.int .i64 u.soft) := cell_at hT1 rfl
  have hs : w.heap.size + 2 = W.heap.size := by rw [hW]; simp
  have hB : Below w.heap.size w W := by rw [hW]; exact (((Below.refl _ _).alloc (by simp <;> omega) _).alloc (by simp <;> omega) _)
  have hs0 : w.heap.size < W.heap.size := by omega
  have hs1 : w.heap.size + 1 < W.heap.size := by omega
  have HS := Lib.hid hs
  clear hs hT0 hT1
  obtain ⟨n, hn⟩ : ∃ n, n = l.length := ⟨_, rfl⟩
  have hln : n ≤ 64 := by rw [hn]; exact hl.1
  have HL := Lib.hid hl.2
  rw [← hn]
  have Hn := Lib.hid hn
  clear hn hl
  have HW := H.below hB
  clear H
  have h1 := Mo.mul_bd (a := k) (b := v.dx) (A := 4096) (B := 1000) (by omega) hv.dx
  have h2 := Mo.mul_bd (a := k) (b := v.dy) (A := 4096) (B := 1000) (by omega) hv.dy
  have h3 := hv.sx
  have h4 := hv.sy
  have h7 := hu.loss
  have h8 := hu.ring
  have h9 := hu.speed
  go_enter Tryz.func93, Tryz.ntmps93
  go_wp2
  rw [← hW]
  clear hW
  go_loopw [9] (fun i wr => ∃ j : Nat, j ≤ n ∧ i = .int .i64 j ∧ Below W.heap.size W wr ∧ Mo.inside v u l k = (l.drop j).any fun s => Mo.near v u s k) (fun i _ => n - (intOf i).toNat)
  case atStart => exact ⟨0, Nat.zero_le _, rfl, Below.refl _ _, rfl⟩
  case round =>
    obtain ⟨j, hj, rfl, hBr, he⟩ := hrel
    have HE := Lib.hid he
    clear he
    by_cases hlt : j < n
    · obtain ⟨b, off, s, rfl, hx, hb, hc⟩ := (HW.below hBr).at Sgt.len (by rw [← Hn.out]; exact hlt)
      have hso := HL.out s (List.mem_of_getElem? hx)
      have g1 := hso.t
      have g2 := hso.x
      have g3 := hso.y
      have q0 : wr.cell? ⟨b, off + j * 3, none⟩ = some (.int .i64 s.t) := hc 0 (by omega)
      have q1 : wr.cell? ⟨b, off + j * 3 + 1, none⟩ = some (.int .i64 s.x) := hc 1 (by omega)
      have q2 : wr.cell? ⟨b, off + j * 3 + 2, none⟩ = some (.int .i64 s.y) := hc 2 (by omega)
      have hd : l.drop j = s :: l.drop (j + 1) := by
        obtain ⟨hk, rfl⟩ := List.getElem?_eq_some_iff.1 hx
        exact List.drop_eq_getElem_cons hk
      have HD : Hid (Mo.inside v u l k = (Mo.near v u s k || (l.drop (j + 1)).any fun s => Mo.near v u s k)) := by show _ = _; rw [HE.out, hd]; rfl
      obtain ⟨hcr, hfr⟩ := bcell hBr
      have e0 : wr.cell? ⟨w.heap.size, 0, none⟩ = some (.int .i64 v.sx) := (hcr _ _ hs0).trans h0_0
      have e1 : wr.cell? ⟨w.heap.size, 1, none⟩ = some (.int .i64 v.sy) := (hcr _ _ hs0).trans h0_1
      have e2 : wr.cell? ⟨w.heap.size, 2, none⟩ = some (.int .i64 v.dx) := (hcr _ _ hs0).trans h0_2
      have e3 : wr.cell? ⟨w.heap.size, 3, none⟩ = some (.int .i64 v.dy) := (hcr _ _ hs0).trans h0_3
      have e4 : wr.cell? ⟨w.heap.size, 4, none⟩ = some (.int .i64 v.n) := (hcr _ _ hs0).trans h0_4
      have f0 : wr.cell? ⟨w.heap.size + 1, 0, none⟩ = some (.int .i64 u.ring) := (hcr _ _ hs1).trans h1_0
      have f1 : wr.cell? ⟨w.heap.size + 1, 1, none⟩ = some (.int .i64 u.speed) := (hcr _ _ hs1).trans h1_1
      have f2 : wr.cell? ⟨w.heap.size + 1, 2, none⟩ = some (.int .i64 u.loss) := (hcr _ _ hs1).trans h1_2
      have f3 : wr.cell? ⟨w.heap.size + 1, 3, none⟩ = some (.int .i64 u.clear) := (hcr _ _ hs1).trans h1_3
      have f4 : wr.cell? ⟨w.heap.size + 1, 4, none⟩ = some (.int .i64 u.soft) := (hcr _ _ hs1).trans h1_4
      have z0 : w.heap.size < wr.heap.size := Nat.lt_of_lt_of_le hs0 hBr.size
      have z1 : w.heap.size + 1 < wr.heap.size := Nat.lt_of_lt_of_le hs1 hBr.size
      clear hc hx hd hcr hfr h0_0 h0_1 h0_2 h0_3 h0_4 h1_0 h1_1 h1_2 h1_3 h1_4
      by_cases hage : k - s.t < 0 ∨ u.loss < k - s.t
      · have hfin : Hid (Mo.near v u s k = false) := by show _ = _; unfold Mo.near; rw [if_pos hage]
        rcases hage with hage | hage
        · go_wp2
          go_roundw
          case rel => exact ⟨j+1, by omega, by go_num, hBr, by rw [HD.out, hfin.out]; rfl⟩
          case measure => simp [intOf]; omega
        · have hage' : ¬ k - s.t < 0 := by omega
          go_wp2
          go_roundw
          case rel => exact ⟨j+1, by omega, by go_num, hBr, by rw [HD.out, hfin.out]; rfl⟩
          case measure => simp [intOf]; omega
      · have ha1 : 0 ≤ k - s.t := by omega
        have ha2 : k - s.t ≤ u.loss := by omega
        have p1 := Mo.mul_bd (a := u.speed) (b := k - s.t) (A := 1000) (B := 1000) (by omega) (by omega)
        have p2 := Mo.mul_bd (a := v.sx + k * v.dx - s.x) (b := v.sx + k * v.dx - s.x) (A := 4296000) (B := 4296000) (by omega) (by omega)
        have p3 := Mo.mul_bd (a := v.sy + k * v.dy - s.y) (b := v.sy + k * v.dy - s.y) (A := 4296000) (B := 4296000) (by omega) (by omega)
        have p4 := Mo.mul_bd (a := u.ring + u.speed * (k - s.t)) (b := u.ring + u.speed * (k - s.t)) (A := 1010000) (B := 1010000) (by omega) (by omega)
        have hfin : Hid (Mo.near v u s k = decide ((v.sx + k * v.dx - s.x) * (v.sx + k * v.dx - s.x) + (v.sy + k * v.dy - s.y) * (v.sy + k * v.dy - s.y) ≤ (u.ring + u.speed * (k - s.t)) * (u.ring + u.speed * (k - s.t)))) := by show _ = _; unfold Mo.near; rw [if_neg hage]
        go_wp2
        refine wp_region_growG (by kernel_rfl) (by kernel_rfl) ?_
        repeat (go_big_quiet_step ((first | fail)))
        refine wpQuiet_nil (gw_out ?_)
        intro w3 hb3
        have hB3 := hBr.trans (hb3.mono hBr.size)
        obtain ⟨hcr, hfr⟩ := bcell hb3
        go_wp2
        · go_ret
          exact ⟨ret_bool (by rw [HD.out, hfin.out]; have := ‹(_ : Int) ≤ (u.ring + u.speed * (k - s.t)) * (u.ring + u.speed * (k - s.t))›; simp [this]), fin0 hB hB3⟩
        · go_roundw
          case rel => exact ⟨j+1, by omega, by go_num, hB3, by rw [HD.out, hfin.out, decide_eq_false (by omega)]; rfl⟩
          case measure => simp [intOf]; omega
    · go_wp2
      go_ret
      exact ⟨ret_bool (by rw [HE.out, List.drop_of_length_le (by rw [← Hn.out]; omega)]; rfl), fin0 hB hBr⟩

end Go.Proofs.YtndhjkammoeikaaGreatDoor
namespace Go.Proofs.YtndhjkammoeikaaGreatDoor
open Go.RowKit
set_option maxHeartbeats 1000000
set_option maxRecDepth 20000

theorem c146 (v : Ves) (u : Wat) (A : Option Addr) (n cap : Nat) (s : Sgt) (k : Int) (pb pk : Nat) (w : World) (hv : VOk v) (hu : WOk u) (hs : SOk s) (hk : 0 ≤ k ∧ k ≤ 4096) (hpb : pb < w.heap.size) (hpk : pk < w.heap.size)
    (hb0 : w.cell? ⟨pb, 0, none⟩ = some (.int .i64 u.ring)) (hb1 : w.cell? ⟨pb, 1, none⟩ = some (.int .i64 u.speed)) (hb2 : w.cell? ⟨pb, 2, none⟩ = some (.int .i64 u.loss)) (hb3 : w.cell? ⟨pb, 3, none⟩ = some (.int .i64 u.clear)) (hb4 : w.cell? ⟨pb, 4, none⟩ = some (.int .i64 u.soft)) (hb5 : w.cell? ⟨pb, 5, none⟩ = some (.int .i64 v.sx)) (hb6 : w.cell? ⟨pb, 6, none⟩ = some (.int .i64 v.sy)) (hb7 : w.cell? ⟨pb, 7, none⟩ = some (.int .i64 v.dx)) (hb8 : w.cell? ⟨pb, 8, none⟩ = some (.int .i64 v.dy)) (hb9 : w.cell? ⟨pb, 9, none⟩ = some (.int .i64 v.n)) (hb10 : w.cell? ⟨pb, 10, none⟩ = some (.slice A n cap)) (hkk : w.cell? ⟨pk, 0, none⟩ = some (.int .i64 k)) :
    Calls Tryz.prog 146 #[.agg #[.int .i64 s.t, .int .i64 s.x, .int .i64 s.y], .pointer (some ⟨pb, 0, none⟩), .pointer (some ⟨pk, 0, none⟩)] w fun en w' => en = .returned (.bool (Mo.near v u s k)) ∧ Below w.heap.size w w' := by
  have hne1 : pb ≠ w.heap.size := by omega
  have hne2 : pk ≠ w.heap.size := by omega
  have hq0 : (w.alloc (Obj.cells #[.int .i64 s.t, .int .i64 s.x, .int .i64 s.y] 166)).cell? ⟨pb, 0, none⟩ = some (.int .i64 u.ring) := by rw [World.cell?_alloc_lt _ _ _ hpb]; exact hb0
  have hq1 : (w.alloc (Obj.cells #[.int .i64 s.t, .int .i64 s.x, .int .i64 s.y] 166)).cell? ⟨pb, 1, none⟩ = some (.int .i64 u.speed) := by rw [World.cell?_alloc_lt _ _ _ hpb]; exact hb1
  have hq2 : (w.alloc (Obj.cells #[.int .i64 s.t, .int .i64 s.x, .int .i64 s.y] 166)).cell? ⟨pb, 2, none⟩ = some (.int .i64 u.loss) := by rw [World.cell?_alloc_lt _ _ _ hpb]; exact hb2
  have hq3 : (w.alloc (Obj.cells #[.int .i64 s.t, .int .i64 s.x, .int .i64 s.y] 166)).cell? ⟨pb, 3, none⟩ = some (.int .i64 u.clear) := by rw [World.cell?_alloc_lt _ _ _ hpb]; exact hb3
  have hq4 : (w.alloc (Obj.cells #[.int .i64 s.t, .int .i64 s.x, .int .i64 s.y] 166)).cell? ⟨pb, 4, none⟩ = some (.int .i64 u.soft) := by rw [World.cell?_alloc_lt _ _ _ hpb]; exact hb4
  have hq5 : (w.alloc (Obj.cells #[.int .i64 s.t, .int .i64 s.x, .int .i64 s.y] 166)).cell? ⟨pb, 5, none⟩ = some (.int .i64 v.sx) := by rw [World.cell?_alloc_lt _ _ _ hpb]; exact hb5
  have hq6 : (w.alloc (Obj.cells #[.int .i64 s.t, .int .i64 s.x, .int .i64 s.y] 166)).cell? ⟨pb, 6, none⟩ = some (.int .i64 v.sy) := by rw [World.cell?_alloc_lt _ _ _ hpb]; exact hb6
  have hq7 : (w.alloc (Obj.cells #[.int .i64 s.t, .int .i64 s.x, .int .i64 s.y] 166)).cell? ⟨pb, 7, none⟩ = some (.int .i64 v.dx) := by rw [World.cell?_alloc_lt _ _ _ hpb]; exact hb7
  have hq8 : (w.alloc (Obj.cells #[.int .i64 s.t, .int .i64 s.x, .int .i64 s.y] 166)).cell? ⟨pb, 8, none⟩ = some (.int .i64 v.dy) := by rw [World.cell?_alloc_lt _ _ _ hpb]; exact hb8
  have hq9 : (w.alloc (Obj.cells #[.int .i64 s.t, .int .i64 s.x, .int .i64 s.y] 166)).cell? ⟨pb, 9, none⟩ = some (.int .i64 v.n) := by rw [World.cell?_alloc_lt _ _ _ hpb]; exact hb9
  have hq10 : (w.alloc (Obj.cells #[.int .i64 s.t, .int .i64 s.x, .int .i64 s.y] 166)).cell? ⟨pb, 10, none⟩ = some (.slice A n cap) := by rw [World.cell?_alloc_lt _ _ _ hpb]; exact hb10
  have hqk : (w.alloc (Obj.cells #[.int .i64 s.t, .int .i64 s.x, .int .i64 s.y] 166)).cell? ⟨pk, 0, none⟩ = some (.int .i64 k) := by rw [World.cell?_alloc_lt _ _ _ hpk]; exact hkk
  clear hb0 hb1 hb2 hb3 hb4 hb5 hb6 hb7 hb8 hb9 hb10 hkk
  go_enter Tryz.func146, Tryz.ntmps146
  go_wp2_with fail
  refine (c147 v u A n cap s k _ hv hu hs hk).mono ?_
  rintro e w1 ⟨rfl, hb1⟩
  go_wp2
  go_ret
  exact ⟨rfl, ((Below.refl _ _).alloc (Nat.le_refl _) _).call hb1 rfl⟩

theorem c88 (v : Ves) (u : Wat) (A : Option Addr) (cap : Nat) (l : List Sgt) (k : Int) (w : World) (hv : VOk v) (hu : WOk u) (hl : l.length ≤ 64 ∧ ∀ s ∈ l, SOk s) (hk : 0 ≤ k ∧ k ≤ 4096) (H : RdL w 3 Sgt.enc A l) :
    Calls Tryz.prog 88 #[.agg #[.int .i64 u.ring, .int .i64 u.speed, .int .i64 u.loss, .int .i64 u.clear, .int .i64 u.soft, .int .i64 v.sx, .int .i64 v.sy, .int .i64 v.dx, .int .i64 v.dy, .int .i64 v.n, .slice A l.length cap], .int .i64 k] w fun en w' => en = .returned (.bool (Mo.inside v u l k)) ∧ Below w.heap.size w w' := by
  obtain ⟨W, hW⟩ : ∃ W, W = (w.alloc (Obj.cells #[.int .i64 u.ring, .int .i64 u.speed, .int .i64 u.loss, .int .i64 u.clear, .int .i64 u.soft, .int .i64 v.sx, .int .i64 v.sy, .int .i64 v.dx, .int .i64 v.dy, .int .i64 v.n, .slice A l.length cap] 162)).alloc (Obj.cells #[.int .i64 k] 3) := ⟨_, rfl⟩
  have hT0 : W.heap[w.heap.size]? = some (.cells #[.int .i64 u.ring, .int .i64 u.speed, .int .i64 u.loss, .int .i64 u.clear, .int .i64 u.soft, .int .i64 v.sx, .int .i64 v.sy, .int .i64 v.dx, .int .i64 v.dy, .int .i64 v.n, .slice A l.length cap] 162 (0, 0)) := by rw [hW]; exact heap_old (by simp <;> omega) (heap_new (by simp))
  have h0_0 : W.cell? ⟨w.heap.size, 0, none⟩ = some (.int .i64 u.ring) := cell_at hT0 rfl
  have h0_1 : W.cell? ⟨w.heap.size, 1, none⟩ = some (.int .i64 u.speed) := cell_at hT0 rfl
  have h0_2 : W.cell? ⟨w.heap.size, 2, none⟩ = some (.int .i64 u.loss) := cell_at hT0 rfl
  have h0_3 : W.cell? ⟨w.heap.size, 3, none⟩ = some (.int .i64 u.clear) := cell_at hT0 rfl
  have h0_4 : W.cell? ⟨w.heap.size, 4, none⟩ = some (.int .i64 u.soft) := cell_at hT0 rfl
  have h0_5 : W.cell? ⟨w.heap.size, 5, none⟩ = some (.int .i64 v.sx) := cell_at hT0 rfl
  have h0_6 : W.cell? ⟨w.heap.size, 6, none⟩ = some (.int .i64 v.sy) := cell_at hT0 rfl
  have h0_7 : W.cell? ⟨w.heap.size, 7, none⟩ = some (.int .i64 v.dx) := cell_at hT0 rfl
  have h0_8 : W.cell? ⟨w.heap.size, 8, none⟩ = some (.int .i64 v.dy) := cell_at hT0 rfl
  have h0_9 : W.cell? ⟨w.heap.size, 9, none⟩ = some (.int .i64 v.n) := cell_at hT0 rfl
  have h0_10 : W.cell? ⟨w.heap.size, 10, none⟩ = some (.slice A l.length cap) := cell_at hT0 rfl
  have hT1 : W.heap[w.heap.size + 1]? = some (.cells #[.int .i64 k] 3 (0, 0)) := by rw [hW]; exact heap_new (by simp)
  have h1_0 : W.cell? ⟨w.heap.size + 1, 0, none⟩ = some (.int .i64 k) := cell_at hT1 rfl
  have hs : w.heap.size + 2 = W.heap.size := by rw [hW]; simp
  have hB : Below w.heap.size w W := by rw [hW]; exact (((Below.refl _ _).alloc (by simp <;> omega) _).alloc (by simp <;> omega) _)
  have hs0 : w.heap.size < W.heap.size := by omega
  have hs1 : w.heap.size + 1 < W.heap.size := by omega
  have HS := Lib.hid hs
  clear hs hT0 hT1
  have HC := Lib.hid (c145 A cap l ⟨w.heap.size, 0, none⟩ ⟨w.heap.size + 1, 0, none⟩ (fun s => Mo.near v u s k) W (by omega) (H.below hB) (fun W' x hx hb =>
    c146 v u A l.length cap x k w.heap.size (w.heap.size + 1) W' hv hu (hl.2 x hx) hk (Nat.lt_of_lt_of_le hs0 hb.size) (Nat.lt_of_lt_of_le hs1 hb.size)
      (((bcell hb).1 _ _ hs0).trans h0_0) (((bcell hb).1 _ _ hs0).trans h0_1) (((bcell hb).1 _ _ hs0).trans h0_2) (((bcell hb).1 _ _ hs0).trans h0_3) (((bcell hb).1 _ _ hs0).trans h0_4) (((bcell hb).1 _ _ hs0).trans h0_5) (((bcell hb).1 _ _ hs0).trans h0_6) (((bcell hb).1 _ _ hs0).trans h0_7) (((bcell hb).1 _ _ hs0).trans h0_8) (((bcell hb).1 _ _ hs0).trans h0_9) (((bcell hb).1 _ _ hs0).trans h0_10) (((bcell hb).1 _ _ hs1).trans h1_0)))
  clear H
  go_enter Tryz.func88, Tryz.ntmps88
  go_wp2_with fail
  rw [← hW]
  clear hW
  go_wp2_with fail
  refine HC.out.mono ?_
  rintro e w1 ⟨rfl, hb1⟩
  go_wp2
  go_ret
  exact ⟨rfl, fin0 hB hb1⟩

end Go.Proofs.YtndhjkammoeikaaGreatDoor
namespace Go.Proofs.YtndhjkammoeikaaGreatDoor
namespace Mo
/-- for each tick whether an animal may be inside -/
def insides (v : Ves) (u : Wat) (l : List Sgt) : List Bool := (List.range v.n.toNat).map fun (t : Nat) => inside v u l t
/-- how many ticks it has been quiet behind tick number t -/
def quiet (v : Ves) (u : Wat) (l : List Sgt) : Nat → Int
  | 0 => 0
  | t + 1 => if inside v u l t then 0 else quiet v u l t + 1
theorem quiet_bd (v : Ves) (u : Wat) (l : List Sgt) (t : Nat) : 0 ≤ quiet v u l t ∧ quiet v u l t ≤ t := by
  induction t with
  | zero => simp [quiet]
  | succ t ih => unfold quiet; split <;> omega
def level (v : Ves) (u : Wat) (l : List Sgt) (t : Nat) : Int := min (u.soft + 1) (max 0 (quiet v u l (t + 1) - u.clear))
def levels (v : Ves) (u : Wat) (l : List Sgt) : List Int := (List.range v.n.toNat).map (level v u l)
end Mo
end Go.Proofs.YtndhjkammoeikaaGreatDoor
/- A slice of one-cell elements that the call makes at its full length and fills from the left. -/
namespace Go.Proofs.YtndhjkammoeikaaGreatDoor
open Go.RowKit
def fillA (z : Value) (f : Nat → Value) (n k : Nat) : Array Value := ((List.range n).map fun i => if i < k then f i else z).toArray
theorem fillA_size (z : Value) (f : Nat → Value) (n k : Nat) : (fillA z f n k).size = n := by simp [fillA]
theorem fillA_get (z : Value) (f : Nat → Value) (n k j : Nat) (h : j < n) : (fillA z f n k)[j]? = some (if j < k then f j else z) := by
  simp [fillA, h]
theorem fillA_set (z : Value) (f : Nat → Value) (n k : Nat) (h : k < n) : (fillA z f n k).setIfInBounds k (f k) = fillA z f n (k + 1) := by
  apply Array.ext_getElem?
  intro j
  rcases Nat.lt_or_ge j n with hj | hj
  · rw [fillA_get _ _ _ _ _ hj]
    by_cases hjk : k = j
    · subst hjk
      rw [Array.getElem?_setIfInBounds_self_of_lt (by rw [fillA_size]; exact h)]
      simp
    · rw [Array.getElem?_setIfInBounds_ne hjk, fillA_get _ _ _ _ _ hj]
      by_cases h1 : j < k
      · simp [h1, Nat.lt_succ_of_lt h1]
      · rw [if_neg h1, if_neg (by omega)]
  · rw [Array.getElem?_eq_none (by simp [fillA_size]; exact hj), Array.getElem?_eq_none (by rw [fillA_size]; exact hj)]
theorem fillA_full (z : Value) (f : Nat → Value) (n : Nat) : fillA z f n n = ((List.range n).map f).toArray := by
  unfold fillA
  congr 1
  apply List.map_congr_left
  intro i hi
  rw [if_pos (List.mem_range.1 hi)]
theorem madeCells_one (z : Value) (f : Nat → Value) (n : Nat) (h : z.cells = #[z]) : madeCells z.cells (n * 1) = fillA z f n 0 := by
  rw [h, Nat.mul_one]
  apply Array.ext_getElem?
  intro j
  rcases Nat.lt_or_ge j n with hj | hj
  · rw [fillA_get _ _ _ _ _ hj]
    simp [madeCells, hj, Nat.mod_one]
  · rw [Array.getElem?_eq_none (by rw [size_madeCells]; exact hj), Array.getElem?_eq_none (by rw [fillA_size]; exact hj)]
theorem run_make_fill {P : Program} (t e : TypeId) (i : TypeInfo) (z : Value) (f : Nat → Value) (ht : P.underlying t = some (.slice e)) (hi : P.info? e = some i) (hz : i.zero = some z) (hs : i.size = 1) (hc : z.cells = #[z])
    (n : Nat) (hn : n ≤ 100000000) (hb : i.bytes ≤ 1024) (w : World) :
    (Instr.makeSlice t (.int .i64 (n : Int)) (.int .i64 (n : Int))).run P w = .ok (.slice (some ⟨w.heap.size, 0, none⟩) n n) (w.alloc (.cells (fillA z f n 0) e)) := by
  have hbb : (i.bytes : Int) * (n : Int) ≤ 281474976710656 := by
    have h : i.bytes * n ≤ 1024 * 100000000 := Nat.mul_le_mul hb hn
    have h2 : ((i.bytes * n : Nat) : Int) ≤ 281474976710656 := by omega
    rwa [Int.natCast_mul] at h2
  have hr := run_make (P := P) w t e i z ht hi hz .i64 .i64 n n (by omega) (by omega) hbb (by omega)
  simp only [Int.toNat_natCast, hs] at hr
  rw [hr, madeCells_one z f n hc]
/-- one cell of a block written -/
theorem set_blk {w : World} {g i : Nat} {cs : Array Value} {t : TypeId} {f : Nat × Nat} (h : w.heap[g]? = some (.cells cs t f)) (u : Value) : (w.setCell ⟨g, i, none⟩ u).heap[g]? = some (.cells (cs.setIfInBounds i u) t f) := by
  simp [World.setCell, Array.getElem?_modify, h]
theorem set_far {w : World} {g : Nat} {p : Addr} (u : Value) (h : g ≠ p.block) : (w.setCell p u).heap[g]? = w.heap[g]? := Below.heap_setCell w p u g h
end Go.Proofs.YtndhjkammoeikaaGreatDoor
namespace Go.Proofs.YtndhjkammoeikaaGreatDoor
open Go.RowKit
set_option maxHeartbeats 1000000
set_option maxRecDepth 20000

theorem info4 : (Tryz.prog.info? 4).map (fun i => (i.zero, i.size, i.bytes)) = some (some (.bool false), 1, 1) := by kernel_rfl
theorem info3 : (Tryz.prog.info? 3).map (fun i => (i.zero, i.size, i.bytes)) = some (some (.int .i64 0), 1, 8) := by kernel_rfl
theorem c16_bad (v : Ves) (u : Wat) (A : Option Addr) (cap : Nat) (l : List Sgt) (w : World) (hl : l.length ≤ 1000000) (H : RdL w 3 Sgt.enc A l) (hbad : Mo.all v u l ≠ 0) :
    Calls Tryz.prog 16 #[.agg #[.int .i64 v.sx, .int .i64 v.sy, .int .i64 v.dx, .int .i64 v.dy, .int .i64 v.n], .agg #[.int .i64 u.ring, .int .i64 u.speed, .int .i64 u.loss, .int .i64 u.clear, .int .i64 u.soft], .slice A l.length cap] w fun en w' => en = .returned (.tuple #[.slice none 0 0, .int .i64 (Mo.all v u l)]) ∧ Below w.heap.size w w' := by
  have hb' : (Mo.all v u l != 0) = true := by simpa using hbad
  have HC := fun W (hW : Below w.heap.size w W) => Lib.hid (c87 v u A cap l W hl (H.below hW))
  clear H hbad
  go_enter Tryz.func16, Tryz.ntmps16
  go_wp2_with fail
  refine (HC _ ?_).out.mono ?_
  · exact ((Below.refl _ _).alloc (by simp) _).alloc (by simp <;> omega) _
  rintro e w1 ⟨rfl, hb1⟩
  go_wp2
  go_ret2
  exact ⟨rfl, ((((Below.refl _ _).alloc (by simp) _).alloc (by simp <;> omega) _).call hb1 rfl).alloc (by have := hb1.size; simp at this; omega) _⟩

theorem c16_ok (v : Ves) (u : Wat) (A : Option Addr) (cap : Nat) (l : List Sgt) (w : World) (H : RdL w 3 Sgt.enc A l) (hok : Mo.all v u l = 0) :
    Calls Tryz.prog 16 #[.agg #[.int .i64 v.sx, .int .i64 v.sy, .int .i64 v.dx, .int .i64 v.dy, .int .i64 v.n], .agg #[.int .i64 u.ring, .int .i64 u.speed, .int .i64 u.loss, .int .i64 u.clear, .int .i64 u.soft], .slice A l.length cap] w fun en w' => ∃ g : Nat, en = .returned (.tuple #[.slice (some ⟨g, 0, none⟩) v.n.toNat v.n.toNat, .int .i64 0]) ∧
      w'.heap[g]? = some (.cells ((Mo.insides v u l).map Value.bool).toArray 4 (0, 0)) ∧ w.heap.size ≤ g ∧ Below w.heap.size w w' := by
  obtain ⟨hv, hu, hlen, hso⟩ := Mo.all_ok hok
  have hvn := hv.n
  obtain ⟨N, hN⟩ : ∃ N : Nat, v.n = N := ⟨v.n.toNat, by omega⟩
  have hN1 : 1 ≤ N ∧ N ≤ 4096 := by omega
  have hNN : v.n.toNat = N := by omega
  have HC := fun W (hW : Below w.heap.size w W) => Lib.hid (c87 v u A cap l W (by omega) (H.below hW))
  have HI := fun W (k : Nat) (hk : k < N) (hW : Below w.heap.size w W) => Lib.hid (c88 v u A cap l k W hv hu ⟨hlen, hso⟩ (by omega) (H.below hW))
  obtain ⟨i0, hi, hz0, hz1, hz2⟩ := info_parts info4
  have hmk := fun W => run_make_fill (P := Tryz.prog) 31 4 i0 (.bool false) (fun t => .bool (Mo.inside v u l t)) Tryz.underlying31 hi hz0 hz1 rfl N (by omega) (by rw [hz2]; omega) W
  have hfin : ((Mo.insides v u l).map Value.bool).toArray = fillA (.bool false) (fun t => .bool (Mo.inside v u l t)) N N := by
    rw [fillA_full, Mo.insides, hNN, List.map_map]; rfl
  rw [hfin, hNN]
  simp only [hok, hN] at HC HI ⊢
  clear hfin hso hv hu H hok hi hz0 hz1 hz2 hvn hNN hN
  obtain ⟨n, hn⟩ : ∃ n, n = l.length := ⟨_, rfl⟩
  rw [← hn] at HC HI ⊢
  clear hn hlen
  go_enter Tryz.func16, Tryz.ntmps16
  go_wp2_with fail
  refine (HC _ ?_).out.mono ?_
  · exact ((Below.refl _ _).alloc (by simp) _).alloc (by simp <;> omega) _
  rintro e w1 ⟨rfl, hb1⟩
  obtain ⟨hc1, hf1, hc2, hf2⟩ := bgrow hb1
  have hz0 : w.heap.size < w1.heap.size := by have := hb1.size; simp at this; omega
  have hz1 : w.heap.size + 1 < w1.heap.size := by have := hb1.size; simp at this; omega
  go_wp2
  obtain ⟨W2, hW2⟩ : ∃ W2, W2 = (w1.alloc (Obj.cells #[.int .i64 u.ring, .int .i64 u.speed, .int .i64 u.loss, .int .i64 u.clear, .int .i64 u.soft, .int .i64 v.sx, .int .i64 v.sy, .int .i64 v.dx, .int .i64 v.dy, .int .i64 (N : Int), .slice A n cap] 162)).alloc (.cells (fillA (.bool false) (fun t => .bool (Mo.inside v u l t)) N 0) 4) := ⟨_, rfl⟩
  have hgb : W2.heap[w1.heap.size]? = some (.cells #[.int .i64 u.ring, .int .i64 u.speed, .int .i64 u.loss, .int .i64 u.clear, .int .i64 u.soft, .int .i64 v.sx, .int .i64 v.sy, .int .i64 v.dx, .int .i64 v.dy, .int .i64 (N : Int), .slice A n cap] 162 (0, 0)) := by rw [hW2]; exact heap_old (by simp) (heap_new rfl)
  have hg : W2.heap[w1.heap.size + 1]? = some (.cells (fillA (.bool false) (fun t => .bool (Mo.inside v u l t)) N 0) 4 (0, 0)) := by rw [hW2]; exact heap_new (by simp)
  have hB2 : Below w.heap.size w W2 := by rw [hW2]; exact ((((((Below.refl _ _).alloc (by simp) _).alloc (by simp <;> omega) _).call hb1 rfl).alloc (by first | omega | (simp <;> omega)) _).alloc (by first | omega | (simp <;> omega)) _)
  rw [← hW2]
  clear hW2 hc1 hf1 hc2 hf2 hb1 hmk HC
  go_loopw [27] (fun i wr => ∃ k : Nat, k ≤ N ∧ i = .int .i64 k ∧ Below w.heap.size w wr ∧ wr.heap[w1.heap.size]? = some (.cells #[.int .i64 u.ring, .int .i64 u.speed, .int .i64 u.loss, .int .i64 u.clear, .int .i64 u.soft, .int .i64 v.sx, .int .i64 v.sy, .int .i64 v.dx, .int .i64 v.dy, .int .i64 (N : Int), .slice A n cap] 162 (0, 0)) ∧ wr.heap[w1.heap.size + 1]? = some (.cells (fillA (.bool false) (fun t => .bool (Mo.inside v u l t)) N k) 4 (0, 0))) (fun i _ => N - (intOf i).toNat)
  case atStart => exact ⟨0, Nat.zero_le _, rfl, hB2, hgb, hg⟩
  case round =>
    clear hgb hg hB2
    obtain ⟨k, hk, rfl, hBr, hgb, hg⟩ := hrel
    have HGB := Lib.hid hgb
    have HG := Lib.hid hg
    clear hgb hg
    have hzz : w1.heap.size + 1 < wr.heap.size := (Array.getElem?_eq_some_iff.1 HG.out).1
    by_cases hlt : k < N
    · have q0 := cell_at (i := 0) HGB.out rfl
      have q1 := cell_at (i := 1) HGB.out rfl
      have q2 := cell_at (i := 2) HGB.out rfl
      have q3 := cell_at (i := 3) HGB.out rfl
      have q4 := cell_at (i := 4) HGB.out rfl
      have q5 := cell_at (i := 5) HGB.out rfl
      have q6 := cell_at (i := 6) HGB.out rfl
      have q7 := cell_at (i := 7) HGB.out rfl
      have q8 := cell_at (i := 8) HGB.out rfl
      have q9 := cell_at (i := 9) HGB.out rfl
      have q10 := cell_at (i := 10) HGB.out rfl
      go_wp2_with fail
      refine (HI _ k hlt hBr).out.mono ?_
      rintro e w2 ⟨rfl, hb2⟩
      have hgb2 := (hb2.block _ (by omega)).trans HGB.out
      have hg2 := (hb2.block _ hzz).trans HG.out
      have hcell := cell_at (i := k) hg2 (fillA_get _ _ _ _ _ hlt)
      rw [if_neg (Nat.lt_irrefl _)] at hcell
      have hfree := free_at (i := k) hg2
      have hnew := set_blk (i := k) hg2 (.bool (Mo.inside v u l k))
      rw [fillA_set (.bool false) (fun t => .bool (Mo.inside v u l t)) N k hlt] at hnew
      have hnb := (set_far (p := ⟨w1.heap.size + 1, k, none⟩) (.bool (Mo.inside v u l k)) (show w1.heap.size ≠ w1.heap.size + 1 by omega)).trans hgb2
      have hB3 := (fin0 hBr hb2).setCell (p := ⟨w1.heap.size + 1, k, none⟩) (by show _ ≤ w1.heap.size + 1; omega) (.bool (Mo.inside v u l k))
      have HN := Lib.hid (And.intro hnew (And.intro hnb hB3))
      clear hgb2 hg2 hnew hnb hB3
      go_wp2
      go_roundw
      case rel => exact ⟨k+1, by omega, by go_num, HN.out.2.2, HN.out.2.1, HN.out.1⟩
      case measure => simp [intOf]; omega
    · obtain rfl : k = N := by omega
      go_wp2
      go_ret2
      exact ⟨_, rfl, HG.out, by omega, hBr⟩

end Go.Proofs.YtndhjkammoeikaaGreatDoor
namespace Go.Proofs.YtndhjkammoeikaaGreatDoor
open Go.RowKit
set_option maxHeartbeats 1000000
set_option maxRecDepth 20000

theorem c89 (v : Ves) (u : Wat) (A : Option Addr) (cap : Nat) (l : List Sgt) (w : World) (H : RdL w 3 Sgt.enc A l) (hok : Mo.all v u l = 0) :
    Calls Tryz.prog 89 #[.agg #[.int .i64 u.ring, .int .i64 u.speed, .int .i64 u.loss, .int .i64 u.clear, .int .i64 u.soft, .int .i64 v.sx, .int .i64 v.sy, .int .i64 v.dx, .int .i64 v.dy, .int .i64 v.n, .slice A l.length cap]] w fun en w' => ∃ g : Nat, en = .returned (.slice (some ⟨g, 0, none⟩) v.n.toNat v.n.toNat) ∧
      w'.heap[g]? = some (.cells ((Mo.levels v u l).map (Value.int .i64)).toArray 3 (0, 0)) ∧ w.heap.size ≤ g ∧ Below w.heap.size w w' := by
  obtain ⟨hv, hu, hlen, hso⟩ := Mo.all_ok hok
  have hvn := hv.n
  have hc1 := hu.clear
  have hc2 := hu.soft
  obtain ⟨N, hN⟩ : ∃ N : Nat, v.n = N := ⟨v.n.toNat, by omega⟩
  have hN1 : 1 ≤ N ∧ N ≤ 4096 := by omega
  have hNN : v.n.toNat = N := by omega
  have HI := fun W (k : Nat) (hk : k < N) (hW : Below w.heap.size w W) => Lib.hid (c88 v u A cap l k W hv hu ⟨hlen, hso⟩ (by omega) (H.below hW))
  obtain ⟨i0, hi, hz0, hz1, hz2⟩ := info_parts info3
  have hmk := fun W => run_make_fill (P := Tryz.prog) 39 3 i0 (.int .i64 0) (fun t => .int .i64 (Mo.level v u l t)) Tryz.underlying39 hi hz0 hz1 rfl N (by omega) (by rw [hz2]; omega) W
  have hfin : ((Mo.levels v u l).map (Value.int .i64)).toArray = fillA (.int .i64 0) (fun t => .int .i64 (Mo.level v u l t)) N N := by
    rw [fillA_full, Mo.levels, hNN, List.map_map]; rfl
  rw [hfin, hNN]
  simp only [hN] at HI ⊢
  clear hfin hso hv hu H hok hi hz0 hz1 hz2 hvn hNN hN
  obtain ⟨n, hn⟩ : ∃ n, n = l.length := ⟨_, rfl⟩
  rw [← hn] at HI ⊢
  clear hn hlen
  go_enter Tryz.func89, Tryz.ntmps89
  go_wp2
  obtain ⟨W2, hW2⟩ : ∃ W2, W2 = (w.alloc (Obj.cells #[.int .i64 u.ring, .int .i64 u.speed, .int .i64 u.loss, .int .i64 u.clear, .int .i64 u.soft, .int .i64 v.sx, .int .i64 v.sy, .int .i64 v.dx, .int .i64 v.dy, .int .i64 (N : Int), .slice A n cap] 162)).alloc (.cells (fillA (.int .i64 0) (fun t => .int .i64 (Mo.level v u l t)) N 0) 3) := ⟨_, rfl⟩
  have hgb : W2.heap[w.heap.size]? = some (.cells #[.int .i64 u.ring, .int .i64 u.speed, .int .i64 u.loss, .int .i64 u.clear, .int .i64 u.soft, .int .i64 v.sx, .int .i64 v.sy, .int .i64 v.dx, .int .i64 v.dy, .int .i64 (N : Int), .slice A n cap] 162 (0, 0)) := by rw [hW2]; exact heap_old (by simp) (heap_new rfl)
  have hg : W2.heap[w.heap.size + 1]? = some (.cells (fillA (.int .i64 0) (fun t => .int .i64 (Mo.level v u l t)) N 0) 3 (0, 0)) := by rw [hW2]; exact heap_new (by simp)
  have hB2 : Below w.heap.size w W2 := by rw [hW2]; exact (((Below.refl _ _).alloc (by first | omega | (simp <;> omega)) _).alloc (by first | omega | (simp <;> omega)) _)
  rw [← hW2]
  clear hW2 hmk
  go_loopw [4, 12] (fun q i wr => ∃ k : Nat, k ≤ N ∧ i = .int .i64 k ∧ q = .int .i64 (Mo.quiet v u l k) ∧ Below w.heap.size w wr ∧ wr.heap[w.heap.size]? = some (.cells #[.int .i64 u.ring, .int .i64 u.speed, .int .i64 u.loss, .int .i64 u.clear, .int .i64 u.soft, .int .i64 v.sx, .int .i64 v.sy, .int .i64 v.dx, .int .i64 v.dy, .int .i64 (N : Int), .slice A n cap] 162 (0, 0)) ∧ wr.heap[w.heap.size + 1]? = some (.cells (fillA (.int .i64 0) (fun t => .int .i64 (Mo.level v u l t)) N k) 3 (0, 0))) (fun _ i _ => N - (intOf i).toNat)
  case atStart => exact ⟨0, Nat.zero_le _, rfl, rfl, hB2, hgb, hg⟩
  case round =>
    clear hgb hg hB2
    obtain ⟨k, hk, rfl, rfl, hBr, hgb, hg⟩ := hrel
    have HGB := Lib.hid hgb
    have HG := Lib.hid hg
    clear hgb hg
    have hzz : w.heap.size + 1 < wr.heap.size := (Array.getElem?_eq_some_iff.1 HG.out).1
    by_cases hlt : k < N
    · have hqb := Mo.quiet_bd v u l k
      have hq1 : Mo.quiet v u l (k + 1) = if Mo.inside v u l k then 0 else Mo.quiet v u l k + 1 := rfl
      have HQ1 := Lib.hid hq1
      clear hq1
      obtain ⟨q, hq⟩ : ∃ q, q = Mo.quiet v u l k := ⟨_, rfl⟩
      rw [← hq] at hqb ⊢
      have HQ : Hid (Mo.quiet v u l (k + 1) = if Mo.inside v u l k then 0 else q + 1) := by rw [hq]; exact HQ1
      clear HQ1 hq
      have q0 := cell_at (i := 0) HGB.out rfl
      have q1 := cell_at (i := 1) HGB.out rfl
      have q2 := cell_at (i := 2) HGB.out rfl
      have q3 := cell_at (i := 3) HGB.out rfl
      have q4 := cell_at (i := 4) HGB.out rfl
      have q5 := cell_at (i := 5) HGB.out rfl
      have q6 := cell_at (i := 6) HGB.out rfl
      have q7 := cell_at (i := 7) HGB.out rfl
      have q8 := cell_at (i := 8) HGB.out rfl
      have q9 := cell_at (i := 9) HGB.out rfl
      have q10 := cell_at (i := 10) HGB.out rfl
      go_wp2_with fail
      refine (HI _ k hlt hBr).out.mono ?_
      rintro e w2 ⟨rfl, hb2⟩
      have hgb2 := (hb2.block _ (by omega)).trans HGB.out
      have hg2 := (hb2.block _ hzz).trans HG.out
      have hz2 : w.heap.size + 1 < w2.heap.size := Nat.lt_of_lt_of_le hzz hb2.size
      have hz0 : w.heap.size < w2.heap.size := by omega
      have hBr2 := fin0 hBr hb2
      clear q0 q1 q2 q3 q4 q5 q6 q7 q8 q9 q10
      have q0 := cell_at (i := 0) hgb2 rfl
      have q1 := cell_at (i := 1) hgb2 rfl
      have q2 := cell_at (i := 2) hgb2 rfl
      have q3 := cell_at (i := 3) hgb2 rfl
      have q4 := cell_at (i := 4) hgb2 rfl
      have q5 := cell_at (i := 5) hgb2 rfl
      have q6 := cell_at (i := 6) hgb2 rfl
      have q7 := cell_at (i := 7) hgb2 rfl
      have q8 := cell_at (i := 8) hgb2 rfl
      have q9 := cell_at (i := 9) hgb2 rfl
      have q10 := cell_at (i := 10) hgb2 rfl
      have HGB2 := Lib.hid hgb2
      have HG2 := Lib.hid hg2
      have hb3' : Below wr.heap.size wr w2 := hb2
      clear hgb2 hg2 hb2
      have hcs : (Mo.inside v u l k = true) ∨ (Mo.inside v u l k = false ∧ q + 1 ≤ u.clear) ∨ (Mo.inside v u l k = false ∧ u.clear < q + 1 ∧ q + 1 - u.clear < u.soft + 1) ∨ (Mo.inside v u l k = false ∧ u.clear < q + 1 ∧ u.soft + 1 ≤ q + 1 - u.clear) := by
        cases Mo.inside v u l k
        · simp; omega
        · simp
      rcases hcs with hin | ⟨hin, h1⟩ | ⟨hin, h1, h2⟩ | ⟨hin, h1, h2⟩
      all_goals have HIN := Lib.hid hin
      all_goals clear hin
      · have hlv : Hid (Mo.level v u l k = 0) := by show _ = _; unfold Mo.level; rw [HQ.out, if_pos HIN.out]; omega
        have HQ2 : Hid (Mo.quiet v u l (k + 1) = 0) := by show _ = _; rw [HQ.out, if_pos HIN.out]
        rw [HIN.out]
        go_wp2
        refine wp_region_splitG 13 (by kernel_rfl) (by kernel_rfl) ?_
        simp only [List.take_succ_cons, List.take_zero, List.drop_succ_cons, List.drop_zero]
        repeat (go_big_quiet_step ((first | (go_at_call 107; exact Calls.gw_of (c107 _ _ _ _ _ _ (by omega) (by omega))))))
        refine wpQuiet_nil (gw_out ?_)
        intro w3 hb3
        have hg3 := (hb3.block _ hz2).trans HG2.out
        have hgb3 := (hb3.block _ hz0).trans HGB2.out
        have hcell := cell_at (i := k) hg3 (fillA_get _ _ _ _ _ hlt)
        rw [if_neg (Nat.lt_irrefl _)] at hcell
        have hfree := free_at (i := k) hg3
        have hnew := set_blk (i := k) hg3 (.int .i64 (Mo.level v u l k))
        rw [fillA_set (.int .i64 0) (fun t => .int .i64 (Mo.level v u l t)) N k hlt] at hnew
        have hnb := (set_far (p := ⟨w.heap.size + 1, k, none⟩) (.int .i64 (Mo.level v u l k)) (show w.heap.size ≠ w.heap.size + 1 by omega)).trans hgb3
        have hB3 := (fin0 hBr2 hb3).setCell (p := ⟨w.heap.size + 1, k, none⟩) (by show _ ≤ w.heap.size + 1; omega) (.int .i64 (Mo.level v u l k))
        rw [hlv.out] at hnew hnb hB3
        have HN := Lib.hid (And.intro hnew (And.intro hnb hB3))
        clear hg3 hgb3 hnew hnb hB3
        go_wp2
        go_roundw
        case rel => exact ⟨k+1, by omega, by go_num, by rw [HQ2.out], HN.out.2.2, HN.out.2.1, HN.out.1⟩
        case measure => simp [intOf]; omega
      · have hlv : Hid (Mo.level v u l k = 0) := by show _ = _; unfold Mo.level; rw [HQ.out, if_neg (by rw [HIN.out]; simp)]; omega
        have HQ2 : Hid (Mo.quiet v u l (k + 1) = q + 1) := by show _ = _; rw [HQ.out, if_neg (by rw [HIN.out]; simp)]
        rw [HIN.out]
        go_wp2
        refine wp_region_splitG 13 (by kernel_rfl) (by kernel_rfl) ?_
        simp only [List.take_succ_cons, List.take_zero, List.drop_succ_cons, List.drop_zero]
        repeat (go_big_quiet_step ((first | (go_at_call 107; exact Calls.gw_of (c107 _ _ _ _ _ _ (by omega) (by omega))))))
        refine wpQuiet_nil (gw_out ?_)
        intro w3 hb3
        have hg3 := (hb3.block _ hz2).trans HG2.out
        have hgb3 := (hb3.block _ hz0).trans HGB2.out
        have hcell := cell_at (i := k) hg3 (fillA_get _ _ _ _ _ hlt)
        rw [if_neg (Nat.lt_irrefl _)] at hcell
        have hfree := free_at (i := k) hg3
        have hnew := set_blk (i := k) hg3 (.int .i64 (Mo.level v u l k))
        rw [fillA_set (.int .i64 0) (fun t => .int .i64 (Mo.level v u l t)) N k hlt] at hnew
        have hnb := (set_far (p := ⟨w.heap.size + 1, k, none⟩) (.int .i64 (Mo.level v u l k)) (show w.heap.size ≠ w.heap.size + 1 by omega)).trans hgb3
        have hB3 := (fin0 hBr2 hb3).setCell (p := ⟨w.heap.size + 1, k, none⟩) (by show _ ≤ w.heap.size + 1; omega) (.int .i64 (Mo.level v u l k))
        rw [hlv.out] at hnew hnb hB3
        have HN := Lib.hid (And.intro hnew (And.intro hnb hB3))
        clear hg3 hgb3 hnew hnb hB3
        go_wp2
        go_roundw
        case rel => exact ⟨k+1, by omega, by go_num, by rw [HQ2.out], HN.out.2.2, HN.out.2.1, HN.out.1⟩
        case measure => simp [intOf]; omega
      · have hlv : Hid (Mo.level v u l k = q + 1 - u.clear) := by show _ = _; unfold Mo.level; rw [HQ.out, if_neg (by rw [HIN.out]; simp)]; omega
        have HQ2 : Hid (Mo.quiet v u l (k + 1) = q + 1) := by show _ = _; rw [HQ.out, if_neg (by rw [HIN.out]; simp)]
        rw [HIN.out]
        go_wp2
        refine wp_region_splitG 13 (by kernel_rfl) (by kernel_rfl) ?_
        simp only [List.take_succ_cons, List.take_zero, List.drop_succ_cons, List.drop_zero]
        repeat (go_big_quiet_step ((first | (go_at_call 107; exact Calls.gw_of (c107 _ _ _ _ _ _ (by omega) (by omega))))))
        refine wpQuiet_nil (gw_out ?_)
        intro w3 hb3
        have hg3 := (hb3.block _ hz2).trans HG2.out
        have hgb3 := (hb3.block _ hz0).trans HGB2.out
        have hcell := cell_at (i := k) hg3 (fillA_get _ _ _ _ _ hlt)
        rw [if_neg (Nat.lt_irrefl _)] at hcell
        have hfree := free_at (i := k) hg3
        have hnew := set_blk (i := k) hg3 (.int .i64 (Mo.level v u l k))
        rw [fillA_set (.int .i64 0) (fun t => .int .i64 (Mo.level v u l t)) N k hlt] at hnew
        have hnb := (set_far (p := ⟨w.heap.size + 1, k, none⟩) (.int .i64 (Mo.level v u l k)) (show w.heap.size ≠ w.heap.size + 1 by omega)).trans hgb3
        have hB3 := (fin0 hBr2 hb3).setCell (p := ⟨w.heap.size + 1, k, none⟩) (by show _ ≤ w.heap.size + 1; omega) (.int .i64 (Mo.level v u l k))
        rw [hlv.out] at hnew hnb hB3
        have HN := Lib.hid (And.intro hnew (And.intro hnb hB3))
        clear hg3 hgb3 hnew hnb hB3
        go_wp2
        go_roundw
        case rel => exact ⟨k+1, by omega, by go_num, by rw [HQ2.out], HN.out.2.2, HN.out.2.1, HN.out.1⟩
        case measure => simp [intOf]; omega
      · have hlv : Hid (Mo.level v u l k = u.soft + 1) := by show _ = _; unfold Mo.level; rw [HQ.out, if_neg (by rw [HIN.out]; simp)]; omega
        have HQ2 : Hid (Mo.quiet v u l (k + 1) = q + 1) := by show _ = _; rw [HQ.out, if_neg (by rw [HIN.out]; simp)]
        rw [HIN.out]
        go_wp2
        refine wp_region_splitG 13 (by kernel_rfl) (by kernel_rfl) ?_
        simp only [List.take_succ_cons, List.take_zero, List.drop_succ_cons, List.drop_zero]
        repeat (go_big_quiet_step ((first | (go_at_call 107; exact Calls.gw_of (c107 _ _ _ _ _ _ (by omega) (by omega))))))
        refine wpQuiet_nil (gw_out ?_)
        intro w3 hb3
        have hg3 := (hb3.block _ hz2).trans HG2.out
        have hgb3 := (hb3.block _ hz0).trans HGB2.out
        have hcell := cell_at (i := k) hg3 (fillA_get _ _ _ _ _ hlt)
        rw [if_neg (Nat.lt_irrefl _)] at hcell
        have hfree := free_at (i := k) hg3
        have hnew := set_blk (i := k) hg3 (.int .i64 (Mo.level v u l k))
        rw [fillA_set (.int .i64 0) (fun t => .int .i64 (Mo.level v u l t)) N k hlt] at hnew
        have hnb := (set_far (p := ⟨w.heap.size + 1, k, none⟩) (.int .i64 (Mo.level v u l k)) (show w.heap.size ≠ w.heap.size + 1 by omega)).trans hgb3
        have hB3 := (fin0 hBr2 hb3).setCell (p := ⟨w.heap.size + 1, k, none⟩) (by show _ ≤ w.heap.size + 1; omega) (.int .i64 (Mo.level v u l k))
        rw [hlv.out] at hnew hnb hB3
        have HN := Lib.hid (And.intro hnew (And.intro hnb hB3))
        clear hg3 hgb3 hnew hnb hB3
        go_wp2
        go_roundw
        case rel => exact ⟨k+1, by omega, by go_num, by rw [HQ2.out], HN.out.2.2, HN.out.2.1, HN.out.1⟩
        case measure => simp [intOf]; omega
    · obtain rfl : k = N := by omega
      go_wp2
      go_ret
      exact ⟨_, rfl, HG.out, by omega, hBr⟩

end Go.Proofs.YtndhjkammoeikaaGreatDoor
/- Slices of the call's own that grow by append; what they read as. -/
namespace Go.Proofs.YtndhjkammoeikaaGreatDoor
open Go.RowKit
theorem grownBy_of_below {w w' : World} (h : Below w.heap.size w w') (row : Option Nat) : w.grownBy w' row := ⟨h.os, h.tape, h.output, h.size, fun i hi _ => h.block i hi⟩
theorem own_below {w w' : World} {base : Nat} {e : TypeId} {size : Nat} {v : Value} {n : Nat} {xs : List Value} (h : w.ownsRow base e size v n xs) (hb : Below w.heap.size w w') : w'.ownsRow base e size v n xs :=
  h.kept (grownBy_of_below hb none) (by cases hv : v.ownBlock <;> simp)
/-- a slice value that reads as the cells xs -/
def Sl (w : World) (size : Nat) (v : Value) (n : Nat) (xs : List Value) : Prop := ∃ A cap, v = .slice A n cap ∧ RdS w size A n xs
theorem Sl.of_own {w : World} {base : Nat} {e : TypeId} {size : Nat} {v : Value} {n : Nat} {xs : List Value} (h : w.ownsRow base e size v n xs) : Sl w size v n xs := by
  have hx := h.1
  rcases h.2 with ⟨rfl, rfl⟩ | ⟨g, cap, cur, rfl, hg, hh, hn, hc, hs, ht⟩
  · exact ⟨none, 0, rfl, hx, fun h => absurd h (by omega)⟩
  · refine ⟨_, cap, rfl, hx, fun _ => ⟨g, 0, rfl, (Array.getElem?_eq_some_iff.1 hh).1, fun j hj => ?_⟩⟩
    simp only [World.cell?, hh]
    rw [← ht] at hj ⊢
    rw [List.getElem?_take]
    have : j < n * size := by rw [List.length_take] at hj; omega
    simp [this]
theorem Sl.below {w w' : World} {size : Nat} {v : Value} {n : Nat} {xs : List Value} (h : Sl w size v n xs) (hb : Below w.heap.size w w') : Sl w' size v n xs := by
  obtain ⟨A, cap, hv, hr⟩ := h
  exact ⟨A, cap, hv, hr.below hb⟩
theorem Sl.of_blk {w : World} {g : Nat} {xs : List Value} {t : TypeId} {size n : Nat} {f : Nat × Nat} (h : w.heap[g]? = some (.cells xs.toArray t f)) (hn : xs.length = n * size) : Sl w size (.slice (some ⟨g, 0, none⟩) n n) n xs :=
  ⟨_, _, rfl, RdS.of_block h hn⟩
/-- the new cells of an append of one element, in the block laid for it -/
theorem news_one {w : World} {g : Nat} (o : List Value) (t : TypeId) (hg : g = w.heap.size) : ∀ j u, o[j]? = some u → (w.alloc (.cells o.toArray t)).cell? ((⟨g, 0, none⟩ : Addr).add j) = some u := by
  subst hg
  intro j u hj
  have hadd : (⟨w.heap.size, 0, none⟩ : Addr).add j = ⟨w.heap.size, j, none⟩ := by unfold Addr.add; split <;> simp_all
  rw [hadd]
  exact cell_at (heap_alloc_new _ _) (by simpa using hj)
end Go.Proofs.YtndhjkammoeikaaGreatDoor
namespace Go.Proofs.YtndhjkammoeikaaGreatDoor
open Go.RowKit
set_option maxHeartbeats 1000000
set_option maxRecDepth 20000

theorem c21 (v : Ves) (u : Wat) (A : Option Addr) (cap : Nat) (l : List Sgt) (w : World) (H : RdL w 3 Sgt.enc A l) (hok : Mo.all v u l = 0) :
    Calls Tryz.prog 21 #[.agg #[.int .i64 v.sx, .int .i64 v.sy, .int .i64 v.dx, .int .i64 v.dy, .int .i64 v.n], .agg #[.int .i64 u.ring, .int .i64 u.speed, .int .i64 u.loss, .int .i64 u.clear, .int .i64 u.soft], .slice A l.length cap] w fun en w' => ∃ x, en = .returned x ∧ Sl w' 1 x v.n.toNat ((Mo.insides v u l).map Value.bool) ∧ Below w.heap.size w w' := by
  obtain ⟨hv, hu, hlen, hso⟩ := Mo.all_ok hok
  have hvn := hv.n
  obtain ⟨N, hN⟩ : ∃ N : Nat, v.n = N := ⟨v.n.toNat, by omega⟩
  have hN1 : 1 ≤ N ∧ N ≤ 4096 := by omega
  have hNN : v.n.toNat = N := by omega
  have HI := fun W (k : Nat) (hk : k < N) (hW : Below w.heap.size w W) => Lib.hid (c93 v u A cap l k W hv hu ⟨hlen, hso⟩ (by omega) (H.below hW))
  obtain ⟨i0, hi, hz0, hz1, hz2⟩ := info_parts info4
  have hfin : (Mo.insides v u l).map Value.bool = (List.range N).map (fun (t : Nat) => Value.bool (Mo.inside v u l t)) := by
    rw [Mo.insides, hNN, List.map_map]; rfl
  rw [hfin, hNN]
  simp only [hN] at HI ⊢
  clear hfin hso hv hu H hok hvn hNN hN
  obtain ⟨n, hn⟩ : ∃ n, n = l.length := ⟨_, rfl⟩
  rw [← hn] at HI ⊢
  clear hn hlen
  obtain ⟨W, hW⟩ : ∃ W, W = (w.alloc (Obj.cells #[.int .i64 v.sx, .int .i64 v.sy, .int .i64 v.dx, .int .i64 v.dy, .int .i64 (N : Int)] 25)).alloc (Obj.cells #[.int .i64 u.ring, .int .i64 u.speed, .int .i64 u.loss, .int .i64 u.clear, .int .i64 u.soft] 27) := ⟨_, rfl⟩
  have hT0 : W.heap[w.heap.size]? = some (.cells #[.int .i64 v.sx, .int .i64 v.sy, .int .i64 v.dx, .int .i64 v.dy, .int .i64 (N : Int)] 25 (0, 0)) := by rw [hW]; exact heap_old (by simp <;> omega) (heap_new (by simp))
  have h0_0 : W.cell? ⟨w.heap.size, 0, none⟩ = some (.int .i64 v.sx) := cell_at hT0 rfl
  have h0_1 : W.cell? ⟨w.heap.size, 1, none⟩ = some (.int .i64 v.sy) := cell_at hT0 rfl
  have h0_2 : W.cell? ⟨w.heap.size, 2, none⟩ = some (.int .i64 v.dx) := cell_at hT0 rfl
  have h0_3 : W.cell? ⟨w.heap.size, 3, none⟩ = some (.int .i64 v.dy) := cell_at hT0 rfl
  have h0_4 : W.cell? ⟨w.heap.size, 4, none⟩ = some (.int .i64 (N : Int)) := cell_at hT0 rfl
  have hT1 : W.heap[w.heap.size + 1]? = some (.cells #[.int .i64 u.ring, .int .i64 u.speed, .int .i64 u.loss, .int .i64 u.clear, .int .i64 u.soft] 27 (0, 0)) := by rw [hW]; exact heap_new (by simp)
  have h1_0 : W.cell? ⟨w.heap.size + 1, 0, none⟩ = some (.int .i64 u.ring) := cell_at hT1 rfl
  have h1_1 : W.cell? ⟨w.heap.size + 1, 1, none⟩ = some (.int .i64 u.speed) := cell_at hT1 rfl
  have h1_2 : W.cell? ⟨w.heap.size + 1, 2, none⟩ = some (.int .i64 u.loss) := cell_at hT1 rfl
  have h1_3 : W.cell? ⟨w.heap.size + 1, 3, none⟩ = some (.int .i64 u.clear) := cell_at hT1 rfl
  have h1_4 : W.cell? ⟨w.heap.size + 1, 4, none⟩ = some (.int .i64 u.soft) := cell_at hT1 rfl
  have hs : w.heap.size + 2 = W.heap.size := by rw [hW]; simp
  have hB : Below w.heap.size w W := by rw [hW]; exact (((Below.refl _ _).alloc (by first | omega | (simp <;> omega)) _).alloc (by first | omega | (simp <;> omega)) _)
  have HS := Lib.hid hs
  have hs0 : w.heap.size < W.heap.size := by omega
  have hs1 : w.heap.size + 1 < W.heap.size := by omega
  clear hs
  go_enter Tryz.func21, Tryz.ntmps21
  go_wp2
  rw [← hW]
  clear hW
  go_loopw [7, 8] (fun x i wr => ∃ k : Nat, k ≤ N ∧ i = .int .i64 k ∧ wr.ownsRow W.heap.size 4 1 x k ((List.range k).map (fun (t : Nat) => Value.bool (Mo.inside v u l t))) ∧ Below W.heap.size W wr) (fun _ i _ => N - (intOf i).toNat)
  case atStart => exact ⟨0, Nat.zero_le _, rfl, World.ownsRow_nil _ _ _ _, Below.refl _ _⟩
  case round =>
    obtain ⟨k, hk, rfl, hown, hBr⟩ := hrel
    obtain ⟨hcr, hfr⟩ := bcell hBr
    have e0 : wr.cell? ⟨w.heap.size, 0, none⟩ = some (.int .i64 v.sx) := (hcr _ _ hs0).trans h0_0
    have e1 : wr.cell? ⟨w.heap.size, 1, none⟩ = some (.int .i64 v.sy) := (hcr _ _ hs0).trans h0_1
    have e2 : wr.cell? ⟨w.heap.size, 2, none⟩ = some (.int .i64 v.dx) := (hcr _ _ hs0).trans h0_2
    have e3 : wr.cell? ⟨w.heap.size, 3, none⟩ = some (.int .i64 v.dy) := (hcr _ _ hs0).trans h0_3
    have e4 : wr.cell? ⟨w.heap.size, 4, none⟩ = some (.int .i64 (N : Int)) := (hcr _ _ hs0).trans h0_4
    have f0 : wr.cell? ⟨w.heap.size + 1, 0, none⟩ = some (.int .i64 u.ring) := (hcr _ _ hs1).trans h1_0
    have f1 : wr.cell? ⟨w.heap.size + 1, 1, none⟩ = some (.int .i64 u.speed) := (hcr _ _ hs1).trans h1_1
    have f2 : wr.cell? ⟨w.heap.size + 1, 2, none⟩ = some (.int .i64 u.loss) := (hcr _ _ hs1).trans h1_2
    have f3 : wr.cell? ⟨w.heap.size + 1, 3, none⟩ = some (.int .i64 u.clear) := (hcr _ _ hs1).trans h1_3
    have f4 : wr.cell? ⟨w.heap.size + 1, 4, none⟩ = some (.int .i64 u.soft) := (hcr _ _ hs1).trans h1_4
    clear hcr hfr
    by_cases hlt : k < N
    · go_wp2_with fail
      refine (HI _ k hlt (hB.call hBr rfl)).out.mono ?_
      rintro e w2 ⟨rfl, hb2⟩
      have hown2 := own_below hown hb2
      have hB2 := hBr.call hb2 rfl
      have hsz := hB2.size
      go_wp2_with (at_builtin; refine wpList_append_own _ rfl _ _ 31 rfl W.heap.size 4 i0 (.bool false) 1 1 Tryz.underlying31 hi hz0 hz1 hz2 rfl (by decide) _ _ _ rfl (hown2.alloc _) ⟨w2.heap.size, 0, none⟩ 1 1 [.bool (Mo.inside v u l k)] rfl rfl ?c1 ?c2 ?c3 ?c4 ?c5 ?_)
      case c1 => exact news_one _ _ rfl
      case c2 => intro x hx; simp at hx; subst hx; rfl
      case c3 => unfold maxLen; omega
      case c4 => omega
      case c5 => simp; omega
      intro x' w3 hown3 hg3 _
      have hB3 : Below W.heap.size W w3 := (hB2.alloc hsz _).grown hg3 (by simp; omega) (fun g hg => (hown2.lt g hg).1)
      rw [← (show (List.range (k+1)).map (fun (t : Nat) => Value.bool (Mo.inside v u l t)) = (List.range k).map (fun (t : Nat) => Value.bool (Mo.inside v u l t)) ++ [.bool (Mo.inside v u l k)] by rw [List.range_succ, List.map_append]; rfl)] at hown3
      have HO := Lib.hid hown3
      clear hown3 hg3 hown2 hown
      go_wp2
      go_roundw
      case rel => exact ⟨k + 1, by omega, by go_num, HO.out, hB3⟩
      case measure => simp [intOf]; omega
    · obtain rfl : k = N := by omega
      go_wp2
      go_ret
      exact ⟨_, rfl, Sl.of_own hown, hB.call hBr rfl⟩

end Go.Proofs.YtndhjkammoeikaaGreatDoor
namespace Go.Proofs.YtndhjkammoeikaaGreatDoor
open Go.RowKit
set_option maxHeartbeats 1000000
set_option maxRecDepth 20000

theorem c22 (v : Ves) (u : Wat) (A : Option Addr) (cap : Nat) (l : List Sgt) (w : World) (H : RdL w 3 Sgt.enc A l) (hok : Mo.all v u l = 0) :
    Calls Tryz.prog 22 #[.agg #[.int .i64 v.sx, .int .i64 v.sy, .int .i64 v.dx, .int .i64 v.dy, .int .i64 v.n], .agg #[.int .i64 u.ring, .int .i64 u.speed, .int .i64 u.loss, .int .i64 u.clear, .int .i64 u.soft], .slice A l.length cap] w fun en w' => ∃ x, en = .returned x ∧ Sl w' 1 x v.n.toNat ((Mo.levels v u l).map (Value.int .i64)) ∧ Below w.heap.size w w' := by
  obtain ⟨hv, hu, hlen, hso⟩ := Mo.all_ok hok
  have hvn := hv.n
  have hcl1 := hu.clear
  have hcl2 := hu.soft
  obtain ⟨N, hN⟩ : ∃ N : Nat, v.n = N := ⟨v.n.toNat, by omega⟩
  have hN1 : 1 ≤ N ∧ N ≤ 4096 := by omega
  have hNN : v.n.toNat = N := by omega
  have HI := fun W (k : Nat) (hk : k < N) (hW : Below w.heap.size w W) => Lib.hid (c93 v u A cap l k W hv hu ⟨hlen, hso⟩ (by omega) (H.below hW))
  obtain ⟨i0, hi, hz0, hz1, hz2⟩ := info_parts info3
  have hfin : (Mo.levels v u l).map (Value.int .i64) = (List.range N).map (fun (t : Nat) => Value.int .i64 (Mo.level v u l t)) := by
    rw [Mo.levels, hNN, List.map_map]; rfl
  rw [hfin, hNN]
  simp only [hN] at HI ⊢
  clear hfin hso hv hu H hok hvn hNN hN
  obtain ⟨n, hn⟩ : ∃ n, n = l.length := ⟨_, rfl⟩
  rw [← hn] at HI ⊢
  clear hn hlen
  obtain ⟨W, hW⟩ : ∃ W, W = (w.alloc (Obj.cells #[.int .i64 v.sx, .int .i64 v.sy, .int .i64 v.dx, .int .i64 v.dy, .int .i64 (N : Int)] 25)).alloc (Obj.cells #[.int .i64 u.ring, .int .i64 u.speed, .int .i64 u.loss, .int .i64 u.clear, .int .i64 u.soft] 27) := ⟨_, rfl⟩
  have hT0 : W.heap[w.heap.size]? = some (.cells #[.int .i64 v.sx, .int .i64 v.sy, .int .i64 v.dx, .int .i64 v.dy, .int .i64 (N : Int)] 25 (0, 0)) := by rw [hW]; exact heap_old (by simp <;> omega) (heap_new (by simp))
  have h0_0 : W.cell? ⟨w.heap.size, 0, none⟩ = some (.int .i64 v.sx) := cell_at hT0 rfl
  have h0_1 : W.cell? ⟨w.heap.size, 1, none⟩ = some (.int .i64 v.sy) := cell_at hT0 rfl
  have h0_2 : W.cell? ⟨w.heap.size, 2, none⟩ = some (.int .i64 v.dx) := cell_at hT0 rfl
  have h0_3 : W.cell? ⟨w.heap.size, 3, none⟩ = some (.int .i64 v.dy) := cell_at hT0 rfl
  have h0_4 : W.cell? ⟨w.heap.size, 4, none⟩ = some (.int .i64 (N : Int)) := cell_at hT0 rfl
  have hT1 : W.heap[w.heap.size + 1]? = some (.cells #[.int .i64 u.ring, .int .i64 u.speed, .int .i64 u.loss, .int .i64 u.clear, .int .i64 u.soft] 27 (0, 0)) := by rw [hW]; exact heap_new (by simp)
  have h1_0 : W.cell? ⟨w.heap.size + 1, 0, none⟩ = some (.int .i64 u.ring) := cell_at hT1 rfl
  have h1_1 : W.cell? ⟨w.heap.size + 1, 1, none⟩ = some (.int .i64 u.speed) := cell_at hT1 rfl
  have h1_2 : W.cell? ⟨w.heap.size + 1, 2, none⟩ = some (.int .i64 u.loss) := cell_at hT1 rfl
  have h1_3 : W.cell? ⟨w.heap.size + 1, 3, none⟩ = some (.int .i64 u.clear) := cell_at hT1 rfl
  have h1_4 : W.cell? ⟨w.heap.size + 1, 4, none⟩ = some (.int .i64 u.soft) := cell_at hT1 rfl
  have hs : w.heap.size + 2 = W.heap.size := by rw [hW]; simp
  have hB : Below w.heap.size w W := by rw [hW]; exact (((Below.refl _ _).alloc (by first | omega | (simp <;> omega)) _).alloc (by first | omega | (simp <;> omega)) _)
  have HS := Lib.hid hs
  have hs0 : w.heap.size < W.heap.size := by omega
  have hs1 : w.heap.size + 1 < W.heap.size := by omega
  clear hs
  go_enter Tryz.func22, Tryz.ntmps22
  go_wp2
  rw [← hW]
  clear hW
  go_loopw [7, 8, 9] (fun x q i wr => ∃ k : Nat, k ≤ N ∧ i = .int .i64 k ∧ q = .int .i64 (Mo.quiet v u l k) ∧ wr.ownsRow W.heap.size 3 1 x k ((List.range k).map (fun (t : Nat) => Value.int .i64 (Mo.level v u l t))) ∧ Below W.heap.size W wr) (fun _ _ i _ => N - (intOf i).toNat)
  case atStart => exact ⟨0, Nat.zero_le _, rfl, rfl, World.ownsRow_nil _ _ _ _, Below.refl _ _⟩
  case round =>
    obtain ⟨k, hk, rfl, rfl, hown, hBr⟩ := hrel
    obtain ⟨hcr, hfr⟩ := bcell hBr
    have e0 : wr.cell? ⟨w.heap.size, 0, none⟩ = some (.int .i64 v.sx) := (hcr _ _ hs0).trans h0_0
    have e1 : wr.cell? ⟨w.heap.size, 1, none⟩ = some (.int .i64 v.sy) := (hcr _ _ hs0).trans h0_1
    have e2 : wr.cell? ⟨w.heap.size, 2, none⟩ = some (.int .i64 v.dx) := (hcr _ _ hs0).trans h0_2
    have e3 : wr.cell? ⟨w.heap.size, 3, none⟩ = some (.int .i64 v.dy) := (hcr _ _ hs0).trans h0_3
    have e4 : wr.cell? ⟨w.heap.size, 4, none⟩ = some (.int .i64 (N : Int)) := (hcr _ _ hs0).trans h0_4
    have f0 : wr.cell? ⟨w.heap.size + 1, 0, none⟩ = some (.int .i64 u.ring) := (hcr _ _ hs1).trans h1_0
    have f1 : wr.cell? ⟨w.heap.size + 1, 1, none⟩ = some (.int .i64 u.speed) := (hcr _ _ hs1).trans h1_1
    have f2 : wr.cell? ⟨w.heap.size + 1, 2, none⟩ = some (.int .i64 u.loss) := (hcr _ _ hs1).trans h1_2
    have f3 : wr.cell? ⟨w.heap.size + 1, 3, none⟩ = some (.int .i64 u.clear) := (hcr _ _ hs1).trans h1_3
    have f4 : wr.cell? ⟨w.heap.size + 1, 4, none⟩ = some (.int .i64 u.soft) := (hcr _ _ hs1).trans h1_4
    clear hcr hfr
    by_cases hlt : k < N
    · have hqb := Mo.quiet_bd v u l k
      have hq1 : Mo.quiet v u l (k + 1) = if Mo.inside v u l k then 0 else Mo.quiet v u l k + 1 := rfl
      have HQ1 := Lib.hid hq1
      clear hq1
      obtain ⟨q, hq⟩ : ∃ q, q = Mo.quiet v u l k := ⟨_, rfl⟩
      rw [← hq] at hqb ⊢
      have HQ : Hid (Mo.quiet v u l (k + 1) = if Mo.inside v u l k then 0 else q + 1) := by rw [hq]; exact HQ1
      clear HQ1 hq
      go_wp2_with fail
      refine (HI _ k hlt (hB.call hBr rfl)).out.mono ?_
      rintro e w2 ⟨rfl, hb2⟩
      have hown2 := own_below hown hb2
      have hB2 := hBr.call hb2 rfl
      have hsz := hB2.size
      obtain ⟨hcr, hfr⟩ := bcell hB2
      clear e0 e1 e2 e3 e4 f0 f1 f2 f3 f4
      have e0 : w2.cell? ⟨w.heap.size, 0, none⟩ = some (.int .i64 v.sx) := (hcr _ _ hs0).trans h0_0
      have e1 : w2.cell? ⟨w.heap.size, 1, none⟩ = some (.int .i64 v.sy) := (hcr _ _ hs0).trans h0_1
      have e2 : w2.cell? ⟨w.heap.size, 2, none⟩ = some (.int .i64 v.dx) := (hcr _ _ hs0).trans h0_2
      have e3 : w2.cell? ⟨w.heap.size, 3, none⟩ = some (.int .i64 v.dy) := (hcr _ _ hs0).trans h0_3
      have e4 : w2.cell? ⟨w.heap.size, 4, none⟩ = some (.int .i64 (N : Int)) := (hcr _ _ hs0).trans h0_4
      have f0 : w2.cell? ⟨w.heap.size + 1, 0, none⟩ = some (.int .i64 u.ring) := (hcr _ _ hs1).trans h1_0
      have f1 : w2.cell? ⟨w.heap.size + 1, 1, none⟩ = some (.int .i64 u.speed) := (hcr _ _ hs1).trans h1_1
      have f2 : w2.cell? ⟨w.heap.size + 1, 2, none⟩ = some (.int .i64 u.loss) := (hcr _ _ hs1).trans h1_2
      have f3 : w2.cell? ⟨w.heap.size + 1, 3, none⟩ = some (.int .i64 u.clear) := (hcr _ _ hs1).trans h1_3
      have f4 : w2.cell? ⟨w.heap.size + 1, 4, none⟩ = some (.int .i64 u.soft) := (hcr _ _ hs1).trans h1_4
      clear hcr hfr
      have hcs : (Mo.inside v u l k = true) ∨ (Mo.inside v u l k = false ∧ q + 1 ≤ u.clear) ∨ (Mo.inside v u l k = false ∧ u.clear < q + 1 ∧ q + 1 - u.clear < u.soft + 1) ∨ (Mo.inside v u l k = false ∧ u.clear < q + 1 ∧ u.soft + 1 ≤ q + 1 - u.clear) := by
        cases Mo.inside v u l k
        · simp; omega
        · simp
      rcases hcs with hin | ⟨hin, h1⟩ | ⟨hin, h1, h2⟩ | ⟨hin, h1, h2⟩
      all_goals have HIN := Lib.hid hin
      all_goals clear hin
      · have hlv : Hid (Mo.level v u l k = 0) := by show _ = _; unfold Mo.level; rw [HQ.out, if_pos HIN.out]; omega
        have HQ2 : Hid (Mo.quiet v u l (k + 1) = 0) := by show _ = _; rw [HQ.out, if_pos HIN.out]
        rw [HIN.out]
        go_wp2_with (at_builtin; refine wpList_append_own _ rfl _ _ 39 rfl W.heap.size 3 i0 (.int .i64 0) 1 8 Tryz.underlying39 hi hz0 hz1 hz2 rfl (by decide) _ _ _ rfl (hown2.alloc _) ⟨w2.heap.size, 0, none⟩ 1 1 [.int .i64 (0)] rfl rfl ?d11 ?d12 ?d13 ?d14 ?d15 ?_)
        case d11 => exact news_one _ _ rfl
        case d12 => intro x hx; simp at hx; subst hx; rfl
        case d13 => unfold maxLen; omega
        case d14 => omega
        case d15 => simp; omega
        intro x' w3 hown3 hg3 _
        have hB3 : Below W.heap.size W w3 := (hB2.alloc hsz _).grown hg3 (by simp; omega) (fun g hg => (hown2.lt g hg).1)
        rw [← (show (List.range (k+1)).map (fun (t : Nat) => Value.int .i64 (Mo.level v u l t)) = (List.range k).map (fun (t : Nat) => Value.int .i64 (Mo.level v u l t)) ++ [.int .i64 (0)] by rw [List.range_succ, List.map_append, ← hlv.out]; rfl)] at hown3
        have HO := Lib.hid hown3
        clear hown3 hg3 hown2 hown
        go_wp2
        go_roundw
        case rel => exact ⟨k + 1, by omega, by go_num, by rw [HQ2.out], HO.out, hB3⟩
        case measure => simp [intOf]; omega
      · have hlv : Hid (Mo.level v u l k = 0) := by show _ = _; unfold Mo.level; rw [HQ.out, if_neg (by rw [HIN.out]; simp)]; omega
        have HQ2 : Hid (Mo.quiet v u l (k + 1) = q + 1) := by show _ = _; rw [HQ.out, if_neg (by rw [HIN.out]; simp)]
        rw [HIN.out]
        go_wp2_with (at_builtin; refine wpList_append_own _ rfl _ _ 39 rfl W.heap.size 3 i0 (.int .i64 0) 1 8 Tryz.underlying39 hi hz0 hz1 hz2 rfl (by decide) _ _ _ rfl (hown2.alloc _) ⟨w2.heap.size, 0, none⟩ 1 1 [.int .i64 (0)] rfl rfl ?d21 ?d22 ?d23 ?d24 ?d25 ?_)
        case d21 => exact news_one _ _ rfl
        case d22 => intro x hx; simp at hx; subst hx; rfl
        case d23 => unfold maxLen; omega
        case d24 => omega
        case d25 => simp; omega
        intro x' w3 hown3 hg3 _
        have hB3 : Below W.heap.size W w3 := (hB2.alloc hsz _).grown hg3 (by simp; omega) (fun g hg => (hown2.lt g hg).1)
        rw [← (show (List.range (k+1)).map (fun (t : Nat) => Value.int .i64 (Mo.level v u l t)) = (List.range k).map (fun (t : Nat) => Value.int .i64 (Mo.level v u l t)) ++ [.int .i64 (0)] by rw [List.range_succ, List.map_append, ← hlv.out]; rfl)] at hown3
        have HO := Lib.hid hown3
        clear hown3 hg3 hown2 hown
        go_wp2
        go_roundw
        case rel => exact ⟨k + 1, by omega, by go_num, by rw [HQ2.out], HO.out, hB3⟩
        case measure => simp [intOf]; omega
      · have hlv : Hid (Mo.level v u l k = q + 1 - u.clear) := by show _ = _; unfold Mo.level; rw [HQ.out, if_neg (by rw [HIN.out]; simp)]; omega
        have HQ2 : Hid (Mo.quiet v u l (k + 1) = q + 1) := by show _ = _; rw [HQ.out, if_neg (by rw [HIN.out]; simp)]
        rw [HIN.out]
        go_wp2_with (at_builtin; refine wpList_append_own _ rfl _ _ 39 rfl W.heap.size 3 i0 (.int .i64 0) 1 8 Tryz.underlying39 hi hz0 hz1 hz2 rfl (by decide) _ _ _ rfl (hown2.alloc _) ⟨w2.heap.size, 0, none⟩ 1 1 [.int .i64 (q + 1 - u.clear)] rfl rfl ?d31 ?d32 ?d33 ?d34 ?d35 ?_)
        case d31 => exact news_one _ _ rfl
        case d32 => intro x hx; simp at hx; subst hx; rfl
        case d33 => unfold maxLen; omega
        case d34 => omega
        case d35 => simp; omega
        intro x' w3 hown3 hg3 _
        have hB3 : Below W.heap.size W w3 := (hB2.alloc hsz _).grown hg3 (by simp; omega) (fun g hg => (hown2.lt g hg).1)
        rw [← (show (List.range (k+1)).map (fun (t : Nat) => Value.int .i64 (Mo.level v u l t)) = (List.range k).map (fun (t : Nat) => Value.int .i64 (Mo.level v u l t)) ++ [.int .i64 (q + 1 - u.clear)] by rw [List.range_succ, List.map_append, ← hlv.out]; rfl)] at hown3
        have HO := Lib.hid hown3
        clear hown3 hg3 hown2 hown
        go_wp2
        go_roundw
        case rel => exact ⟨k + 1, by omega, by go_num, by rw [HQ2.out], HO.out, hB3⟩
        case measure => simp [intOf]; omega
      · have hlv : Hid (Mo.level v u l k = u.soft + 1) := by show _ = _; unfold Mo.level; rw [HQ.out, if_neg (by rw [HIN.out]; simp)]; omega
        have HQ2 : Hid (Mo.quiet v u l (k + 1) = q + 1) := by show _ = _; rw [HQ.out, if_neg (by rw [HIN.out]; simp)]
        rw [HIN.out]
        go_wp2_with (at_builtin; refine wpList_append_own _ rfl _ _ 39 rfl W.heap.size 3 i0 (.int .i64 0) 1 8 Tryz.underlying39 hi hz0 hz1 hz2 rfl (by decide) _ _ _ rfl (hown2.alloc _) ⟨w2.heap.size, 0, none⟩ 1 1 [.int .i64 (u.soft + 1)] rfl rfl ?d41 ?d42 ?d43 ?d44 ?d45 ?_)
        case d41 => exact news_one _ _ rfl
        case d42 => intro x hx; simp at hx; subst hx; rfl
        case d43 => unfold maxLen; omega
        case d44 => omega
        case d45 => simp; omega
        intro x' w3 hown3 hg3 _
        have hB3 : Below W.heap.size W w3 := (hB2.alloc hsz _).grown hg3 (by simp; omega) (fun g hg => (hown2.lt g hg).1)
        rw [← (show (List.range (k+1)).map (fun (t : Nat) => Value.int .i64 (Mo.level v u l t)) = (List.range k).map (fun (t : Nat) => Value.int .i64 (Mo.level v u l t)) ++ [.int .i64 (u.soft + 1)] by rw [List.range_succ, List.map_append, ← hlv.out]; rfl)] at hown3
        have HO := Lib.hid hown3
        clear hown3 hg3 hown2 hown
        go_wp2
        go_roundw
        case rel => exact ⟨k + 1, by omega, by go_num, by rw [HQ2.out], HO.out, hB3⟩
        case measure => simp [intOf]; omega
    · obtain rfl : k = N := by omega
      go_wp2
      go_ret
      exact ⟨_, rfl, Sl.of_own hown, hB.call hBr rfl⟩

theorem c18_bad (v : Ves) (u : Wat) (A : Option Addr) (cap : Nat) (l : List Sgt) (w : World) (hl : l.length ≤ 1000000) (H : RdL w 3 Sgt.enc A l) (hbad : Mo.all v u l ≠ 0) :
    Calls Tryz.prog 18 #[.agg #[.int .i64 v.sx, .int .i64 v.sy, .int .i64 v.dx, .int .i64 v.dy, .int .i64 v.n], .agg #[.int .i64 u.ring, .int .i64 u.speed, .int .i64 u.loss, .int .i64 u.clear, .int .i64 u.soft], .slice A l.length cap] w fun en w' => en = .returned (.tuple #[.slice none 0 0, .int .i64 (Mo.all v u l)]) ∧ Below w.heap.size w w' := by
  have hb' : (Mo.all v u l != 0) = true := by simpa using hbad
  have HC := fun W (hW : Below w.heap.size w W) => Lib.hid (c87 v u A cap l W hl (H.below hW))
  clear H hbad
  go_enter Tryz.func18, Tryz.ntmps18
  go_wp2_with fail
  refine (HC _ ?_).out.mono ?_
  · exact (((Below.refl _ _).alloc (by first | omega | (simp <;> omega)) _).alloc (by first | omega | (simp <;> omega)) _)
  rintro e w1 ⟨rfl, hb1⟩
  go_wp2
  go_ret2
  exact ⟨rfl, ((((Below.refl _ _).alloc (by first | omega | (simp <;> omega)) _).alloc (by first | omega | (simp <;> omega)) _).call hb1 rfl).alloc (by have := hb1.size; simp at this; omega) _⟩
theorem c18_ok (v : Ves) (u : Wat) (A : Option Addr) (cap : Nat) (l : List Sgt) (w : World) (H : RdL w 3 Sgt.enc A l) (hok : Mo.all v u l = 0) :
    Calls Tryz.prog 18 #[.agg #[.int .i64 v.sx, .int .i64 v.sy, .int .i64 v.dx, .int .i64 v.dy, .int .i64 v.n], .agg #[.int .i64 u.ring, .int .i64 u.speed, .int .i64 u.loss, .int .i64 u.clear, .int .i64 u.soft], .slice A l.length cap] w fun en w' => ∃ g : Nat, en = .returned (.tuple #[.slice (some ⟨g, 0, none⟩) v.n.toNat v.n.toNat, .int .i64 0]) ∧
      w'.heap[g]? = some (.cells ((Mo.levels v u l).map (Value.int .i64)).toArray 3 (0, 0)) ∧ w.heap.size ≤ g ∧ Below w.heap.size w w' := by
  have hlen := (Mo.all_ok hok).2.2.1
  have HC := fun W (hW : Below w.heap.size w W) => Lib.hid (c87 v u A cap l W (by omega) (H.below hW))
  have HL := fun W (hW : Below w.heap.size w W) => Lib.hid (c89 v u A cap l W (H.below hW) hok)
  simp only [hok] at HC
  clear H hok hlen
  obtain ⟨n, hn⟩ : ∃ n, n = l.length := ⟨_, rfl⟩
  rw [← hn] at HC HL ⊢
  clear hn
  go_enter Tryz.func18, Tryz.ntmps18
  go_wp2_with fail
  refine (HC _ ?_).out.mono ?_
  · exact (((Below.refl _ _).alloc (by first | omega | (simp <;> omega)) _).alloc (by first | omega | (simp <;> omega)) _)
  rintro e w1 ⟨rfl, hb1⟩
  have hB1 := (((Below.refl _ _).alloc (by first | omega | (simp <;> omega)) _).alloc (by first | omega | (simp <;> omega)) _).call hb1 rfl
  have hsz := hB1.size
  go_wp2_with fail
  refine (HL _ ?_).out.mono ?_
  · exact hB1.alloc hsz _
  rintro e w2 ⟨g, rfl, hg, hle, hb2⟩
  have HG := Lib.hid hg
  have hB2 := fin0 (hB1.alloc hsz _) hb2
  have hle' : w.heap.size ≤ g := by simp at hle; omega
  clear hg
  go_wp2
  go_ret2
  exact ⟨g, rfl, HG.out, hle', hB2⟩

end Go.Proofs.YtndhjkammoeikaaGreatDoor
namespace Go.Proofs.YtndhjkammoeikaaGreatDoor
namespace Mo
def fire1 (n : Int) (fs : List Fir) (k : Nat) : Int := match fs[k]? with
  | some f => first [range f.t 0 (RowKit.wrap64 (n - 1)), range f.v 1 1001]
  | none => 0
def fire2 (v : Ves) (u : Wat) (l : List Sgt) (f : Fir) : Int := when (decide (level v u l f.t.toNat < f.v)) (first [when (inside v u l f.t) 31, 21])
def fires (v : Ves) (u : Wat) (l : List Sgt) (fs : List Fir) : Int :=
  if first [all v u l, each fs.length 256 (fire1 v.n fs)] ≠ 0 then first [all v u l, each fs.length 256 (fire1 v.n fs)] else first (fs.map (fire2 v u l))
theorem fires_ok {v : Ves} {fs : List Fir} (hv : VOk v) (h : each fs.length 256 (fire1 v.n fs) = 0) : fs.length ≤ 256 ∧ ∀ f ∈ fs, (0 ≤ f.t ∧ f.t ≤ v.n - 1) ∧ 1 ≤ f.v ∧ f.v ≤ 1001 := by
  obtain ⟨h1, h2⟩ := each_zero h
  refine ⟨h1, fun f hf => ?_⟩
  obtain ⟨k, hk, rfl⟩ := List.mem_iff_getElem.1 hf
  have h3 := h2 k hk
  unfold fire1 at h3
  rw [List.getElem?_eq_getElem hk] at h3
  have hw : RowKit.wrap64 (v.n - 1) = v.n - 1 := IntWalk.wrap64_in _ (by have := hv.n; omega)
  rw [hw] at h3
  have h4 := first_zero h3
  exact ⟨range_zero (h4 _ (by simp)), range_zero (h4 (range fs[k].v 1 1001) (by simp))⟩
end Mo
end Go.Proofs.YtndhjkammoeikaaGreatDoor
