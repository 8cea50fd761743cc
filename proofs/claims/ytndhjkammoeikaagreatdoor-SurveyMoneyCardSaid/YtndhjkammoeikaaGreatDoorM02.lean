/- A part of the proofs about chapter 9: contracts of functions and plain laws (W73, W74). -/
import Derived.Test.YtndhjkammoeikaaGreatDoorM01
import Derived.Test.YtndhjkammoeikaaGreatDoorL01
set_option linter.all false
namespace Go.Proofs.YtndhjkammoeikaaGreatDoor
open Go.RowKit
set_option maxHeartbeats 100000000
set_option maxRecDepth 20000

theorem cells3 {w : World} {b : Nat} {t : TypeId} {f : Nat × Nat} {v0 v1 v2 : Value} (h : w.heap[b]? = some (.cells #[v0, v1, v2] t f)) : w.cell? ⟨b, 0, none⟩ = some v0 ∧ w.cell? ⟨b, 1, none⟩ = some v1 ∧ w.cell? ⟨b, 2, none⟩ = some v2 :=
  ⟨cell_at h rfl, cell_at h rfl, cell_at h rfl⟩
theorem cells6 {w : World} {b : Nat} {t : TypeId} {f : Nat × Nat} {v0 v1 v2 v3 v4 v5 : Value} (h : w.heap[b]? = some (.cells #[v0, v1, v2, v3, v4, v5] t f)) : w.cell? ⟨b, 0, none⟩ = some v0 ∧ w.cell? ⟨b, 1, none⟩ = some v1 ∧ w.cell? ⟨b, 2, none⟩ = some v2 ∧ w.cell? ⟨b, 3, none⟩ = some v3 ∧ w.cell? ⟨b, 4, none⟩ = some v4 ∧ w.cell? ⟨b, 5, none⟩ = some v5 :=
  ⟨cell_at h rfl, cell_at h rfl, cell_at h rfl, cell_at h rfl, cell_at h rfl, cell_at h rfl⟩
theorem cells8 {w : World} {b : Nat} {t : TypeId} {f : Nat × Nat} {v0 v1 v2 v3 v4 v5 v6 v7 : Value} (h : w.heap[b]? = some (.cells #[v0, v1, v2, v3, v4, v5, v6, v7] t f)) : w.cell? ⟨b, 0, none⟩ = some v0 ∧ w.cell? ⟨b, 1, none⟩ = some v1 ∧ w.cell? ⟨b, 2, none⟩ = some v2 ∧ w.cell? ⟨b, 3, none⟩ = some v3 ∧ w.cell? ⟨b, 4, none⟩ = some v4 ∧ w.cell? ⟨b, 5, none⟩ = some v5 ∧ w.cell? ⟨b, 6, none⟩ = some v6 ∧ w.cell? ⟨b, 7, none⟩ = some v7 :=
  ⟨cell_at h rfl, cell_at h rfl, cell_at h rfl, cell_at h rfl, cell_at h rfl, cell_at h rfl, cell_at h rfl, cell_at h rfl⟩
theorem cells9 {w : World} {b : Nat} {t : TypeId} {f : Nat × Nat} {v0 v1 v2 v3 v4 v5 v6 v7 v8 : Value} (h : w.heap[b]? = some (.cells #[v0, v1, v2, v3, v4, v5, v6, v7, v8] t f)) : w.cell? ⟨b, 0, none⟩ = some v0 ∧ w.cell? ⟨b, 1, none⟩ = some v1 ∧ w.cell? ⟨b, 2, none⟩ = some v2 ∧ w.cell? ⟨b, 3, none⟩ = some v3 ∧ w.cell? ⟨b, 4, none⟩ = some v4 ∧ w.cell? ⟨b, 5, none⟩ = some v5 ∧ w.cell? ⟨b, 6, none⟩ = some v6 ∧ w.cell? ⟨b, 7, none⟩ = some v7 ∧ w.cell? ⟨b, 8, none⟩ = some v8 :=
  ⟨cell_at h rfl, cell_at h rfl, cell_at h rfl, cell_at h rfl, cell_at h rfl, cell_at h rfl, cell_at h rfl, cell_at h rfl, cell_at h rfl⟩
theorem cells15 {w : World} {b : Nat} {t : TypeId} {f : Nat × Nat} {v0 v1 v2 v3 v4 v5 v6 v7 v8 v9 v10 v11 v12 v13 v14 : Value} (h : w.heap[b]? = some (.cells #[v0, v1, v2, v3, v4, v5, v6, v7, v8, v9, v10, v11, v12, v13, v14] t f)) : w.cell? ⟨b, 0, none⟩ = some v0 ∧ w.cell? ⟨b, 1, none⟩ = some v1 ∧ w.cell? ⟨b, 2, none⟩ = some v2 ∧ w.cell? ⟨b, 3, none⟩ = some v3 ∧ w.cell? ⟨b, 4, none⟩ = some v4 ∧ w.cell? ⟨b, 5, none⟩ = some v5 ∧ w.cell? ⟨b, 6, none⟩ = some v6 ∧ w.cell? ⟨b, 7, none⟩ = some v7 ∧ w.cell? ⟨b, 8, none⟩ = some v8 ∧ w.cell? ⟨b, 9, none⟩ = some v9 ∧ w.cell? ⟨b, 10, none⟩ = some v10 ∧ w.cell? ⟨b, 11, none⟩ = some v11 ∧ w.cell? ⟨b, 12, none⟩ = some v12 ∧ w.cell? ⟨b, 13, none⟩ = some v13 ∧ w.cell? ⟨b, 14, none⟩ = some v14 :=
  ⟨cell_at h rfl, cell_at h rfl, cell_at h rfl, cell_at h rfl, cell_at h rfl, cell_at h rfl, cell_at h rfl, cell_at h rfl, cell_at h rfl, cell_at h rfl, cell_at h rfl, cell_at h rfl, cell_at h rfl, cell_at h rfl, cell_at h rfl⟩

theorem dia_hours {L : List Ent} {n : Int} (h : Mo.entries L = 0) (ht : Mo.tot L = n) (h1 : Mo.hrs L 1 = 0) (h4 : Mo.hrs L 4 = 0) : ∃ Q : Nat → Int, hoursV L = .agg #[.int .i64 (Q 0), .int .i64 (Q 1), .int .i64 (Q 2), .int .i64 (Q 3), .int .i64 (Q 4), .int .i64 (Q 5)] ∧
    (∀ i, 0 ≤ Q i ∧ Q i ≤ 6400000) ∧ Mo.psum Q 6 = n ∧ Q 1 = 0 ∧ Q 4 = 0 := by
  refine ⟨fun i : Nat => Mo.hrs L (i : Int), by rw [Mo.hours_ok h]; rfl, fun i => ?_, ?_, h1, h4⟩
  · have h1 := Mo.hrs_bd L (Mo.entries_ok h).2.1 (i : Int)
    have h2 := (Mo.entries_ok h).1
    show 0 ≤ Mo.hrs L i ∧ Mo.hrs L i ≤ 6400000
    omega
  · rw [← ht]
    unfold Mo.tot
    show 0 + Mo.hrs L 0 + Mo.hrs L 1 + Mo.hrs L 2 + Mo.hrs L 3 + Mo.hrs L 4 + Mo.hrs L 5 = _
    omega
theorem dia44 (A : Option Addr) (C : Nat) (L : List Ent) (h : Mo.entries L = 0) : ∀ w1 (H1 : RdS w1 3 A L.length (L.flatMap Ent.enc)), type_of% (c44 A C L w1 (Nat.le_trans (Mo.entries_ok h).1 (by decide)) H1) := fun w1 H1 => c44 A C L w1 (Nat.le_trans (Mo.entries_ok h).1 (by decide)) H1
theorem dia53 (L : List Ent) (h : Mo.entries L = 0) : ∀ w1 A cap (H1 : RdS w1 3 A L.length (L.flatMap Ent.enc)), type_of% (c53o A cap L w1 (Nat.le_trans (Mo.entries_ok h).1 (by decide)) H1) := fun w1 A cap H1 => c53o A cap L w1 (Nat.le_trans (Mo.entries_ok h).1 (by decide)) H1
theorem dia54 (L : List Ent) (h : Mo.entries L = 0) {V : Value} (hQv : hoursV L = V) (w1 : World) (A : Option Addr) (cap : Nat) (H1 : RdS w1 3 A L.length (L.flatMap Ent.enc)) :
    Calls Tryz.prog 54 #[.slice A L.length cap] w1 fun en w' => en = .returned (.tuple #[V, .int .i64 0]) ∧ Below w1.heap.size w1 w' := by
  have := c54 A cap L w1 (Nat.le_trans (Mo.entries_ok h).1 (by decide)) (Mo.ents_size h) H1
  rw [h, hQv] at this
  exact this
theorem eq91r (V : Inv) (w : World) : (Op.equalIn 10000 91 (.agg #[.int .i64 (V.c 0), .int .i64 (V.c 1), .int .i64 (V.c 2), .int .i64 (V.c 3), .int .i64 (V.c 4), .int .i64 (V.c 5), .int .i64 V.lines, .int .i64 V.total]) (.agg #[.int .i64 (V.c 0), .int .i64 (V.c 1), .int .i64 (V.c 2), .int .i64 (V.c 3), .int .i64 (V.c 4), .int .i64 (V.c 5), .int .i64 V.lines, .int .i64 V.total])).run Tryz.prog w = .ok true w := by
  have u3 := Tryz.underlying3
  have a3 := Tryz.isAgg3
  have z3 := Tryz.sizeOf3
  have u85 := Tryz.underlying85
  have a85 := Tryz.isAgg85
  have z85 := Tryz.sizeOf85
  have E := fun w => eq85d V.c V.c w
  rw [arr6_eq, show eq6 V.c V.c = true from (eq6_iff V.c V.c).2 (fun _ _ => rfl)] at E
  rw [show (10000 : Nat) = 9999 + 1 from rfl, run_equalIn_struct w 9999 91 _ _ (by unfold Program.fieldsOf; rw [Tryz.underlying91]) (by kernel_rfl)]
  unfold Program.fieldsOf
  rw [Tryz.underlying91]
  simp only [Op.eqFields]
  go_simp
theorem wp_store_one {op : Oper} {a : Act} {w : World} {K : Act → World → Prop} {Q : Exit → Act → World → Prop} (x y : Operand) (ho : op.op = .store 3 x y)
    (g o : Nat) (n : Int) (cs : Array Value) (hx : a.eval x = .pointer (some ⟨g, o, none⟩)) (hy : a.eval y = .int .i64 n) {t : TypeId} (hh : w.heap[g]? = some (.cells cs t (0, 0))) (hlt : o < cs.size)
    (h : ∀ w', w'.heap[g]? = some (.cells (cs.setIfInBounds o (.int .i64 n)) t (0, 0)) → w.grownBy w' (some g) → w'.heap.size = w.heap.size → K (a.put op.dst undef) w') : op.wp Tryz.prog a w K Q := by
  have hc : w.cell? ⟨g, o, none⟩ = some cs[o] := by simp [World.cell?, hh, hlt]
  have hf : w.frozen? ⟨g, o, none⟩ = false := by simp [World.frozen?, hh]
  have hsz : (w.setCell ⟨g, o, none⟩ (.int .i64 n)).heap.size = w.heap.size := by simp [World.setCell]
  have hb : (w.setCell ⟨g, o, none⟩ (.int .i64 n)).heap[g]? = some (.cells (cs.setIfInBounds o (.int .i64 n)) t (0, 0)) := by
    simp [World.setCell, Array.getElem?_modify, hh]
  have := h (w.setCell ⟨g, o, none⟩ (.int .i64 n)) hb ⟨rfl, rfl, rfl, by rw [hsz]; exact Nat.le_refl _, fun k _ hk => Below.heap_setCell w ⟨g, o, none⟩ (.int .i64 n) k (fun e => hk (by rw [e]))⟩ hsz
  unfold Oper.wp execOp
  simp only [ho, hx, hy]
  go_simp
  exact this
theorem wpList_store_one {ops : Array Oper} {rest : List Oper} {op : Oper} {a : Act} {w : World} {Q : Exit → Act → World → Prop} (hgd : op.guard = none) (x y : Operand) (ho : op.op = .store 3 x y)
    (g o : Nat) (n : Int) (cs : Array Value) (hx : a.eval x = .pointer (some ⟨g, o, none⟩)) (hy : a.eval y = .int .i64 n) {t : TypeId} (hh : w.heap[g]? = some (.cells cs t (0, 0))) (hlt : o < cs.size)
    (h : ∀ w', w'.heap[g]? = some (.cells (cs.setIfInBounds o (.int .i64 n)) t (0, 0)) → w.grownBy w' (some g) → w'.heap.size = w.heap.size → wpList Tryz.prog ops Q rest (a.put op.dst undef) w') : wpList Tryz.prog ops Q (op :: rest) a w :=
  wpList_plain hgd fun _ hK => wp_store_one x y ho g o n cs hx hy hh hlt fun w' h2 h3 h4 => hK _ _ (h w' h2 h3 h4)

theorem l10_bad (c : Con) (A : Option Addr) (cap : Nat) (l : List Ent) (v : Ves) (u : Wat) (SA : Option Addr) (scap : Nat) (sg : List Sgt) (S : Option Addr) (shcap : Nat) (sh : List Spn) (T : Option Addr) (wcap : Nat) (we : List Spn) (tk : Int) (G : Option Addr) (gcap : Nat) (rs : List Res) (w : World) (hl0 : l.length ≤ 9223372036854775807) (hg0 : rs.length ≤ 9223372036854775807) (H : RdL w 3 Ent.enc A l) (HG : RdL w 3 Res.enc G rs) (HA : RdL w 3 Sgt.enc SA sg) (HS : RdL w 2 Spn.enc S sh) (HT : RdL w 2 Spn.enc T we) (hs0 : S = none → shcap = 0) (ht0 : T = none → wcap = 0) (h3 : Mo.bill c l rs ≠ 0) :
    Calls Tryz.prog 10 #[.agg #[.int .i64 (c.r 0), .int .i64 (c.r 1), .int .i64 (c.r 2), .int .i64 (c.r 3), .int .i64 (c.r 4), .int .i64 (c.r 5), .int .i64 c.free, .int .i64 c.bonus, .int .i64 c.pen], .slice A l.length cap, .agg #[.int .i64 v.sx, .int .i64 v.sy, .int .i64 v.dx, .int .i64 v.dy, .int .i64 v.n, .int .i64 u.ring, .int .i64 u.speed, .int .i64 u.loss, .int .i64 u.clear, .int .i64 u.soft, .slice SA sg.length scap, .slice S sh.length shcap, .slice T we.length wcap, .int .i64 tk, .slice G rs.length gcap]] w fun en w' => en = .returned (.bool true) ∧ Below w.heap.size w w' := by
  obtain ⟨N, hN⟩ : ∃ N, N = l.length := ⟨_, rfl⟩
  obtain ⟨M, hM⟩ : ∃ M, M = rs.length := ⟨_, rfl⟩
  obtain ⟨SN, hSN⟩ : ∃ M, M = sg.length := ⟨_, rfl⟩
  obtain ⟨HN2, hHN2⟩ : ∃ M, M = sh.length := ⟨_, rfl⟩
  obtain ⟨TN, hTN⟩ : ∃ M, M = we.length := ⟨_, rfl⟩
  obtain ⟨E3, hE3⟩ : ∃ E, E = Mo.bill c l rs := ⟨_, rfl⟩
  have h51 := fun w1 (H1 : RdS w1 3 A l.length (l.flatMap Ent.enc)) => c51w A cap l w1 hl0 H1
  have h64 := fun w1 (H1 : RdS w1 3 G rs.length (rs.flatMap Res.enc)) => c64w G gcap rs w1 hg0 H1
  have h63 := fun w1 (h : l.length ≤ 1000000) (H1 : RdS w1 3 A l.length (l.flatMap Ent.enc)) => c63 A cap l w1 h H1
  have h65 := fun w1 (h : l.length ≤ 1000000) (h' : rs.length ≤ 1000000) hs hs' (H1 : RdS w1 3 A l.length (l.flatMap Ent.enc)) (H2 : RdS w1 3 G rs.length (rs.flatMap Res.enc)) => c65 c A cap l G gcap rs w1 h h' hs hs' H1 H2
  rw [← hE3] at h65
  replace H : RdS w 3 A l.length (l.flatMap Ent.enc) := H
  replace HG : RdS w 3 G rs.length (rs.flatMap Res.enc) := HG
  replace HA : RdS w 3 SA sg.length (sg.flatMap Sgt.enc) := HA
  replace HS : RdS w 2 S sh.length (sh.flatMap Spn.enc) := HS
  replace HT : RdS w 2 T we.length (we.flatMap Spn.enc) := HT
  rw [← hE3] at h3
  have hq3 : (E3 != 0) = true := by simpa using h3
  clear h3 hE3
  rw [← hN] at H h51 h63 h65 ⊢
  rw [← hM] at HG h64 h65 ⊢
  rw [← hSN] at HA  ⊢
  rw [← hHN2] at HS  ⊢
  rw [← hTN] at HT  ⊢
  have HN := Lib.hid hN
  have HM0 := Lib.hid hM
  have HSN := Lib.hid hSN
  have HHN := Lib.hid hHN2
  have HTN := Lib.hid hTN
  have HS0 := Lib.hid hs0
  have HT0 := Lib.hid ht0
  have H51 := Lib.hid h51
  have H64 := Lib.hid h64
  have H63 := Lib.hid h63
  have H65 := Lib.hid h65
  clear hl0 hg0 hs0 ht0 hN hM hSN hHN2 hTN h51 h64 h63 h65
  go_enter Tryz.func10, Tryz.ntmps10
  obtain ⟨w0, hW⟩ : ∃ W, W = (w.alloc (Obj.cells #[.int .i64 (c.r 0), .int .i64 (c.r 1), .int .i64 (c.r 2), .int .i64 (c.r 3), .int .i64 (c.r 4), .int .i64 (c.r 5), .int .i64 c.free, .int .i64 c.bonus, .int .i64 c.pen] 122)).alloc (Obj.cells #[.int .i64 v.sx, .int .i64 v.sy, .int .i64 v.dx, .int .i64 v.dy, .int .i64 v.n, .int .i64 u.ring, .int .i64 u.speed, .int .i64 u.loss, .int .i64 u.clear, .int .i64 u.soft, .slice SA SN scap, .slice S HN2 shcap, .slice T TN wcap, .int .i64 tk, .slice G M gcap] 125) := ⟨_, rfl⟩
  have hT0 : w0.heap[w.heap.size]? = some (.cells #[.int .i64 (c.r 0), .int .i64 (c.r 1), .int .i64 (c.r 2), .int .i64 (c.r 3), .int .i64 (c.r 4), .int .i64 (c.r 5), .int .i64 c.free, .int .i64 c.bonus, .int .i64 c.pen] 122 (0, 0)) := by rw [hW]; exact heap_old (by simp <;> omega) (heap_new (by simp))
  have hT1 : w0.heap[w.heap.size + 1]? = some (.cells #[.int .i64 v.sx, .int .i64 v.sy, .int .i64 v.dx, .int .i64 v.dy, .int .i64 v.n, .int .i64 u.ring, .int .i64 u.speed, .int .i64 u.loss, .int .i64 u.clear, .int .i64 u.soft, .slice SA SN scap, .slice S HN2 shcap, .slice T TN wcap, .int .i64 tk, .slice G M gcap] 125 (0, 0)) := by rw [hW]; exact heap_new (by simp)
  have hB0 : Below w.heap.size w w0 := by rw [hW]; exact (((Below.refl _ _).alloc (by first | omega | (simp <;> omega)) _).alloc (by first | omega | (simp <;> omega)) _)
  replace H := H.below hB0
  replace HG := HG.below hB0
  replace HA := HA.below hB0
  replace HS := HS.below hB0
  replace HT := HT.below hB0
  go_wp2_with fail
  rw [← hW]
  clear hW
  obtain ⟨qhT0_0, qhT0_1, qhT0_2, qhT0_3, qhT0_4, qhT0_5, qhT0_6, qhT0_7, qhT0_8⟩ := cells9 hT0
  obtain ⟨qhT1_0, qhT1_1, qhT1_2, qhT1_3, qhT1_4, qhT1_5, qhT1_6, qhT1_7, qhT1_8, qhT1_9, qhT1_10, qhT1_11, qhT1_12, qhT1_13, qhT1_14⟩ := cells15 hT1
  go_wp2_with fail
  refine (H51.out _ H).mono ?_
  rintro e w' ⟨⟨b, rfl, hb1⟩, rfl⟩
  clear H51
  cases b
  case false =>
   go_wp2_with fail
   refine (c15 _).mono ?_
   rintro e wz ⟨rfl, hz⟩
   go_wp2
   go_ret
   exact ⟨rfl, hB0.call hz rfl⟩
  obtain ⟨hl, hs⟩ := hb1 rfl
  clear hb1
  have HSZ : Hid (∀ e ∈ l, e.c.size ≤ 1000000) := Lib.hid (fun e he => by have := hs e he; omega)
  clear hs
  have HL : Hid (N ≤ 1000000) := Lib.hid (by omega)
  clear hl
  go_wp2_with fail
  refine (H63.out _ HL.out H).mono ?_
  rintro e w1 ⟨⟨b, rfl, hb2⟩, hb⟩
  clear qhT0_0 qhT0_1 qhT0_2 qhT0_3 qhT0_4 qhT0_5 qhT0_6 qhT0_7 qhT0_8 qhT1_0 qhT1_1 qhT1_2 qhT1_3 qhT1_4 qhT1_5 qhT1_6 qhT1_7 qhT1_8 qhT1_9 qhT1_10 qhT1_11 qhT1_12 qhT1_13 qhT1_14
  have hS := hb
  have hB1 := hB0.call hS rfl
  replace hT0 := blkb hT0 hS
  replace hT1 := blkb hT1 hS
  replace H := H.below hS
  replace HG := HG.below hS
  replace HA := HA.below hS
  replace HS := HS.below hS
  replace HT := HT.below hS
  clear hS hB0
  obtain ⟨qhT0_0, qhT0_1, qhT0_2, qhT0_3, qhT0_4, qhT0_5, qhT0_6, qhT0_7, qhT0_8⟩ := cells9 hT0
  obtain ⟨qhT1_0, qhT1_1, qhT1_2, qhT1_3, qhT1_4, qhT1_5, qhT1_6, qhT1_7, qhT1_8, qhT1_9, qhT1_10, qhT1_11, qhT1_12, qhT1_13, qhT1_14⟩ := cells15 hT1
  clear hb
  clear hb2
  cases b
  case false =>
   go_wp2_with fail
   refine (c15 _).mono ?_
   rintro e wz ⟨rfl, hz⟩
   go_wp2
   go_ret
   exact ⟨rfl, hB1.call hz rfl⟩
  go_wp2_with fail
  refine (H64.out _ HG).mono ?_
  rintro e w' ⟨⟨b, rfl, hb1⟩, rfl⟩
  clear H64 H63
  cases b
  case false =>
   go_wp2_with fail
   refine (c15 _).mono ?_
   rintro e wz ⟨rfl, hz⟩
   go_wp2
   go_ret
   exact ⟨rfl, hB1.call hz rfl⟩
  obtain ⟨hm, hs⟩ := hb1 rfl
  clear hb1
  have HRZ : Hid (∀ x ∈ rs, x.n.size ≤ 1000000) := Lib.hid (fun e he => by have := hs e he; omega)
  clear hs
  have HM : Hid (M ≤ 1000000) := Lib.hid (by omega)
  clear hm
  go_wp2_with fail
  refine (H65.out _ HL.out HM.out HSZ.out HRZ.out H HG).mono ?_
  rintro e w2 ⟨rfl, hb⟩
  clear qhT0_0 qhT0_1 qhT0_2 qhT0_3 qhT0_4 qhT0_5 qhT0_6 qhT0_7 qhT0_8 qhT1_0 qhT1_1 qhT1_2 qhT1_3 qhT1_4 qhT1_5 qhT1_6 qhT1_7 qhT1_8 qhT1_9 qhT1_10 qhT1_11 qhT1_12 qhT1_13 qhT1_14
  have hS := hb
  have hB2 := hB1.call hS rfl
  replace hT0 := blkb hT0 hS
  replace hT1 := blkb hT1 hS
  replace H := H.below hS
  replace HG := HG.below hS
  replace HA := HA.below hS
  replace HS := HS.below hS
  replace HT := HT.below hS
  clear hS hB1
  obtain ⟨qhT0_0, qhT0_1, qhT0_2, qhT0_3, qhT0_4, qhT0_5, qhT0_6, qhT0_7, qhT0_8⟩ := cells9 hT0
  obtain ⟨qhT1_0, qhT1_1, qhT1_2, qhT1_3, qhT1_4, qhT1_5, qhT1_6, qhT1_7, qhT1_8, qhT1_9, qhT1_10, qhT1_11, qhT1_12, qhT1_13, qhT1_14⟩ := cells15 hT1
  clear hb
  go_wp2_with fail
  refine (c15 _).mono ?_
  rintro e wz ⟨rfl, hz⟩
  go_wp2
  go_ret
  exact ⟨rfl, hB2.call hz rfl⟩

theorem l10_ok (c : Con) (A : Option Addr) (cap : Nat) (l : List Ent) (v : Ves) (u : Wat) (SA : Option Addr) (scap : Nat) (sg : List Sgt) (S : Option Addr) (shcap : Nat) (sh : List Spn) (T : Option Addr) (wcap : Nat) (we : List Spn) (tk : Int) (G : Option Addr) (gcap : Nat) (rs : List Res) (w : World) (hl0 : l.length ≤ 9223372036854775807) (hg0 : rs.length ≤ 9223372036854775807) (H : RdL w 3 Ent.enc A l) (HG : RdL w 3 Res.enc G rs) (HA : RdL w 3 Sgt.enc SA sg) (HS : RdL w 2 Spn.enc S sh) (HT : RdL w 2 Spn.enc T we) (hs0 : S = none → shcap = 0) (ht0 : T = none → wcap = 0) (h3 : Mo.bill c l rs = 0) :
    Calls Tryz.prog 10 #[.agg #[.int .i64 (c.r 0), .int .i64 (c.r 1), .int .i64 (c.r 2), .int .i64 (c.r 3), .int .i64 (c.r 4), .int .i64 (c.r 5), .int .i64 c.free, .int .i64 c.bonus, .int .i64 c.pen], .slice A l.length cap, .agg #[.int .i64 v.sx, .int .i64 v.sy, .int .i64 v.dx, .int .i64 v.dy, .int .i64 v.n, .int .i64 u.ring, .int .i64 u.speed, .int .i64 u.loss, .int .i64 u.clear, .int .i64 u.soft, .slice SA sg.length scap, .slice S sh.length shcap, .slice T we.length wcap, .int .i64 tk, .slice G rs.length gcap]] w fun en w' => en = .returned (.bool true) ∧ Below w.heap.size w w' := by
  obtain ⟨N, hN⟩ : ∃ N, N = l.length := ⟨_, rfl⟩
  obtain ⟨M, hM⟩ : ∃ M, M = rs.length := ⟨_, rfl⟩
  obtain ⟨SN, hSN⟩ : ∃ M, M = sg.length := ⟨_, rfl⟩
  obtain ⟨HN2, hHN2⟩ : ∃ M, M = sh.length := ⟨_, rfl⟩
  obtain ⟨TN, hTN⟩ : ∃ M, M = we.length := ⟨_, rfl⟩
  obtain ⟨E3, hE3⟩ : ∃ E, E = Mo.bill c l rs := ⟨_, rfl⟩
  have h51 := fun w1 (H1 : RdS w1 3 A l.length (l.flatMap Ent.enc)) => c51w A cap l w1 hl0 H1
  have h64 := fun w1 (H1 : RdS w1 3 G rs.length (rs.flatMap Res.enc)) => c64w G gcap rs w1 hg0 H1
  have h63 := fun w1 (h : l.length ≤ 1000000) (H1 : RdS w1 3 A l.length (l.flatMap Ent.enc)) => c63 A cap l w1 h H1
  have h65 := fun w1 (h : l.length ≤ 1000000) (h' : rs.length ≤ 1000000) hs hs' (H1 : RdS w1 3 A l.length (l.flatMap Ent.enc)) (H2 : RdS w1 3 G rs.length (rs.flatMap Res.enc)) => c65 c A cap l G gcap rs w1 h h' hs hs' H1 H2
  rw [← hE3] at h65
  replace H : RdS w 3 A l.length (l.flatMap Ent.enc) := H
  replace HG : RdS w 3 G rs.length (rs.flatMap Res.enc) := HG
  replace HA : RdS w 3 SA sg.length (sg.flatMap Sgt.enc) := HA
  replace HS : RdS w 2 S sh.length (sh.flatMap Spn.enc) := HS
  replace HT : RdS w 2 T we.length (we.flatMap Spn.enc) := HT
  obtain ⟨V, hV⟩ : ∃ V, V = Mo.billI c l rs := ⟨_, rfl⟩
  have hent : Mo.entries l = 0 := (Mo.bill_ok h3).2.1
  have h53 := fun w1 (h : l.length ≤ 1000000) (H1 : RdS w1 3 A l.length (l.flatMap Ent.enc)) => c53o A cap l w1 h H1
  have h67 := fun w1 (h : rs.length ≤ 1000000) (H1 : RdS w1 3 G rs.length (rs.flatMap Res.enc)) => c67o G gcap rs w1 h H1
  have h66 := fun (c' : Con) (l' : List Ent) (h0 : Mo.bill c' l' rs = 0) w1 A (cap : Nat) G (gcap : Nat) (h : l'.length ≤ 1000000) (h' : rs.length ≤ 1000000) hc1 hc2 hs hs' (H1 : RdS w1 3 A l'.length (l'.flatMap Ent.enc)) (H2 : RdS w1 3 G rs.length (rs.flatMap Res.enc)) => by
    have := c66 c' A cap l' G gcap rs w1 h h' hc1 hc2 hs hs' H1 H2
    rw [h0, show Mo.billV c' l' rs = Mo.billI c' l' rs by unfold Mo.billV; rw [if_neg (by rw [h0]; simp)]] at this
    unfold Inv.arr at this
    exact this
  have h68 := fun w1 A (cap : Nat) G (gcap : Nat) (h : l.length ≤ 1000000) (h' : rs.length ≤ 1000000) hc1 hc2 hs hs' (H1 : RdS w1 3 A l.length (l.flatMap Ent.enc)) (H2 : RdS w1 3 G rs.length (rs.flatMap Res.enc)) hnw => by
    have := c68 c A cap l G gcap rs w1 h h' hc1 hc2 hs hs' H1 H2 hnw
    rw [h3, show Mo.billV c l rs = Mo.billI c l rs by unfold Mo.billV; rw [if_neg (by rw [h3]; simp)]] at this
    rw [← hV] at this
    unfold Inv.arr at this
    exact this
  have h52 := fun w1 A (cap : Nat) (h : l.length ≤ 1000000) hs (H1 : RdS w1 3 A l.length (l.flatMap Ent.enc)) => by
    have := c52 A cap l w1 h hs H1
    rw [hent, show Mo.mergedE l = Mo.merged l by unfold Mo.mergedE; rw [if_neg (by rw [hent]; simp)]] at this
    exact this
  obtain ⟨q, hq⟩ : ∃ q : Nat → Int, q = fun i : Nat => Mo.hrs l (i : Int) := ⟨_, rfl⟩
  obtain ⟨m, hm⟩ : ∃ m, m = Mo.merged l := ⟨_, rfl⟩
  have hqs : hoursV l = .agg #[.int .i64 (q 0), .int .i64 (q 1), .int .i64 (q 2), .int .i64 (q 3), .int .i64 (q 4), .int .i64 (q 5)] := by rw [Mo.hours_ok hent, hq]; rfl
  have hqm : hoursV m = .agg #[.int .i64 (q 0), .int .i64 (q 1), .int .i64 (q 2), .int .i64 (q 3), .int .i64 (q 4), .int .i64 (q 5)] := by rw [hm, Mo.hours_merged hent, hq]; rfl
  have hem : Mo.entries m = 0 := by rw [hm]; exact Mo.merged_entries hent
  have hml : m.length ≤ l.length := by rw [hm]; exact Mo.merged_len l
  have hbm : Mo.bill c m rs = 0 := by rw [hm]; exact (Mo.bill_merged h3).1
  have hbi : Mo.billI c m rs = V := by rw [hm, hV]; exact (Mo.bill_merged h3).2
  have hms : ∀ e ∈ m, e.c.size ≤ 1000000 := Mo.ents_size hem
  have hbd : ∀ k, k ≤ 6 → -500000000000 ≤ V.lines + Mo.psum V.c k ∧ V.lines + Mo.psum V.c k ≤ 500000000000 := by rw [hV]; exact fun k hk => Mo.bill_bd h3 k hk
  have htot : V.total = V.lines + Mo.psum V.c 6 := by rw [hV]; rfl
  have h54 := fun w1 A (cap : Nat) (h : l.length ≤ 1000000) hs (H1 : RdS w1 3 A l.length (l.flatMap Ent.enc)) => by
    have := c54 A cap l w1 h hs H1
    rw [hent, hqs] at this
    exact this
  have h66m := fun w1 A (cap : Nat) G (gcap : Nat) (h : m.length ≤ 1000000) (h' : rs.length ≤ 1000000) hc1 hc2 hs hs' (H1 : RdS w1 3 A m.length (m.flatMap Ent.enc)) (H2 : RdS w1 3 G rs.length (rs.flatMap Res.enc)) => by
    have := h66 c m hbm w1 A cap G gcap h h' hc1 hc2 hs hs' H1 H2
    rw [hbi] at this
    exact this
  have h44 := fun w1 A (cap : Nat) (h : m.length ≤ 1000000) (H1 : RdS w1 3 A m.length (m.flatMap Ent.enc)) => c44 A cap m w1 h H1
  have h56 := fun w1 A (cap : Nat) (h : m.length ≤ 1000000) (H1 : RdS w1 3 A m.length (m.flatMap Ent.enc)) => by
    have := c56 A cap m w1 h H1
    rw [hem] at this
    exact this
  have h53m := fun w1 A (cap : Nat) (h : m.length ≤ 1000000) (H1 : RdS w1 3 A m.length (m.flatMap Ent.enc)) => c53o A cap m w1 h H1
  have h54m := fun w1 A (cap : Nat) (h : m.length ≤ 1000000) (H1 : RdS w1 3 A m.length (m.flatMap Ent.enc)) => by
    have := c54 A cap m w1 h hms H1
    rw [hem, hqm] at this
    exact this
  rw [← hm] at h52
  obtain ⟨MN, hMN⟩ : ∃ n, n = m.length := ⟨_, rfl⟩
  rw [← hMN] at h52 h66m h44 h56 h53m h54m hml
  have HMS := Lib.hid hms
  have HBD := Lib.hid hbd
  have HTOT := Lib.hid htot
  have HQ := Lib.hid hq
  have E85 := eq85r q
  have HML := Lib.hid hml
  clear hqs hqm hem hbm hbi hms hbd htot hq hm hMN hml
  obtain ⟨E20, hE20⟩ : ∃ E, E = Mo.all v u sg := ⟨_, rfl⟩
  obtain ⟨E48, hE48⟩ : ∃ E, E = Mo.spans sh := ⟨_, rfl⟩
  obtain ⟨E49, hE49⟩ : ∃ E, E = Mo.spans we := ⟨_, rfl⟩
  have h14 := fun w1 A n cap => c14 v A n cap w1
  have h20 := fun w1 (h : sg.length ≤ 1000000) (H1 : RdS w1 3 SA sg.length (sg.flatMap Sgt.enc)) => c20 v u SA scap sg w1 h H1
  have h48 := fun w1 (h : sh.length ≤ 1000000) (H1 : RdS w1 2 S sh.length (sh.flatMap Spn.enc)) => c48 S shcap sh w1 h H1
  have h48b := fun w1 (h : we.length ≤ 1000000) (H1 : RdS w1 2 T we.length (we.flatMap Spn.enc)) => c48 T wcap we w1 h H1
  rw [← hE20] at h20
  rw [← hE48] at h48
  rw [← hE49] at h48b
  have HE20 := Lib.hid hE20
  have HE48 := Lib.hid hE48
  have HE49 := Lib.hid hE49
  clear hE20 hE48 hE49
  have H3 := Lib.hid h3
  have HENT := Lib.hid hent
  rw [h3] at hE3
  subst hE3
  have HV := Lib.hid hV
  have E91 := eq91r V
  have h45 := c45 V V
  rw [Mo.diffs_self] at h45
  have H45 := Lib.hid h45
  clear h3 hent hV h45
  rw [← hN] at H h51 h63 h65 h53 h68 h52 h54 HML ⊢
  rw [← hM] at HG h64 h65 h67 h68 h66m ⊢
  rw [← hSN] at HA h20 ⊢
  rw [← hHN2] at HS h48 ⊢
  rw [← hTN] at HT h48b ⊢
  have HN := Lib.hid hN
  have HM0 := Lib.hid hM
  have HSN := Lib.hid hSN
  have HHN := Lib.hid hHN2
  have HTN := Lib.hid hTN
  have HS0 := Lib.hid hs0
  have HT0 := Lib.hid ht0
  have H51 := Lib.hid h51
  have H64 := Lib.hid h64
  have H63 := Lib.hid h63
  have H65 := Lib.hid h65
  have H53 := Lib.hid h53
  have H67 := Lib.hid h67
  have H66 := Lib.hid h66
  have H68 := Lib.hid h68
  have H52 := Lib.hid h52
  have H54 := Lib.hid h54
  have H66m := Lib.hid h66m
  have H44 := Lib.hid h44
  have H56 := Lib.hid h56
  have H53m := Lib.hid h53m
  have H54m := Lib.hid h54m
  have H14 := Lib.hid h14
  have H20 := Lib.hid h20
  have H48 := Lib.hid h48
  have H48b := Lib.hid h48b
  clear hl0 hg0 hs0 ht0 hN hM hSN hHN2 hTN h51 h64 h63 h65 h53 h67 h66 h68 h52 h54 h66m h44 h56 h53m h54m h14 h20 h48 h48b
  go_enter Tryz.func10, Tryz.ntmps10
  obtain ⟨w0, hW⟩ : ∃ W, W = (w.alloc (Obj.cells #[.int .i64 (c.r 0), .int .i64 (c.r 1), .int .i64 (c.r 2), .int .i64 (c.r 3), .int .i64 (c.r 4), .int .i64 (c.r 5), .int .i64 c.free, .int .i64 c.bonus, .int .i64 c.pen] 122)).alloc (Obj.cells #[.int .i64 v.sx, .int .i64 v.sy, .int .i64 v.dx, .int .i64 v.dy, .int .i64 v.n, .int .i64 u.ring, .int .i64 u.speed, .int .i64 u.loss, .int .i64 u.clear, .int .i64 u.soft, .slice SA SN scap, .slice S HN2 shcap, .slice T TN wcap, .int .i64 tk, .slice G M gcap] 125) := ⟨_, rfl⟩
  have hT0 : w0.heap[w.heap.size]? = some (.cells #[.int .i64 (c.r 0), .int .i64 (c.r 1), .int .i64 (c.r 2), .int .i64 (c.r 3), .int .i64 (c.r 4), .int .i64 (c.r 5), .int .i64 c.free, .int .i64 c.bonus, .int .i64 c.pen] 122 (0, 0)) := by rw [hW]; exact heap_old (by simp <;> omega) (heap_new (by simp))
  have hT1 : w0.heap[w.heap.size + 1]? = some (.cells #[.int .i64 v.sx, .int .i64 v.sy, .int .i64 v.dx, .int .i64 v.dy, .int .i64 v.n, .int .i64 u.ring, .int .i64 u.speed, .int .i64 u.loss, .int .i64 u.clear, .int .i64 u.soft, .slice SA SN scap, .slice S HN2 shcap, .slice T TN wcap, .int .i64 tk, .slice G M gcap] 125 (0, 0)) := by rw [hW]; exact heap_new (by simp)
  have hB0 : Below w.heap.size w w0 := by rw [hW]; exact (((Below.refl _ _).alloc (by first | omega | (simp <;> omega)) _).alloc (by first | omega | (simp <;> omega)) _)
  replace H := H.below hB0
  replace HG := HG.below hB0
  replace HA := HA.below hB0
  replace HS := HS.below hB0
  replace HT := HT.below hB0
  go_wp2_with fail
  rw [← hW]
  clear hW
  obtain ⟨qhT0_0, qhT0_1, qhT0_2, qhT0_3, qhT0_4, qhT0_5, qhT0_6, qhT0_7, qhT0_8⟩ := cells9 hT0
  obtain ⟨qhT1_0, qhT1_1, qhT1_2, qhT1_3, qhT1_4, qhT1_5, qhT1_6, qhT1_7, qhT1_8, qhT1_9, qhT1_10, qhT1_11, qhT1_12, qhT1_13, qhT1_14⟩ := cells15 hT1
  go_wp2_with fail
  refine (H51.out _ H).mono ?_
  rintro e w' ⟨⟨b, rfl, hb1⟩, rfl⟩
  clear H51
  cases b
  case false =>
   go_wp2_with fail
   refine (c15 _).mono ?_
   rintro e wz ⟨rfl, hz⟩
   go_wp2
   go_ret
   exact ⟨rfl, hB0.call hz rfl⟩
  obtain ⟨hl, hs⟩ := hb1 rfl
  clear hb1
  have HSZ : Hid (∀ e ∈ l, e.c.size ≤ 1000000) := Lib.hid (fun e he => by have := hs e he; omega)
  clear hs
  have HL : Hid (N ≤ 1000000) := Lib.hid (by omega)
  clear hl
  go_wp2_with fail
  refine (H63.out _ HL.out H).mono ?_
  rintro e w1 ⟨⟨b, rfl, hb2⟩, hb⟩
  clear qhT0_0 qhT0_1 qhT0_2 qhT0_3 qhT0_4 qhT0_5 qhT0_6 qhT0_7 qhT0_8 qhT1_0 qhT1_1 qhT1_2 qhT1_3 qhT1_4 qhT1_5 qhT1_6 qhT1_7 qhT1_8 qhT1_9 qhT1_10 qhT1_11 qhT1_12 qhT1_13 qhT1_14
  have hS := hb
  have hB1 := hB0.call hS rfl
  replace hT0 := blkb hT0 hS
  replace hT1 := blkb hT1 hS
  replace H := H.below hS
  replace HG := HG.below hS
  replace HA := HA.below hS
  replace HS := HS.below hS
  replace HT := HT.below hS
  clear hS hB0
  obtain ⟨qhT0_0, qhT0_1, qhT0_2, qhT0_3, qhT0_4, qhT0_5, qhT0_6, qhT0_7, qhT0_8⟩ := cells9 hT0
  obtain ⟨qhT1_0, qhT1_1, qhT1_2, qhT1_3, qhT1_4, qhT1_5, qhT1_6, qhT1_7, qhT1_8, qhT1_9, qhT1_10, qhT1_11, qhT1_12, qhT1_13, qhT1_14⟩ := cells15 hT1
  clear hb
  clear hb2
  cases b
  case false =>
   go_wp2_with fail
   refine (c15 _).mono ?_
   rintro e wz ⟨rfl, hz⟩
   go_wp2
   go_ret
   exact ⟨rfl, hB1.call hz rfl⟩
  go_wp2_with fail
  refine (H64.out _ HG).mono ?_
  rintro e w' ⟨⟨b, rfl, hb1⟩, rfl⟩
  clear H64 H63
  cases b
  case false =>
   go_wp2_with fail
   refine (c15 _).mono ?_
   rintro e wz ⟨rfl, hz⟩
   go_wp2
   go_ret
   exact ⟨rfl, hB1.call hz rfl⟩
  obtain ⟨hm, hs⟩ := hb1 rfl
  clear hb1
  have HRZ : Hid (∀ x ∈ rs, x.n.size ≤ 1000000) := Lib.hid (fun e he => by have := hs e he; omega)
  clear hs
  have HM : Hid (M ≤ 1000000) := Lib.hid (by omega)
  clear hm
  go_wp2_with fail
  refine (H65.out _ HL.out HM.out HSZ.out HRZ.out H HG).mono ?_
  rintro e w2 ⟨rfl, hb⟩
  clear qhT0_0 qhT0_1 qhT0_2 qhT0_3 qhT0_4 qhT0_5 qhT0_6 qhT0_7 qhT0_8 qhT1_0 qhT1_1 qhT1_2 qhT1_3 qhT1_4 qhT1_5 qhT1_6 qhT1_7 qhT1_8 qhT1_9 qhT1_10 qhT1_11 qhT1_12 qhT1_13 qhT1_14
  have hS := hb
  have hB2 := hB1.call hS rfl
  replace hT0 := blkb hT0 hS
  replace hT1 := blkb hT1 hS
  replace H := H.below hS
  replace HG := HG.below hS
  replace HA := HA.below hS
  replace HS := HS.below hS
  replace HT := HT.below hS
  clear hS hB1
  obtain ⟨qhT0_0, qhT0_1, qhT0_2, qhT0_3, qhT0_4, qhT0_5, qhT0_6, qhT0_7, qhT0_8⟩ := cells9 hT0
  obtain ⟨qhT1_0, qhT1_1, qhT1_2, qhT1_3, qhT1_4, qhT1_5, qhT1_6, qhT1_7, qhT1_8, qhT1_9, qhT1_10, qhT1_11, qhT1_12, qhT1_13, qhT1_14⟩ := cells15 hT1
  clear hb
  go_wp2
  have h66a := fun w1 A (cap : Nat) G (gcap : Nat) => H66.out c l H3.out w1 A cap G gcap
  rw [← HV.out, ← HN.out, ← HM0.out] at h66a
  have H66A := Lib.hid h66a
  clear h66a
  refine wp_region_planF (Φ := Fresh w2.heap.size #[.int .i64 0, .int .i64 0, .int .i64 0, .int .i64 0, .int .i64 0, .int .i64 0, .int .i64 0, .int .i64 0] 91) [(0, 1), (1, 1), (3, 1), (4, 1), (2, 0), (5, 0), (6, 0), (7, 1), (8, 1), (9, 1), (10, 2), (11, 3), (12, 1)] 10 w2.heap.size _ rfl (by kernel_rfl) (by kernel_rfl) (Nat.le_refl _) (fun _ _ d _ _ h => by cases d <;> exact h) (fun _ _ d _ _ h => by cases d <;> exact h) (fun v w w' hv hb => hv.below hb) ?hF ?_
  case hF =>
    intro a wq hq
    refine ⟨rfl, ?_⟩
    have hsz := hq.size
    go_simp
    exact ⟨_, rfl, ⟨_, rfl, hsz, heap_new rfl⟩, (Below.refl _ _).alloc (Nat.le_refl _) _⟩
  have hC : Below w2.heap.size w2 w2 := Below.refl _ _
  have hBr := hB2
  have zhT0 : w.heap.size < w2.heap.size := (Array.getElem?_eq_some_iff.1 hT0).1
  have zhT1 : w.heap.size + 1 < w2.heap.size := (Array.getElem?_eq_some_iff.1 hT1).1
  have hT00 := hT0
  have hT10 := hT1
  have H0 := H
  have HG0 := HG
  have HA0 := HA
  have HS0 := HS
  have HT0 := HT
  repeat (first | (refine wpPlanFA_skip _ rfl (by rfl) ?_; simp only [Act.put, List.setIfInBounds_toArray, List.set_cons_zero, List.set_cons_succ]) | (refine wpPlanFA_soft _ ?_ rfl (by rfl) ?_ ?_; rotate_left; (intro wq hq hcq; go_simp; first | exact rfl | exact ⟨rfl, rfl⟩); simp only [Act.put, List.setIfInBounds_toArray, List.set_cons_zero, List.set_cons_succ]))
  refine wpPlanFA_hard _ rfl (by rfl) (fun w3 hS K hK => ?_)
  have hB3 := hB2.call hS rfl
  replace hC := hC.call hS rfl
  replace hT0 := blkb hT0 hS
  replace hT1 := blkb hT1 hS
  replace H := H.below hS
  replace HG := HG.below hS
  replace HA := HA.below hS
  replace HS := HS.below hS
  replace HT := HT.below hS
  clear hS hB2
  go_simp
  refine (H53.out _ HL.out H).mono ?_
  rintro e w4 ⟨x, rfl, ho, hb⟩
  have hB4 := hB3.call hb rfl
  replace hC := hC.call hb rfl
  replace hT0 := blkb hT0 hb
  replace hT1 := blkb hT1 hb
  replace H := H.below hb
  replace HG := HG.below hb
  replace HA := HA.below hb
  replace HS := HS.below hb
  replace HT := HT.below hb
  obtain ⟨AE, CE, rfl, he, _, _, he3⟩ := own_form ho
  have HE3 := Lib.hid he3
  clear ho he3
  have hse : Below w4.heap.size w4 w4 := Below.refl _ _
  refine hK _ _ hC hb ?_
  clear hK K hb hB3
  try simp only [Act.put, List.setIfInBounds_toArray, List.set_cons_zero, List.set_cons_succ]
  refine wpPlanFA_hard _ rfl (by rfl) (fun w5 hS K hK => ?_)
  have hB5 := hB4.call hS rfl
  replace hC := hC.call hS rfl
  replace hT0 := blkb hT0 hS
  replace hT1 := blkb hT1 hS
  replace H := H.below hS
  replace HG := HG.below hS
  replace HA := HA.below hS
  replace HS := HS.below hS
  replace HT := HT.below hS
  replace he := he.below hS
  replace hse := hse.call hS rfl
  clear hS hB4
  go_simp
  refine (H67.out _ HM.out HG).mono ?_
  rintro e w6 ⟨x, rfl, ho, hb⟩
  have hB6 := hB5.call hb rfl
  replace hC := hC.call hb rfl
  replace hT0 := blkb hT0 hb
  replace hT1 := blkb hT1 hb
  replace H := H.below hb
  replace HG := HG.below hb
  replace HA := HA.below hb
  replace HS := HS.below hb
  replace HT := HT.below hb
  replace he := he.below hb
  replace hse := hse.call hb rfl
  obtain ⟨AR, CR, rfl, hr, hr1, hr2, hr3⟩ := own_form ho
  have HR1 := Lib.hid hr1
  have HR2 := Lib.hid hr2
  clear ho hr1 hr2 hr3
  refine hK _ _ hC hb ?_
  clear hK K hb hB5
  try simp only [Act.put, List.setIfInBounds_toArray, List.set_cons_zero, List.set_cons_succ]
  refine wpPlanFA_hard _ rfl (by rfl) (fun w7 hS K hK => ?_)
  have hB7 := hB6.call hS rfl
  replace hC := hC.call hS rfl
  replace hT0 := blkb hT0 hS
  replace hT1 := blkb hT1 hS
  replace H := H.below hS
  replace HG := HG.below hS
  replace HA := HA.below hS
  replace HS := HS.below hS
  replace HT := HT.below hS
  replace he := he.below hS
  replace hse := hse.call hS rfl
  replace hr := hr.below hS
  clear hS hB6
  go_simp
  refine (H66A.out _ AE CE AR CR HL.out HM.out HR1.out HR2.out HSZ.out HRZ.out he hr).mono ?_
  rintro e w8 ⟨rfl, hb⟩
  have hB8 := hB7.call hb rfl
  replace hC := hC.call hb rfl
  replace hT0 := blkb hT0 hb
  replace hT1 := blkb hT1 hb
  replace H := H.below hb
  replace HG := HG.below hb
  replace HA := HA.below hb
  replace HS := HS.below hb
  replace HT := HT.below hb
  replace he := he.below hb
  replace hse := hse.call hb rfl
  replace hr := hr.below hb
  refine hK _ _ hC hb ?_
  clear hK K hb hB7
  try simp only [Act.put, List.setIfInBounds_toArray, List.set_cons_zero, List.set_cons_succ]
  repeat (first | (refine wpPlanFA_skip _ rfl (by rfl) ?_; simp only [Act.put, List.setIfInBounds_toArray, List.set_cons_zero, List.set_cons_succ]) | (refine wpPlanFA_soft _ ?_ rfl (by rfl) ?_ ?_; rotate_left; (intro wq hq hcq; go_simp; first | exact rfl | exact ⟨rfl, rfl⟩); simp only [Act.put, List.setIfInBounds_toArray, List.set_cons_zero, List.set_cons_succ]))
  refine wpPlanFA_float _ rfl (fun v w9 hS hv => ?_)
  obtain ⟨bt7, rfl, hge, t7⟩ := hv
  have hB9 := hB8.call hS rfl
  replace hC := hC.call hS rfl
  replace hT0 := blkb hT0 hS
  replace hT1 := blkb hT1 hS
  replace H := H.below hS
  replace HG := HG.below hS
  replace HA := HA.below hS
  replace HS := HS.below hS
  replace HT := HT.below hS
  replace he := he.below hS
  replace hse := hse.call hS rfl
  replace hr := hr.below hS
  clear hS hB8
  try simp only [Act.put, List.setIfInBounds_toArray, List.set_cons_zero, List.set_cons_succ]
  repeat (first | (refine wpPlanFA_skip _ rfl (by rfl) ?_; simp only [Act.put, List.setIfInBounds_toArray, List.set_cons_zero, List.set_cons_succ]) | (refine wpPlanFA_soft _ ?_ rfl (by rfl) ?_ ?_; rotate_left; (intro wq hq hcq; go_simp; first | exact rfl | exact ⟨rfl, rfl⟩); simp only [Act.put, List.setIfInBounds_toArray, List.set_cons_zero, List.set_cons_succ]))
  refine wpPlanFA_late _ rfl (by rfl) (fun w10 hS K hK => ?_)
  replace hC := hC.call hS rfl
  replace t7 := blkb t7 hS
  clear hS hB9 hT0 hT1 H HG HA HS HT he hse hr
  refine wp_store_blk 91 _ _ rfl bt7 _ rfl rfl t7 ?s1 ?s2 ?s3 ?_
  case s1 => rfl
  case s2 => kernel_rfl
  case s3 => simp [Value.oneCell']
  intro w11 t7n hg3 hs3
  replace hC : Below w2.heap.size w2 w11 := hC.grown hg3 hC.size (fun j hj => by cases hj; exact hge)
  refine hK _ _ hC ?_
  clear hK K t7 hg3 hs3
  have t7 := t7n
  clear t7n
  have hB11 := hBr.call hC rfl
  have hT0 := blkb hT00 hC
  have hT1 := blkb hT10 hC
  have H := H0.below hC
  have HG := HG0.below hC
  have HA := HA0.below hC
  have HS := HS0.below hC
  have HT := HT0.below hC
  try simp only [Act.put, List.setIfInBounds_toArray, List.set_cons_zero, List.set_cons_succ]
  repeat (first | (refine wpPlanFA_skip _ rfl (by rfl) ?_; simp only [Act.put, List.setIfInBounds_toArray, List.set_cons_zero, List.set_cons_succ]) | (refine wpPlanFA_soft _ ?_ rfl (by rfl) ?_ ?_; rotate_left; (intro wq hq hcq; go_simp; first | exact rfl | exact ⟨rfl, rfl⟩); simp only [Act.put, List.setIfInBounds_toArray, List.set_cons_zero, List.set_cons_succ]))
  clear qhT0_0 qhT0_1 qhT0_2 qhT0_3 qhT0_4 qhT0_5 qhT0_6 qhT0_7 qhT0_8 qhT1_0 qhT1_1 qhT1_2 qhT1_3 qhT1_4 qhT1_5 qhT1_6 qhT1_7 qhT1_8 qhT1_9 qhT1_10 qhT1_11 qhT1_12 qhT1_13 qhT1_14
  refine wpPlanFA_nil (fun w12 hS => ?_)
  clear hC hge hBr zhT0 zhT1 hT00 hT10 H0 HG0 HA0 HS0 HT0
  have hB12 := hB11.call hS rfl
  replace hT0 := blkb hT0 hS
  replace hT1 := blkb hT1 hS
  replace H := H.below hS
  replace HG := HG.below hS
  replace HA := HA.below hS
  replace HS := HS.below hS
  replace HT := HT.below hS
  replace t7 := blkb t7 hS
  clear hS hB11
  obtain ⟨qhT0_0, qhT0_1, qhT0_2, qhT0_3, qhT0_4, qhT0_5, qhT0_6, qhT0_7, qhT0_8⟩ := cells9 hT0
  obtain ⟨qhT1_0, qhT1_1, qhT1_2, qhT1_3, qhT1_4, qhT1_5, qhT1_6, qhT1_7, qhT1_8, qhT1_9, qhT1_10, qhT1_11, qhT1_12, qhT1_13, qhT1_14⟩ := cells15 hT1
  clear HE3 HR1 HR2
  go_wp2
  refine wp_region_planF (Φ := Fresh w12.heap.size #[.int .i64 0, .int .i64 0, .int .i64 0, .int .i64 0, .int .i64 0, .int .i64 0, .int .i64 0, .int .i64 0] 91) [(0, 1), (1, 1), (3, 1), (4, 1), (2, 0), (5, 0), (6, 0), (7, 1), (8, 1), (9, 1), (10, 2), (11, 3), (12, 1)] 10 w12.heap.size _ rfl (by kernel_rfl) (by kernel_rfl) (Nat.le_refl _) (fun _ _ d _ _ h => by cases d <;> exact h) (fun _ _ d _ _ h => by cases d <;> exact h) (fun v w w' hv hb => hv.below hb) ?hF ?_
  case hF =>
    intro a wq hq
    refine ⟨rfl, ?_⟩
    have hsz := hq.size
    go_simp
    exact ⟨_, rfl, ⟨_, rfl, hsz, heap_new rfl⟩, (Below.refl _ _).alloc (Nat.le_refl _) _⟩
  have hC : Below w12.heap.size w12 w12 := Below.refl _ _
  have hBr := hB12
  have zhT0 : w.heap.size < w12.heap.size := (Array.getElem?_eq_some_iff.1 hT0).1
  have zhT1 : w.heap.size + 1 < w12.heap.size := (Array.getElem?_eq_some_iff.1 hT1).1
  have hT00 := hT0
  have hT10 := hT1
  have H0 := H
  have HG0 := HG
  have HA0 := HA
  have HS0 := HS
  have HT0 := HT
  have t70 := t7
  repeat (first | (refine wpPlanFA_skip _ rfl (by rfl) ?_; simp only [Act.put, List.setIfInBounds_toArray, List.set_cons_zero, List.set_cons_succ]) | (refine wpPlanFA_soft _ ?_ rfl (by rfl) ?_ ?_; rotate_left; (intro wq hq hcq; go_simp; first | exact rfl | exact ⟨rfl, rfl⟩); simp only [Act.put, List.setIfInBounds_toArray, List.set_cons_zero, List.set_cons_succ]))
  refine wpPlanFA_hard _ rfl (by rfl) (fun w13 hS K hK => ?_)
  have hB13 := hB12.call hS rfl
  replace hC := hC.call hS rfl
  replace hT0 := blkb hT0 hS
  replace hT1 := blkb hT1 hS
  replace H := H.below hS
  replace HG := HG.below hS
  replace HA := HA.below hS
  replace HS := HS.below hS
  replace HT := HT.below hS
  replace t7 := blkb t7 hS
  clear hS hB12
  go_simp
  refine (H53.out _ HL.out H).mono ?_
  rintro e w14 ⟨x, rfl, ho, hb⟩
  have hB14 := hB13.call hb rfl
  replace hC := hC.call hb rfl
  replace hT0 := blkb hT0 hb
  replace hT1 := blkb hT1 hb
  replace H := H.below hb
  replace HG := HG.below hb
  replace HA := HA.below hb
  replace HS := HS.below hb
  replace HT := HT.below hb
  replace t7 := blkb t7 hb
  obtain ⟨AE, CE, rfl, he, _, _, he3⟩ := own_form ho
  have HE3 := Lib.hid he3
  clear ho he3
  have hse : Below w14.heap.size w14 w14 := Below.refl _ _
  refine hK _ _ hC hb ?_
  clear hK K hb hB13
  try simp only [Act.put, List.setIfInBounds_toArray, List.set_cons_zero, List.set_cons_succ]
  refine wpPlanFA_hard _ rfl (by rfl) (fun w15 hS K hK => ?_)
  have hB15 := hB14.call hS rfl
  replace hC := hC.call hS rfl
  replace hT0 := blkb hT0 hS
  replace hT1 := blkb hT1 hS
  replace H := H.below hS
  replace HG := HG.below hS
  replace HA := HA.below hS
  replace HS := HS.below hS
  replace HT := HT.below hS
  replace t7 := blkb t7 hS
  replace he := he.below hS
  replace hse := hse.call hS rfl
  clear hS hB14
  go_simp
  refine (H67.out _ HM.out HG).mono ?_
  rintro e w16 ⟨x, rfl, ho, hb⟩
  have hB16 := hB15.call hb rfl
  replace hC := hC.call hb rfl
  replace hT0 := blkb hT0 hb
  replace hT1 := blkb hT1 hb
  replace H := H.below hb
  replace HG := HG.below hb
  replace HA := HA.below hb
  replace HS := HS.below hb
  replace HT := HT.below hb
  replace t7 := blkb t7 hb
  replace he := he.below hb
  replace hse := hse.call hb rfl
  obtain ⟨AR, CR, rfl, hr, hr1, hr2, hr3⟩ := own_form ho
  have HR1 := Lib.hid hr1
  have HR2 := Lib.hid hr2
  clear ho hr1 hr2 hr3
  refine hK _ _ hC hb ?_
  clear hK K hb hB15
  try simp only [Act.put, List.setIfInBounds_toArray, List.set_cons_zero, List.set_cons_succ]
  refine wpPlanFA_hard _ rfl (by rfl) (fun w17 hS K hK => ?_)
  have hB17 := hB16.call hS rfl
  replace hC := hC.call hS rfl
  replace hT0 := blkb hT0 hS
  replace hT1 := blkb hT1 hS
  replace H := H.below hS
  replace HG := HG.below hS
  replace HA := HA.below hS
  replace HS := HS.below hS
  replace HT := HT.below hS
  replace t7 := blkb t7 hS
  replace he := he.below hS
  replace hse := hse.call hS rfl
  replace hr := hr.below hS
  clear hS hB16
  go_simp
  refine (H68.out _ AE CE AR CR HL.out HM.out HR1.out HR2.out HSZ.out HRZ.out he hr (fun b off h => Nat.lt_of_lt_of_le (HE3.out b off h) hse.size)).mono ?_
  rintro e w18 ⟨rfl, hb⟩
  have hB18 := hB17.call hb rfl
  replace hC := hC.call hb rfl
  replace hT0 := blkb hT0 hb
  replace hT1 := blkb hT1 hb
  replace H := H.below hb
  replace HG := HG.below hb
  replace HA := HA.below hb
  replace HS := HS.below hb
  replace HT := HT.below hb
  replace t7 := blkb t7 hb
  replace he := he.below hb
  replace hse := hse.call hb rfl
  replace hr := hr.below hb
  refine hK _ _ hC hb ?_
  clear hK K hb hB17
  try simp only [Act.put, List.setIfInBounds_toArray, List.set_cons_zero, List.set_cons_succ]
  repeat (first | (refine wpPlanFA_skip _ rfl (by rfl) ?_; simp only [Act.put, List.setIfInBounds_toArray, List.set_cons_zero, List.set_cons_succ]) | (refine wpPlanFA_soft _ ?_ rfl (by rfl) ?_ ?_; rotate_left; (intro wq hq hcq; go_simp; first | exact rfl | exact ⟨rfl, rfl⟩); simp only [Act.put, List.setIfInBounds_toArray, List.set_cons_zero, List.set_cons_succ]))
  refine wpPlanFA_float _ rfl (fun v w19 hS hv => ?_)
  obtain ⟨bt9, rfl, hge, t9⟩ := hv
  have hB19 := hB18.call hS rfl
  replace hC := hC.call hS rfl
  replace hT0 := blkb hT0 hS
  replace hT1 := blkb hT1 hS
  replace H := H.below hS
  replace HG := HG.below hS
  replace HA := HA.below hS
  replace HS := HS.below hS
  replace HT := HT.below hS
  replace t7 := blkb t7 hS
  replace he := he.below hS
  replace hse := hse.call hS rfl
  replace hr := hr.below hS
  clear hS hB18
  try simp only [Act.put, List.setIfInBounds_toArray, List.set_cons_zero, List.set_cons_succ]
  repeat (first | (refine wpPlanFA_skip _ rfl (by rfl) ?_; simp only [Act.put, List.setIfInBounds_toArray, List.set_cons_zero, List.set_cons_succ]) | (refine wpPlanFA_soft _ ?_ rfl (by rfl) ?_ ?_; rotate_left; (intro wq hq hcq; go_simp; first | exact rfl | exact ⟨rfl, rfl⟩); simp only [Act.put, List.setIfInBounds_toArray, List.set_cons_zero, List.set_cons_succ]))
  refine wpPlanFA_late _ rfl (by rfl) (fun w20 hS K hK => ?_)
  replace hC := hC.call hS rfl
  replace t9 := blkb t9 hS
  clear hS hB19 hT0 hT1 H HG HA HS HT t7 he hse hr
  refine wp_store_blk 91 _ _ rfl bt9 _ rfl rfl t9 ?s1 ?s2 ?s3 ?_
  case s1 => rfl
  case s2 => kernel_rfl
  case s3 => simp [Value.oneCell']
  intro w21 t9n hg3 hs3
  replace hC : Below w12.heap.size w12 w21 := hC.grown hg3 hC.size (fun j hj => by cases hj; exact hge)
  refine hK _ _ hC ?_
  clear hK K t9 hg3 hs3
  have t9 := t9n
  clear t9n
  have hB21 := hBr.call hC rfl
  have hT0 := blkb hT00 hC
  have hT1 := blkb hT10 hC
  have H := H0.below hC
  have HG := HG0.below hC
  have HA := HA0.below hC
  have HS := HS0.below hC
  have HT := HT0.below hC
  have t7 := blkb t70 hC
  try simp only [Act.put, List.setIfInBounds_toArray, List.set_cons_zero, List.set_cons_succ]
  repeat (first | (refine wpPlanFA_skip _ rfl (by rfl) ?_; simp only [Act.put, List.setIfInBounds_toArray, List.set_cons_zero, List.set_cons_succ]) | (refine wpPlanFA_soft _ ?_ rfl (by rfl) ?_ ?_; rotate_left; (intro wq hq hcq; go_simp; first | exact rfl | exact ⟨rfl, rfl⟩); simp only [Act.put, List.setIfInBounds_toArray, List.set_cons_zero, List.set_cons_succ]))
  clear qhT0_0 qhT0_1 qhT0_2 qhT0_3 qhT0_4 qhT0_5 qhT0_6 qhT0_7 qhT0_8 qhT1_0 qhT1_1 qhT1_2 qhT1_3 qhT1_4 qhT1_5 qhT1_6 qhT1_7 qhT1_8 qhT1_9 qhT1_10 qhT1_11 qhT1_12 qhT1_13 qhT1_14
  refine wpPlanFA_nil (fun w22 hS => ?_)
  clear hC hge hBr zhT0 zhT1 hT00 hT10 H0 HG0 HA0 HS0 HT0 t70
  have hB22 := hB21.call hS rfl
  replace hT0 := blkb hT0 hS
  replace hT1 := blkb hT1 hS
  replace H := H.below hS
  replace HG := HG.below hS
  replace HA := HA.below hS
  replace HS := HS.below hS
  replace HT := HT.below hS
  replace t7 := blkb t7 hS
  replace t9 := blkb t9 hS
  clear hS hB21
  obtain ⟨qhT0_0, qhT0_1, qhT0_2, qhT0_3, qhT0_4, qhT0_5, qhT0_6, qhT0_7, qhT0_8⟩ := cells9 hT0
  obtain ⟨qhT1_0, qhT1_1, qhT1_2, qhT1_3, qhT1_4, qhT1_5, qhT1_6, qhT1_7, qhT1_8, qhT1_9, qhT1_10, qhT1_11, qhT1_12, qhT1_13, qhT1_14⟩ := cells15 hT1
  clear HE3 HR1 HR2
  clear qhT0_0 qhT0_1 qhT0_2 qhT0_3 qhT0_4 qhT0_5 qhT0_6 qhT0_7 qhT0_8 qhT1_0 qhT1_1 qhT1_2 qhT1_3 qhT1_4 qhT1_5 qhT1_6 qhT1_7 qhT1_8 qhT1_9 qhT1_10 qhT1_11 qhT1_12 qhT1_13 qhT1_14
  obtain ⟨qhT0_0, qhT0_1, qhT0_2, qhT0_3, qhT0_4, qhT0_5, qhT0_6, qhT0_7, qhT0_8⟩ := cells9 hT0
  obtain ⟨qhT1_0, qhT1_1, qhT1_2, qhT1_3, qhT1_4, qhT1_5, qhT1_6, qhT1_7, qhT1_8, qhT1_9, qhT1_10, qhT1_11, qhT1_12, qhT1_13, qhT1_14⟩ := cells15 hT1
  obtain ⟨qt7_0, qt7_1, qt7_2, qt7_3, qt7_4, qt7_5, qt7_6, qt7_7⟩ := cells8 t7
  obtain ⟨qt9_0, qt9_1, qt9_2, qt9_3, qt9_4, qt9_5, qt9_6, qt9_7⟩ := cells8 t9
  go_wp2_with fail
  refine (H45.out _).mono ?_
  rintro e w23 ⟨_, rfl, ⟨AD, CD, rfl, _⟩, hb⟩
  clear qhT0_0 qhT0_1 qhT0_2 qhT0_3 qhT0_4 qhT0_5 qhT0_6 qhT0_7 qhT0_8 qhT1_0 qhT1_1 qhT1_2 qhT1_3 qhT1_4 qhT1_5 qhT1_6 qhT1_7 qhT1_8 qhT1_9 qhT1_10 qhT1_11 qhT1_12 qhT1_13 qhT1_14 qt7_0 qt7_1 qt7_2 qt7_3 qt7_4 qt7_5 qt7_6 qt7_7 qt9_0 qt9_1 qt9_2 qt9_3 qt9_4 qt9_5 qt9_6 qt9_7
  have hS := hb
  have hB23 := hB22.call hS rfl
  replace hT0 := blkb hT0 hS
  replace hT1 := blkb hT1 hS
  replace H := H.below hS
  replace HG := HG.below hS
  replace HA := HA.below hS
  replace HS := HS.below hS
  replace HT := HT.below hS
  replace t7 := blkb t7 hS
  replace t9 := blkb t9 hS
  clear hS hB22
  obtain ⟨qhT0_0, qhT0_1, qhT0_2, qhT0_3, qhT0_4, qhT0_5, qhT0_6, qhT0_7, qhT0_8⟩ := cells9 hT0
  obtain ⟨qhT1_0, qhT1_1, qhT1_2, qhT1_3, qhT1_4, qhT1_5, qhT1_6, qhT1_7, qhT1_8, qhT1_9, qhT1_10, qhT1_11, qhT1_12, qhT1_13, qhT1_14⟩ := cells15 hT1
  obtain ⟨qt7_0, qt7_1, qt7_2, qt7_3, qt7_4, qt7_5, qt7_6, qt7_7⟩ := cells8 t7
  obtain ⟨qt9_0, qt9_1, qt9_2, qt9_3, qt9_4, qt9_5, qt9_6, qt9_7⟩ := cells8 t9
  clear hb
  go_wp2_with fail
  refine (H53.out _ HL.out H).mono ?_
  rintro e w24 ⟨x, rfl, ho, hb⟩
  clear qhT0_0 qhT0_1 qhT0_2 qhT0_3 qhT0_4 qhT0_5 qhT0_6 qhT0_7 qhT0_8 qhT1_0 qhT1_1 qhT1_2 qhT1_3 qhT1_4 qhT1_5 qhT1_6 qhT1_7 qhT1_8 qhT1_9 qhT1_10 qhT1_11 qhT1_12 qhT1_13 qhT1_14 qt7_0 qt7_1 qt7_2 qt7_3 qt7_4 qt7_5 qt7_6 qt7_7 qt9_0 qt9_1 qt9_2 qt9_3 qt9_4 qt9_5 qt9_6 qt9_7
  have hS := hb
  have hB24 := hB23.call hS rfl
  replace hT0 := blkb hT0 hS
  replace hT1 := blkb hT1 hS
  replace H := H.below hS
  replace HG := HG.below hS
  replace HA := HA.below hS
  replace HS := HS.below hS
  replace HT := HT.below hS
  replace t7 := blkb t7 hS
  replace t9 := blkb t9 hS
  clear hS hB23
  obtain ⟨qhT0_0, qhT0_1, qhT0_2, qhT0_3, qhT0_4, qhT0_5, qhT0_6, qhT0_7, qhT0_8⟩ := cells9 hT0
  obtain ⟨qhT1_0, qhT1_1, qhT1_2, qhT1_3, qhT1_4, qhT1_5, qhT1_6, qhT1_7, qhT1_8, qhT1_9, qhT1_10, qhT1_11, qhT1_12, qhT1_13, qhT1_14⟩ := cells15 hT1
  obtain ⟨qt7_0, qt7_1, qt7_2, qt7_3, qt7_4, qt7_5, qt7_6, qt7_7⟩ := cells8 t7
  obtain ⟨qt9_0, qt9_1, qt9_2, qt9_3, qt9_4, qt9_5, qt9_6, qt9_7⟩ := cells8 t9
  clear hb
  obtain ⟨AE, CE, rfl, he, _, _, _⟩ := own_form ho
  clear ho
  go_wp2_with fail
  refine (H52.out _ AE CE HL.out HSZ.out he).mono ?_
  rintro e w25 ⟨_, rfl, ⟨AM, CM, rfl, hm⟩, hb⟩
  clear qhT0_0 qhT0_1 qhT0_2 qhT0_3 qhT0_4 qhT0_5 qhT0_6 qhT0_7 qhT0_8 qhT1_0 qhT1_1 qhT1_2 qhT1_3 qhT1_4 qhT1_5 qhT1_6 qhT1_7 qhT1_8 qhT1_9 qhT1_10 qhT1_11 qhT1_12 qhT1_13 qhT1_14 qt7_0 qt7_1 qt7_2 qt7_3 qt7_4 qt7_5 qt7_6 qt7_7 qt9_0 qt9_1 qt9_2 qt9_3 qt9_4 qt9_5 qt9_6 qt9_7
  have hS := hb
  have hB25 := hB24.call hS rfl
  replace hT0 := blkb hT0 hS
  replace hT1 := blkb hT1 hS
  replace H := H.below hS
  replace HG := HG.below hS
  replace HA := HA.below hS
  replace HS := HS.below hS
  replace HT := HT.below hS
  replace t7 := blkb t7 hS
  replace t9 := blkb t9 hS
  replace he := he.below hS
  clear hS hB24
  obtain ⟨qhT0_0, qhT0_1, qhT0_2, qhT0_3, qhT0_4, qhT0_5, qhT0_6, qhT0_7, qhT0_8⟩ := cells9 hT0
  obtain ⟨qhT1_0, qhT1_1, qhT1_2, qhT1_3, qhT1_4, qhT1_5, qhT1_6, qhT1_7, qhT1_8, qhT1_9, qhT1_10, qhT1_11, qhT1_12, qhT1_13, qhT1_14⟩ := cells15 hT1
  obtain ⟨qt7_0, qt7_1, qt7_2, qt7_3, qt7_4, qt7_5, qt7_6, qt7_7⟩ := cells8 t7
  obtain ⟨qt9_0, qt9_1, qt9_2, qt9_3, qt9_4, qt9_5, qt9_6, qt9_7⟩ := cells8 t9
  clear hb
  clear he
  have HMN : Hid (MN ≤ 1000000) := Lib.hid (by have h1 := HL.out; have h2 := HML.out; omega)
  go_wp2_with fail
  refine (H44.out _ AM CM HMN.out hm).mono ?_
  rintro e w26 ⟨_, rfl, ⟨AK, CK, rfl, hk⟩, hb⟩
  clear qhT0_0 qhT0_1 qhT0_2 qhT0_3 qhT0_4 qhT0_5 qhT0_6 qhT0_7 qhT0_8 qhT1_0 qhT1_1 qhT1_2 qhT1_3 qhT1_4 qhT1_5 qhT1_6 qhT1_7 qhT1_8 qhT1_9 qhT1_10 qhT1_11 qhT1_12 qhT1_13 qhT1_14 qt7_0 qt7_1 qt7_2 qt7_3 qt7_4 qt7_5 qt7_6 qt7_7 qt9_0 qt9_1 qt9_2 qt9_3 qt9_4 qt9_5 qt9_6 qt9_7
  have hS := hb
  have hB26 := hB25.call hS rfl
  replace hT0 := blkb hT0 hS
  replace hT1 := blkb hT1 hS
  replace H := H.below hS
  replace HG := HG.below hS
  replace HA := HA.below hS
  replace HS := HS.below hS
  replace HT := HT.below hS
  replace t7 := blkb t7 hS
  replace t9 := blkb t9 hS
  replace hm := hm.below hS
  clear hS hB25
  obtain ⟨qhT0_0, qhT0_1, qhT0_2, qhT0_3, qhT0_4, qhT0_5, qhT0_6, qhT0_7, qhT0_8⟩ := cells9 hT0
  obtain ⟨qhT1_0, qhT1_1, qhT1_2, qhT1_3, qhT1_4, qhT1_5, qhT1_6, qhT1_7, qhT1_8, qhT1_9, qhT1_10, qhT1_11, qhT1_12, qhT1_13, qhT1_14⟩ := cells15 hT1
  obtain ⟨qt7_0, qt7_1, qt7_2, qt7_3, qt7_4, qt7_5, qt7_6, qt7_7⟩ := cells8 t7
  obtain ⟨qt9_0, qt9_1, qt9_2, qt9_3, qt9_4, qt9_5, qt9_6, qt9_7⟩ := cells8 t9
  clear hb
  go_wp2_with fail
  refine (H56.out _ AK CK HMN.out hk).mono ?_
  rintro e w27 ⟨rfl, hb⟩
  clear qhT0_0 qhT0_1 qhT0_2 qhT0_3 qhT0_4 qhT0_5 qhT0_6 qhT0_7 qhT0_8 qhT1_0 qhT1_1 qhT1_2 qhT1_3 qhT1_4 qhT1_5 qhT1_6 qhT1_7 qhT1_8 qhT1_9 qhT1_10 qhT1_11 qhT1_12 qhT1_13 qhT1_14 qt7_0 qt7_1 qt7_2 qt7_3 qt7_4 qt7_5 qt7_6 qt7_7 qt9_0 qt9_1 qt9_2 qt9_3 qt9_4 qt9_5 qt9_6 qt9_7
  have hS := hb
  have hB27 := hB26.call hS rfl
  replace hT0 := blkb hT0 hS
  replace hT1 := blkb hT1 hS
  replace H := H.below hS
  replace HG := HG.below hS
  replace HA := HA.below hS
  replace HS := HS.below hS
  replace HT := HT.below hS
  replace t7 := blkb t7 hS
  replace t9 := blkb t9 hS
  replace hm := hm.below hS
  replace hk := hk.below hS
  clear hS hB26
  obtain ⟨qhT0_0, qhT0_1, qhT0_2, qhT0_3, qhT0_4, qhT0_5, qhT0_6, qhT0_7, qhT0_8⟩ := cells9 hT0
  obtain ⟨qhT1_0, qhT1_1, qhT1_2, qhT1_3, qhT1_4, qhT1_5, qhT1_6, qhT1_7, qhT1_8, qhT1_9, qhT1_10, qhT1_11, qhT1_12, qhT1_13, qhT1_14⟩ := cells15 hT1
  obtain ⟨qt7_0, qt7_1, qt7_2, qt7_3, qt7_4, qt7_5, qt7_6, qt7_7⟩ := cells8 t7
  obtain ⟨qt9_0, qt9_1, qt9_2, qt9_3, qt9_4, qt9_5, qt9_6, qt9_7⟩ := cells8 t9
  clear hb
  clear hk
  have hmlt : ¬ (N : Int) < (MN : Int) := by have := HML.out; omega
  go_wp2
  clear hmlt
  refine wp_region_planF (Φ := Fresh w27.heap.size #[.int .i64 0, .int .i64 0, .int .i64 0, .int .i64 0, .int .i64 0, .int .i64 0, .int .i64 0, .int .i64 0] 91) [(0, 1), (1, 1), (4, 1), (5, 1), (2, 0), (3, 0), (6, 0), (7, 0), (8, 1), (9, 1), (10, 1), (11, 2), (12, 3), (13, 1)] 11 w27.heap.size _ rfl (by kernel_rfl) (by kernel_rfl) (Nat.le_refl _) (fun _ _ d _ _ h => by cases d <;> exact h) (fun _ _ d _ _ h => by cases d <;> exact h) (fun v w w' hv hb => hv.below hb) ?hF ?_
  case hF =>
    intro a wq hq
    refine ⟨rfl, ?_⟩
    have hsz := hq.size
    go_simp
    exact ⟨_, rfl, ⟨_, rfl, hsz, heap_new rfl⟩, (Below.refl _ _).alloc (Nat.le_refl _) _⟩
  have hC : Below w27.heap.size w27 w27 := Below.refl _ _
  have hBr := hB27
  have zhT0 : w.heap.size < w27.heap.size := (Array.getElem?_eq_some_iff.1 hT0).1
  have zhT1 : w.heap.size + 1 < w27.heap.size := (Array.getElem?_eq_some_iff.1 hT1).1
  have zt7 : bt7 < w27.heap.size := (Array.getElem?_eq_some_iff.1 t7).1
  have zt9 : bt9 < w27.heap.size := (Array.getElem?_eq_some_iff.1 t9).1
  have hT00 := hT0
  have hT10 := hT1
  have H0 := H
  have HG0 := HG
  have HA0 := HA
  have HS0 := HS
  have HT0 := HT
  have t70 := t7
  have t90 := t9
  have hm0 := hm
  repeat (first | (refine wpPlanFA_skip _ rfl (by rfl) ?_; simp only [Act.put, List.setIfInBounds_toArray, List.set_cons_zero, List.set_cons_succ]) | (refine wpPlanFA_soft _ ?_ rfl (by rfl) ?_ ?_; rotate_left; (intro wq hq hcq; go_simp; first | exact rfl | exact ⟨rfl, rfl⟩); simp only [Act.put, List.setIfInBounds_toArray, List.set_cons_zero, List.set_cons_succ]))
  refine wpPlanFA_hard _ rfl (by rfl) (fun w28 hS K hK => ?_)
  have hB28 := hB27.call hS rfl
  replace hC := hC.call hS rfl
  replace hT0 := blkb hT0 hS
  replace hT1 := blkb hT1 hS
  replace H := H.below hS
  replace HG := HG.below hS
  replace HA := HA.below hS
  replace HS := HS.below hS
  replace HT := HT.below hS
  replace t7 := blkb t7 hS
  replace t9 := blkb t9 hS
  replace hm := hm.below hS
  clear hS hB27
  go_simp
  refine (H44.out _ AM CM HMN.out hm).mono ?_
  rintro e w29 ⟨_, rfl, ⟨AK, CK, rfl, hk⟩, hb⟩
  have hB29 := hB28.call hb rfl
  replace hC := hC.call hb rfl
  replace hT0 := blkb hT0 hb
  replace hT1 := blkb hT1 hb
  replace H := H.below hb
  replace HG := HG.below hb
  replace HA := HA.below hb
  replace HS := HS.below hb
  replace HT := HT.below hb
  replace t7 := blkb t7 hb
  replace t9 := blkb t9 hb
  replace hm := hm.below hb
  refine hK _ _ hC hb ?_
  clear hK K hb hB28
  try simp only [Act.put, List.setIfInBounds_toArray, List.set_cons_zero, List.set_cons_succ]
  refine wpPlanFA_hard _ rfl (by rfl) (fun w30 hS K hK => ?_)
  have hB30 := hB29.call hS rfl
  replace hC := hC.call hS rfl
  replace hT0 := blkb hT0 hS
  replace hT1 := blkb hT1 hS
  replace H := H.below hS
  replace HG := HG.below hS
  replace HA := HA.below hS
  replace HS := HS.below hS
  replace HT := HT.below hS
  replace t7 := blkb t7 hS
  replace t9 := blkb t9 hS
  replace hm := hm.below hS
  replace hk := hk.below hS
  clear hS hB29
  go_simp
  refine (H53m.out _ AK CK HMN.out hk).mono ?_
  rintro e w31 ⟨x, rfl, ho, hb⟩
  have hB31 := hB30.call hb rfl
  replace hC := hC.call hb rfl
  replace hT0 := blkb hT0 hb
  replace hT1 := blkb hT1 hb
  replace H := H.below hb
  replace HG := HG.below hb
  replace HA := HA.below hb
  replace HS := HS.below hb
  replace HT := HT.below hb
  replace t7 := blkb t7 hb
  replace t9 := blkb t9 hb
  replace hm := hm.below hb
  replace hk := hk.below hb
  obtain ⟨AE, CE, rfl, he, _, _, _⟩ := own_form ho
  clear ho
  refine hK _ _ hC hb ?_
  clear hK K hb hB30
  try simp only [Act.put, List.setIfInBounds_toArray, List.set_cons_zero, List.set_cons_succ]
  refine wpPlanFA_hard _ rfl (by rfl) (fun w32 hS K hK => ?_)
  have hB32 := hB31.call hS rfl
  replace hC := hC.call hS rfl
  replace hT0 := blkb hT0 hS
  replace hT1 := blkb hT1 hS
  replace H := H.below hS
  replace HG := HG.below hS
  replace HA := HA.below hS
  replace HS := HS.below hS
  replace HT := HT.below hS
  replace t7 := blkb t7 hS
  replace t9 := blkb t9 hS
  replace hm := hm.below hS
  replace hk := hk.below hS
  replace he := he.below hS
  clear hS hB31
  go_simp
  refine (H67.out _ HM.out HG).mono ?_
  rintro e w33 ⟨x, rfl, ho, hb⟩
  have hB33 := hB32.call hb rfl
  replace hC := hC.call hb rfl
  replace hT0 := blkb hT0 hb
  replace hT1 := blkb hT1 hb
  replace H := H.below hb
  replace HG := HG.below hb
  replace HA := HA.below hb
  replace HS := HS.below hb
  replace HT := HT.below hb
  replace t7 := blkb t7 hb
  replace t9 := blkb t9 hb
  replace hm := hm.below hb
  replace hk := hk.below hb
  replace he := he.below hb
  obtain ⟨AR, CR, rfl, hr, hr1, hr2, hr3⟩ := own_form ho
  have HR1 := Lib.hid hr1
  have HR2 := Lib.hid hr2
  clear ho hr1 hr2 hr3
  refine hK _ _ hC hb ?_
  clear hK K hb hB32
  try simp only [Act.put, List.setIfInBounds_toArray, List.set_cons_zero, List.set_cons_succ]
  refine wpPlanFA_hard _ rfl (by rfl) (fun w34 hS K hK => ?_)
  have hB34 := hB33.call hS rfl
  replace hC := hC.call hS rfl
  replace hT0 := blkb hT0 hS
  replace hT1 := blkb hT1 hS
  replace H := H.below hS
  replace HG := HG.below hS
  replace HA := HA.below hS
  replace HS := HS.below hS
  replace HT := HT.below hS
  replace t7 := blkb t7 hS
  replace t9 := blkb t9 hS
  replace hm := hm.below hS
  replace hk := hk.below hS
  replace he := he.below hS
  replace hr := hr.below hS
  clear hS hB33
  go_simp
  refine (H66m.out _ AE CE AR CR HMN.out HM.out HR1.out HR2.out HMS.out HRZ.out he hr).mono ?_
  rintro e w35 ⟨rfl, hb⟩
  have hB35 := hB34.call hb rfl
  replace hC := hC.call hb rfl
  replace hT0 := blkb hT0 hb
  replace hT1 := blkb hT1 hb
  replace H := H.below hb
  replace HG := HG.below hb
  replace HA := HA.below hb
  replace HS := HS.below hb
  replace HT := HT.below hb
  replace t7 := blkb t7 hb
  replace t9 := blkb t9 hb
  replace hm := hm.below hb
  replace hk := hk.below hb
  replace he := he.below hb
  replace hr := hr.below hb
  refine hK _ _ hC hb ?_
  clear hK K hb hB34
  try simp only [Act.put, List.setIfInBounds_toArray, List.set_cons_zero, List.set_cons_succ]
  repeat (first | (refine wpPlanFA_skip _ rfl (by rfl) ?_; simp only [Act.put, List.setIfInBounds_toArray, List.set_cons_zero, List.set_cons_succ]) | (refine wpPlanFA_soft _ ?_ rfl (by rfl) ?_ ?_; rotate_left; (intro wq hq hcq; go_simp; first | exact rfl | exact ⟨rfl, rfl⟩); simp only [Act.put, List.setIfInBounds_toArray, List.set_cons_zero, List.set_cons_succ]))
  refine wpPlanFA_float _ rfl (fun v w36 hS hv => ?_)
  obtain ⟨bt15, rfl, hge, t15⟩ := hv
  have hB36 := hB35.call hS rfl
  replace hC := hC.call hS rfl
  replace hT0 := blkb hT0 hS
  replace hT1 := blkb hT1 hS
  replace H := H.below hS
  replace HG := HG.below hS
  replace HA := HA.below hS
  replace HS := HS.below hS
  replace HT := HT.below hS
  replace t7 := blkb t7 hS
  replace t9 := blkb t9 hS
  replace hm := hm.below hS
  replace hk := hk.below hS
  replace he := he.below hS
  replace hr := hr.below hS
  clear hS hB35
  try simp only [Act.put, List.setIfInBounds_toArray, List.set_cons_zero, List.set_cons_succ]
  repeat (first | (refine wpPlanFA_skip _ rfl (by rfl) ?_; simp only [Act.put, List.setIfInBounds_toArray, List.set_cons_zero, List.set_cons_succ]) | (refine wpPlanFA_soft _ ?_ rfl (by rfl) ?_ ?_; rotate_left; (intro wq hq hcq; go_simp; first | exact rfl | exact ⟨rfl, rfl⟩); simp only [Act.put, List.setIfInBounds_toArray, List.set_cons_zero, List.set_cons_succ]))
  refine wpPlanFA_late _ rfl (by rfl) (fun w37 hS K hK => ?_)
  replace hC := hC.call hS rfl
  replace t15 := blkb t15 hS
  clear hS hB36 hT0 hT1 H HG HA HS HT t7 t9 hm hk he hr
  refine wp_store_blk 91 _ _ rfl bt15 _ rfl rfl t15 ?s1 ?s2 ?s3 ?_
  case s1 => rfl
  case s2 => kernel_rfl
  case s3 => simp [Value.oneCell']
  intro w38 t15n hg3 hs3
  replace hC : Below w27.heap.size w27 w38 := hC.grown hg3 hC.size (fun j hj => by cases hj; exact hge)
  refine hK _ _ hC ?_
  clear hK K t15 hg3 hs3
  have t15 := t15n
  clear t15n
  have hB38 := hBr.call hC rfl
  have hT0 := blkb hT00 hC
  have hT1 := blkb hT10 hC
  have H := H0.below hC
  have HG := HG0.below hC
  have HA := HA0.below hC
  have HS := HS0.below hC
  have HT := HT0.below hC
  have t7 := blkb t70 hC
  have t9 := blkb t90 hC
  have hm := hm0.below hC
  try simp only [Act.put, List.setIfInBounds_toArray, List.set_cons_zero, List.set_cons_succ]
  repeat (first | (refine wpPlanFA_skip _ rfl (by rfl) ?_; simp only [Act.put, List.setIfInBounds_toArray, List.set_cons_zero, List.set_cons_succ]) | (refine wpPlanFA_soft _ ?_ rfl (by rfl) ?_ ?_; rotate_left; (intro wq hq hcq; go_simp; first | exact rfl | exact ⟨rfl, rfl⟩); simp only [Act.put, List.setIfInBounds_toArray, List.set_cons_zero, List.set_cons_succ]))
  clear qhT0_0 qhT0_1 qhT0_2 qhT0_3 qhT0_4 qhT0_5 qhT0_6 qhT0_7 qhT0_8 qhT1_0 qhT1_1 qhT1_2 qhT1_3 qhT1_4 qhT1_5 qhT1_6 qhT1_7 qhT1_8 qhT1_9 qhT1_10 qhT1_11 qhT1_12 qhT1_13 qhT1_14 qt7_0 qt7_1 qt7_2 qt7_3 qt7_4 qt7_5 qt7_6 qt7_7 qt9_0 qt9_1 qt9_2 qt9_3 qt9_4 qt9_5 qt9_6 qt9_7
  refine wpPlanFA_nil (fun w39 hS => ?_)
  clear hC hge hBr zhT0 zhT1 zt7 zt9 hT00 hT10 H0 HG0 HA0 HS0 HT0 t70 t90 hm0
  have hB39 := hB38.call hS rfl
  replace hT0 := blkb hT0 hS
  replace hT1 := blkb hT1 hS
  replace H := H.below hS
  replace HG := HG.below hS
  replace HA := HA.below hS
  replace HS := HS.below hS
  replace HT := HT.below hS
  replace t7 := blkb t7 hS
  replace t9 := blkb t9 hS
  replace hm := hm.below hS
  replace t15 := blkb t15 hS
  clear hS hB38
  obtain ⟨qhT0_0, qhT0_1, qhT0_2, qhT0_3, qhT0_4, qhT0_5, qhT0_6, qhT0_7, qhT0_8⟩ := cells9 hT0
  obtain ⟨qhT1_0, qhT1_1, qhT1_2, qhT1_3, qhT1_4, qhT1_5, qhT1_6, qhT1_7, qhT1_8, qhT1_9, qhT1_10, qhT1_11, qhT1_12, qhT1_13, qhT1_14⟩ := cells15 hT1
  obtain ⟨qt7_0, qt7_1, qt7_2, qt7_3, qt7_4, qt7_5, qt7_6, qt7_7⟩ := cells8 t7
  obtain ⟨qt9_0, qt9_1, qt9_2, qt9_3, qt9_4, qt9_5, qt9_6, qt9_7⟩ := cells8 t9
  clear HR1 HR2
  clear qhT0_0 qhT0_1 qhT0_2 qhT0_3 qhT0_4 qhT0_5 qhT0_6 qhT0_7 qhT0_8 qhT1_0 qhT1_1 qhT1_2 qhT1_3 qhT1_4 qhT1_5 qhT1_6 qhT1_7 qhT1_8 qhT1_9 qhT1_10 qhT1_11 qhT1_12 qhT1_13 qhT1_14 qt7_0 qt7_1 qt7_2 qt7_3 qt7_4 qt7_5 qt7_6 qt7_7 qt9_0 qt9_1 qt9_2 qt9_3 qt9_4 qt9_5 qt9_6 qt9_7
  obtain ⟨qhT0_0, qhT0_1, qhT0_2, qhT0_3, qhT0_4, qhT0_5, qhT0_6, qhT0_7, qhT0_8⟩ := cells9 hT0
  obtain ⟨qhT1_0, qhT1_1, qhT1_2, qhT1_3, qhT1_4, qhT1_5, qhT1_6, qhT1_7, qhT1_8, qhT1_9, qhT1_10, qhT1_11, qhT1_12, qhT1_13, qhT1_14⟩ := cells15 hT1
  obtain ⟨qt7_0, qt7_1, qt7_2, qt7_3, qt7_4, qt7_5, qt7_6, qt7_7⟩ := cells8 t7
  obtain ⟨qt9_0, qt9_1, qt9_2, qt9_3, qt9_4, qt9_5, qt9_6, qt9_7⟩ := cells8 t9
  obtain ⟨qt15_0, qt15_1, qt15_2, qt15_3, qt15_4, qt15_5, qt15_6, qt15_7⟩ := cells8 t15
  go_wp2_with fail
  refine (H53.out _ HL.out H).mono ?_
  rintro e w40 ⟨x, rfl, ho, hb⟩
  clear qhT0_0 qhT0_1 qhT0_2 qhT0_3 qhT0_4 qhT0_5 qhT0_6 qhT0_7 qhT0_8 qhT1_0 qhT1_1 qhT1_2 qhT1_3 qhT1_4 qhT1_5 qhT1_6 qhT1_7 qhT1_8 qhT1_9 qhT1_10 qhT1_11 qhT1_12 qhT1_13 qhT1_14 qt7_0 qt7_1 qt7_2 qt7_3 qt7_4 qt7_5 qt7_6 qt7_7 qt9_0 qt9_1 qt9_2 qt9_3 qt9_4 qt9_5 qt9_6 qt9_7 qt15_0 qt15_1 qt15_2 qt15_3 qt15_4 qt15_5 qt15_6 qt15_7
  have hS := hb
  have hB40 := hB39.call hS rfl
  replace hT0 := blkb hT0 hS
  replace hT1 := blkb hT1 hS
  replace H := H.below hS
  replace HG := HG.below hS
  replace HA := HA.below hS
  replace HS := HS.below hS
  replace HT := HT.below hS
  replace t7 := blkb t7 hS
  replace t9 := blkb t9 hS
  replace hm := hm.below hS
  replace t15 := blkb t15 hS
  clear hS hB39
  obtain ⟨qhT0_0, qhT0_1, qhT0_2, qhT0_3, qhT0_4, qhT0_5, qhT0_6, qhT0_7, qhT0_8⟩ := cells9 hT0
  obtain ⟨qhT1_0, qhT1_1, qhT1_2, qhT1_3, qhT1_4, qhT1_5, qhT1_6, qhT1_7, qhT1_8, qhT1_9, qhT1_10, qhT1_11, qhT1_12, qhT1_13, qhT1_14⟩ := cells15 hT1
  obtain ⟨qt7_0, qt7_1, qt7_2, qt7_3, qt7_4, qt7_5, qt7_6, qt7_7⟩ := cells8 t7
  obtain ⟨qt9_0, qt9_1, qt9_2, qt9_3, qt9_4, qt9_5, qt9_6, qt9_7⟩ := cells8 t9
  obtain ⟨qt15_0, qt15_1, qt15_2, qt15_3, qt15_4, qt15_5, qt15_6, qt15_7⟩ := cells8 t15
  clear hb
  obtain ⟨AE, CE, rfl, he, _, _, _⟩ := own_form ho
  clear ho
  go_wp2_with fail
  refine (H54.out _ AE CE HL.out HSZ.out he).mono ?_
  rintro e w41 ⟨rfl, hb⟩
  clear qhT0_0 qhT0_1 qhT0_2 qhT0_3 qhT0_4 qhT0_5 qhT0_6 qhT0_7 qhT0_8 qhT1_0 qhT1_1 qhT1_2 qhT1_3 qhT1_4 qhT1_5 qhT1_6 qhT1_7 qhT1_8 qhT1_9 qhT1_10 qhT1_11 qhT1_12 qhT1_13 qhT1_14 qt7_0 qt7_1 qt7_2 qt7_3 qt7_4 qt7_5 qt7_6 qt7_7 qt9_0 qt9_1 qt9_2 qt9_3 qt9_4 qt9_5 qt9_6 qt9_7 qt15_0 qt15_1 qt15_2 qt15_3 qt15_4 qt15_5 qt15_6 qt15_7
  have hS := hb
  have hB41 := hB40.call hS rfl
  replace hT0 := blkb hT0 hS
  replace hT1 := blkb hT1 hS
  replace H := H.below hS
  replace HG := HG.below hS
  replace HA := HA.below hS
  replace HS := HS.below hS
  replace HT := HT.below hS
  replace t7 := blkb t7 hS
  replace t9 := blkb t9 hS
  replace hm := hm.below hS
  replace t15 := blkb t15 hS
  replace he := he.below hS
  clear hS hB40
  obtain ⟨qhT0_0, qhT0_1, qhT0_2, qhT0_3, qhT0_4, qhT0_5, qhT0_6, qhT0_7, qhT0_8⟩ := cells9 hT0
  obtain ⟨qhT1_0, qhT1_1, qhT1_2, qhT1_3, qhT1_4, qhT1_5, qhT1_6, qhT1_7, qhT1_8, qhT1_9, qhT1_10, qhT1_11, qhT1_12, qhT1_13, qhT1_14⟩ := cells15 hT1
  obtain ⟨qt7_0, qt7_1, qt7_2, qt7_3, qt7_4, qt7_5, qt7_6, qt7_7⟩ := cells8 t7
  obtain ⟨qt9_0, qt9_1, qt9_2, qt9_3, qt9_4, qt9_5, qt9_6, qt9_7⟩ := cells8 t9
  obtain ⟨qt15_0, qt15_1, qt15_2, qt15_3, qt15_4, qt15_5, qt15_6, qt15_7⟩ := cells8 t15
  clear hb
  clear he
  have hz : (w41.alloc (Obj.cells #[.int .i64 0, .int .i64 0, .int .i64 0, .int .i64 0, .int .i64 0, .int .i64 0] 85)).heap[w41.heap.size]? = some (Obj.cells #[.int .i64 0, .int .i64 0, .int .i64 0, .int .i64 0, .int .i64 0, .int .i64 0] 85) := heap_new rfl
  go_wp2_with (refine wpList_store_blk rfl 85 _ _ rfl w41.heap.size _ rfl rfl hz ?s1 ?s2 ?s3 ?_)
  case s1 => rfl
  case s2 => kernel_rfl
  case s3 => simp [Value.oneCell']
  intro w42 t17 hg3 hs3
  clear qhT0_0 qhT0_1 qhT0_2 qhT0_3 qhT0_4 qhT0_5 qhT0_6 qhT0_7 qhT0_8 qhT1_0 qhT1_1 qhT1_2 qhT1_3 qhT1_4 qhT1_5 qhT1_6 qhT1_7 qhT1_8 qhT1_9 qhT1_10 qhT1_11 qhT1_12 qhT1_13 qhT1_14 qt7_0 qt7_1 qt7_2 qt7_3 qt7_4 qt7_5 qt7_6 qt7_7 qt9_0 qt9_1 qt9_2 qt9_3 qt9_4 qt9_5 qt9_6 qt9_7 qt15_0 qt15_1 qt15_2 qt15_3 qt15_4 qt15_5 qt15_6 qt15_7
  have hS := ((Below.refl _ _).alloc (Nat.le_refl _) _).grown hg3 (by simp) (fun j hj => by cases hj; exact Nat.le_refl _)
  have hB42 := hB41.call hS rfl
  replace hT0 := blkb hT0 hS
  replace hT1 := blkb hT1 hS
  replace H := H.below hS
  replace HG := HG.below hS
  replace HA := HA.below hS
  replace HS := HS.below hS
  replace HT := HT.below hS
  replace t7 := blkb t7 hS
  replace t9 := blkb t9 hS
  replace hm := hm.below hS
  replace t15 := blkb t15 hS
  clear hS hB41
  obtain ⟨qhT0_0, qhT0_1, qhT0_2, qhT0_3, qhT0_4, qhT0_5, qhT0_6, qhT0_7, qhT0_8⟩ := cells9 hT0
  obtain ⟨qhT1_0, qhT1_1, qhT1_2, qhT1_3, qhT1_4, qhT1_5, qhT1_6, qhT1_7, qhT1_8, qhT1_9, qhT1_10, qhT1_11, qhT1_12, qhT1_13, qhT1_14⟩ := cells15 hT1
  obtain ⟨qt7_0, qt7_1, qt7_2, qt7_3, qt7_4, qt7_5, qt7_6, qt7_7⟩ := cells8 t7
  obtain ⟨qt9_0, qt9_1, qt9_2, qt9_3, qt9_4, qt9_5, qt9_6, qt9_7⟩ := cells8 t9
  obtain ⟨qt15_0, qt15_1, qt15_2, qt15_3, qt15_4, qt15_5, qt15_6, qt15_7⟩ := cells8 t15
  clear hz hg3 hs3
  obtain ⟨bt17, hbt17⟩ : ∃ b, b = w41.heap.size := ⟨_, rfl⟩
  rw [← hbt17] at t17 ⊢
  clear hbt17
  clear qhT0_0 qhT0_1 qhT0_2 qhT0_3 qhT0_4 qhT0_5 qhT0_6 qhT0_7 qhT0_8 qhT1_0 qhT1_1 qhT1_2 qhT1_3 qhT1_4 qhT1_5 qhT1_6 qhT1_7 qhT1_8 qhT1_9 qhT1_10 qhT1_11 qhT1_12 qhT1_13 qhT1_14 qt7_0 qt7_1 qt7_2 qt7_3 qt7_4 qt7_5 qt7_6 qt7_7 qt9_0 qt9_1 qt9_2 qt9_3 qt9_4 qt9_5 qt9_6 qt9_7 qt15_0 qt15_1 qt15_2 qt15_3 qt15_4 qt15_5 qt15_6 qt15_7
  obtain ⟨qhT0_0, qhT0_1, qhT0_2, qhT0_3, qhT0_4, qhT0_5, qhT0_6, qhT0_7, qhT0_8⟩ := cells9 hT0
  obtain ⟨qhT1_0, qhT1_1, qhT1_2, qhT1_3, qhT1_4, qhT1_5, qhT1_6, qhT1_7, qhT1_8, qhT1_9, qhT1_10, qhT1_11, qhT1_12, qhT1_13, qhT1_14⟩ := cells15 hT1
  obtain ⟨qt7_0, qt7_1, qt7_2, qt7_3, qt7_4, qt7_5, qt7_6, qt7_7⟩ := cells8 t7
  obtain ⟨qt9_0, qt9_1, qt9_2, qt9_3, qt9_4, qt9_5, qt9_6, qt9_7⟩ := cells8 t9
  obtain ⟨qt15_0, qt15_1, qt15_2, qt15_3, qt15_4, qt15_5, qt15_6, qt15_7⟩ := cells8 t15
  obtain ⟨qt17_0, qt17_1, qt17_2, qt17_3, qt17_4, qt17_5⟩ := cells6 t17
  go_wp2_with fail
  refine (H44.out _ AM CM HMN.out hm).mono ?_
  rintro e w43 ⟨_, rfl, ⟨AK, CK, rfl, hk⟩, hb⟩
  clear qhT0_0 qhT0_1 qhT0_2 qhT0_3 qhT0_4 qhT0_5 qhT0_6 qhT0_7 qhT0_8 qhT1_0 qhT1_1 qhT1_2 qhT1_3 qhT1_4 qhT1_5 qhT1_6 qhT1_7 qhT1_8 qhT1_9 qhT1_10 qhT1_11 qhT1_12 qhT1_13 qhT1_14 qt7_0 qt7_1 qt7_2 qt7_3 qt7_4 qt7_5 qt7_6 qt7_7 qt9_0 qt9_1 qt9_2 qt9_3 qt9_4 qt9_5 qt9_6 qt9_7 qt15_0 qt15_1 qt15_2 qt15_3 qt15_4 qt15_5 qt15_6 qt15_7 qt17_0 qt17_1 qt17_2 qt17_3 qt17_4 qt17_5
  have hS := hb
  have hB43 := hB42.call hS rfl
  replace hT0 := blkb hT0 hS
  replace hT1 := blkb hT1 hS
  replace H := H.below hS
  replace HG := HG.below hS
  replace HA := HA.below hS
  replace HS := HS.below hS
  replace HT := HT.below hS
  replace t7 := blkb t7 hS
  replace t9 := blkb t9 hS
  replace hm := hm.below hS
  replace t15 := blkb t15 hS
  replace t17 := blkb t17 hS
  clear hS hB42
  obtain ⟨qhT0_0, qhT0_1, qhT0_2, qhT0_3, qhT0_4, qhT0_5, qhT0_6, qhT0_7, qhT0_8⟩ := cells9 hT0
  obtain ⟨qhT1_0, qhT1_1, qhT1_2, qhT1_3, qhT1_4, qhT1_5, qhT1_6, qhT1_7, qhT1_8, qhT1_9, qhT1_10, qhT1_11, qhT1_12, qhT1_13, qhT1_14⟩ := cells15 hT1
  obtain ⟨qt7_0, qt7_1, qt7_2, qt7_3, qt7_4, qt7_5, qt7_6, qt7_7⟩ := cells8 t7
  obtain ⟨qt9_0, qt9_1, qt9_2, qt9_3, qt9_4, qt9_5, qt9_6, qt9_7⟩ := cells8 t9
  obtain ⟨qt15_0, qt15_1, qt15_2, qt15_3, qt15_4, qt15_5, qt15_6, qt15_7⟩ := cells8 t15
  obtain ⟨qt17_0, qt17_1, qt17_2, qt17_3, qt17_4, qt17_5⟩ := cells6 t17
  clear hb
  go_wp2_with fail
  refine (H53m.out _ AK CK HMN.out hk).mono ?_
  rintro e w44 ⟨x, rfl, ho, hb⟩
  clear qhT0_0 qhT0_1 qhT0_2 qhT0_3 qhT0_4 qhT0_5 qhT0_6 qhT0_7 qhT0_8 qhT1_0 qhT1_1 qhT1_2 qhT1_3 qhT1_4 qhT1_5 qhT1_6 qhT1_7 qhT1_8 qhT1_9 qhT1_10 qhT1_11 qhT1_12 qhT1_13 qhT1_14 qt7_0 qt7_1 qt7_2 qt7_3 qt7_4 qt7_5 qt7_6 qt7_7 qt9_0 qt9_1 qt9_2 qt9_3 qt9_4 qt9_5 qt9_6 qt9_7 qt15_0 qt15_1 qt15_2 qt15_3 qt15_4 qt15_5 qt15_6 qt15_7 qt17_0 qt17_1 qt17_2 qt17_3 qt17_4 qt17_5
  have hS := hb
  have hB44 := hB43.call hS rfl
  replace hT0 := blkb hT0 hS
  replace hT1 := blkb hT1 hS
  replace H := H.below hS
  replace HG := HG.below hS
  replace HA := HA.below hS
  replace HS := HS.below hS
  replace HT := HT.below hS
  replace t7 := blkb t7 hS
  replace t9 := blkb t9 hS
  replace hm := hm.below hS
  replace t15 := blkb t15 hS
  replace t17 := blkb t17 hS
  replace hk := hk.below hS
  clear hS hB43
  obtain ⟨qhT0_0, qhT0_1, qhT0_2, qhT0_3, qhT0_4, qhT0_5, qhT0_6, qhT0_7, qhT0_8⟩ := cells9 hT0
  obtain ⟨qhT1_0, qhT1_1, qhT1_2, qhT1_3, qhT1_4, qhT1_5, qhT1_6, qhT1_7, qhT1_8, qhT1_9, qhT1_10, qhT1_11, qhT1_12, qhT1_13, qhT1_14⟩ := cells15 hT1
  obtain ⟨qt7_0, qt7_1, qt7_2, qt7_3, qt7_4, qt7_5, qt7_6, qt7_7⟩ := cells8 t7
  obtain ⟨qt9_0, qt9_1, qt9_2, qt9_3, qt9_4, qt9_5, qt9_6, qt9_7⟩ := cells8 t9
  obtain ⟨qt15_0, qt15_1, qt15_2, qt15_3, qt15_4, qt15_5, qt15_6, qt15_7⟩ := cells8 t15
  obtain ⟨qt17_0, qt17_1, qt17_2, qt17_3, qt17_4, qt17_5⟩ := cells6 t17
  clear hb
  clear hk
  obtain ⟨AE, CE, rfl, he, _, _, _⟩ := own_form ho
  clear ho
  go_wp2_with fail
  refine (H54m.out _ AE CE HMN.out he).mono ?_
  rintro e w45 ⟨rfl, hb⟩
  clear qhT0_0 qhT0_1 qhT0_2 qhT0_3 qhT0_4 qhT0_5 qhT0_6 qhT0_7 qhT0_8 qhT1_0 qhT1_1 qhT1_2 qhT1_3 qhT1_4 qhT1_5 qhT1_6 qhT1_7 qhT1_8 qhT1_9 qhT1_10 qhT1_11 qhT1_12 qhT1_13 qhT1_14 qt7_0 qt7_1 qt7_2 qt7_3 qt7_4 qt7_5 qt7_6 qt7_7 qt9_0 qt9_1 qt9_2 qt9_3 qt9_4 qt9_5 qt9_6 qt9_7 qt15_0 qt15_1 qt15_2 qt15_3 qt15_4 qt15_5 qt15_6 qt15_7 qt17_0 qt17_1 qt17_2 qt17_3 qt17_4 qt17_5
  have hS := hb
  have hB45 := hB44.call hS rfl
  replace hT0 := blkb hT0 hS
  replace hT1 := blkb hT1 hS
  replace H := H.below hS
  replace HG := HG.below hS
  replace HA := HA.below hS
  replace HS := HS.below hS
  replace HT := HT.below hS
  replace t7 := blkb t7 hS
  replace t9 := blkb t9 hS
  replace hm := hm.below hS
  replace t15 := blkb t15 hS
  replace t17 := blkb t17 hS
  replace he := he.below hS
  clear hS hB44
  obtain ⟨qhT0_0, qhT0_1, qhT0_2, qhT0_3, qhT0_4, qhT0_5, qhT0_6, qhT0_7, qhT0_8⟩ := cells9 hT0
  obtain ⟨qhT1_0, qhT1_1, qhT1_2, qhT1_3, qhT1_4, qhT1_5, qhT1_6, qhT1_7, qhT1_8, qhT1_9, qhT1_10, qhT1_11, qhT1_12, qhT1_13, qhT1_14⟩ := cells15 hT1
  obtain ⟨qt7_0, qt7_1, qt7_2, qt7_3, qt7_4, qt7_5, qt7_6, qt7_7⟩ := cells8 t7
  obtain ⟨qt9_0, qt9_1, qt9_2, qt9_3, qt9_4, qt9_5, qt9_6, qt9_7⟩ := cells8 t9
  obtain ⟨qt15_0, qt15_1, qt15_2, qt15_3, qt15_4, qt15_5, qt15_6, qt15_7⟩ := cells8 t15
  obtain ⟨qt17_0, qt17_1, qt17_2, qt17_3, qt17_4, qt17_5⟩ := cells6 t17
  clear hb
  clear he
  have hz : (w45.alloc (Obj.cells #[.int .i64 0, .int .i64 0, .int .i64 0, .int .i64 0, .int .i64 0, .int .i64 0] 85)).heap[w45.heap.size]? = some (Obj.cells #[.int .i64 0, .int .i64 0, .int .i64 0, .int .i64 0, .int .i64 0, .int .i64 0] 85) := heap_new rfl
  go_wp2_with (refine wpList_store_blk rfl 85 _ _ rfl w45.heap.size _ rfl rfl hz ?s1 ?s2 ?s3 ?_)
  case s1 => rfl
  case s2 => kernel_rfl
  case s3 => simp [Value.oneCell']
  intro w46 t19 hg3 hs3
  clear qhT0_0 qhT0_1 qhT0_2 qhT0_3 qhT0_4 qhT0_5 qhT0_6 qhT0_7 qhT0_8 qhT1_0 qhT1_1 qhT1_2 qhT1_3 qhT1_4 qhT1_5 qhT1_6 qhT1_7 qhT1_8 qhT1_9 qhT1_10 qhT1_11 qhT1_12 qhT1_13 qhT1_14 qt7_0 qt7_1 qt7_2 qt7_3 qt7_4 qt7_5 qt7_6 qt7_7 qt9_0 qt9_1 qt9_2 qt9_3 qt9_4 qt9_5 qt9_6 qt9_7 qt15_0 qt15_1 qt15_2 qt15_3 qt15_4 qt15_5 qt15_6 qt15_7 qt17_0 qt17_1 qt17_2 qt17_3 qt17_4 qt17_5
  have hS := ((Below.refl _ _).alloc (Nat.le_refl _) _).grown hg3 (by simp) (fun j hj => by cases hj; exact Nat.le_refl _)
  have hB46 := hB45.call hS rfl
  replace hT0 := blkb hT0 hS
  replace hT1 := blkb hT1 hS
  replace H := H.below hS
  replace HG := HG.below hS
  replace HA := HA.below hS
  replace HS := HS.below hS
  replace HT := HT.below hS
  replace t7 := blkb t7 hS
  replace t9 := blkb t9 hS
  replace hm := hm.below hS
  replace t15 := blkb t15 hS
  replace t17 := blkb t17 hS
  clear hS hB45
  obtain ⟨qhT0_0, qhT0_1, qhT0_2, qhT0_3, qhT0_4, qhT0_5, qhT0_6, qhT0_7, qhT0_8⟩ := cells9 hT0
  obtain ⟨qhT1_0, qhT1_1, qhT1_2, qhT1_3, qhT1_4, qhT1_5, qhT1_6, qhT1_7, qhT1_8, qhT1_9, qhT1_10, qhT1_11, qhT1_12, qhT1_13, qhT1_14⟩ := cells15 hT1
  obtain ⟨qt7_0, qt7_1, qt7_2, qt7_3, qt7_4, qt7_5, qt7_6, qt7_7⟩ := cells8 t7
  obtain ⟨qt9_0, qt9_1, qt9_2, qt9_3, qt9_4, qt9_5, qt9_6, qt9_7⟩ := cells8 t9
  obtain ⟨qt15_0, qt15_1, qt15_2, qt15_3, qt15_4, qt15_5, qt15_6, qt15_7⟩ := cells8 t15
  obtain ⟨qt17_0, qt17_1, qt17_2, qt17_3, qt17_4, qt17_5⟩ := cells6 t17
  clear hz hg3 hs3
  obtain ⟨bt19, hbt19⟩ : ∃ b, b = w45.heap.size := ⟨_, rfl⟩
  rw [← hbt19] at t19 ⊢
  clear hbt19
  clear qhT0_0 qhT0_1 qhT0_2 qhT0_3 qhT0_4 qhT0_5 qhT0_6 qhT0_7 qhT0_8 qhT1_0 qhT1_1 qhT1_2 qhT1_3 qhT1_4 qhT1_5 qhT1_6 qhT1_7 qhT1_8 qhT1_9 qhT1_10 qhT1_11 qhT1_12 qhT1_13 qhT1_14 qt7_0 qt7_1 qt7_2 qt7_3 qt7_4 qt7_5 qt7_6 qt7_7 qt9_0 qt9_1 qt9_2 qt9_3 qt9_4 qt9_5 qt9_6 qt9_7 qt15_0 qt15_1 qt15_2 qt15_3 qt15_4 qt15_5 qt15_6 qt15_7 qt17_0 qt17_1 qt17_2 qt17_3 qt17_4 qt17_5
  obtain ⟨qhT0_0, qhT0_1, qhT0_2, qhT0_3, qhT0_4, qhT0_5, qhT0_6, qhT0_7, qhT0_8⟩ := cells9 hT0
  obtain ⟨qhT1_0, qhT1_1, qhT1_2, qhT1_3, qhT1_4, qhT1_5, qhT1_6, qhT1_7, qhT1_8, qhT1_9, qhT1_10, qhT1_11, qhT1_12, qhT1_13, qhT1_14⟩ := cells15 hT1
  obtain ⟨qt7_0, qt7_1, qt7_2, qt7_3, qt7_4, qt7_5, qt7_6, qt7_7⟩ := cells8 t7
  obtain ⟨qt9_0, qt9_1, qt9_2, qt9_3, qt9_4, qt9_5, qt9_6, qt9_7⟩ := cells8 t9
  obtain ⟨qt15_0, qt15_1, qt15_2, qt15_3, qt15_4, qt15_5, qt15_6, qt15_7⟩ := cells8 t15
  obtain ⟨qt17_0, qt17_1, qt17_2, qt17_3, qt17_4, qt17_5⟩ := cells6 t17
  obtain ⟨qt19_0, qt19_1, qt19_2, qt19_3, qt19_4, qt19_5⟩ := cells6 t19
  clear hm
  go_wp2
  clear qhT0_0 qhT0_1 qhT0_2 qhT0_3 qhT0_4 qhT0_5 qhT0_6 qhT0_7 qhT0_8 qhT1_0 qhT1_1 qhT1_2 qhT1_3 qhT1_4 qhT1_5 qhT1_6 qhT1_7 qhT1_8 qhT1_9 qhT1_10 qhT1_11 qhT1_12 qhT1_13 qhT1_14 qt7_0 qt7_1 qt7_2 qt7_3 qt7_4 qt7_5 qt7_6 qt7_7 qt9_0 qt9_1 qt9_2 qt9_3 qt9_4 qt9_5 qt9_6 qt9_7 qt15_0 qt15_1 qt15_2 qt15_3 qt15_4 qt15_5 qt15_6 qt15_7 qt17_0 qt17_1 qt17_2 qt17_3 qt17_4 qt17_5 qt19_0 qt19_1 qt19_2 qt19_3 qt19_4 qt19_5
  clear t15 t19 t9
  go_loopw [21, 168] (fun x i wr => ∃ k : Nat, k ≤ 6 ∧ i = .int .i64 k ∧ x = .int .i64 (V.lines + Mo.psum V.c k) ∧ Below w46.heap.size w46 wr) (fun _ i _ => 6 - (intOf i).toNat)
  case atStart => exact ⟨0, by omega, rfl, by simp [Mo.psum], Below.refl _ _⟩
  case round =>
    obtain ⟨k, hk, rfl, rfl, hBk⟩ := hrel
    obtain ⟨w47, hww⟩ : ∃ W, W = wr := ⟨_, rfl⟩
    rw [← hww] at hBk ⊢
    clear hww
    have hB47 := hB46.call hBk rfl
    replace hT0 := blkb hT0 hBk
    replace hT1 := blkb hT1 hBk
    replace H := H.below hBk
    replace HG := HG.below hBk
    replace HA := HA.below hBk
    replace HS := HS.below hBk
    replace HT := HT.below hBk
    replace t7 := blkb t7 hBk
    replace t17 := blkb t17 hBk
    clear hB46
    by_cases hk6 : k < 6
    · as_aux_lemma =>
      have hix := fun W => idx85 V.c k hk6 W
      have hb2 := HBD.out (k + 1) (by omega)
      have hwr : IntKind.i64.wrap (V.lines + Mo.psum V.c k + V.c k) = V.lines + Mo.psum V.c (k + 1) := by
        have e : V.lines + Mo.psum V.c (k + 1) = V.lines + Mo.psum V.c k + V.c k := by
          show V.lines + (Mo.psum V.c k + V.c k) = _
          omega
        rw [e] at hb2 ⊢
        rw [IntKind.wrap_i64]
        omega
      clear hb2
      go_wp2
      go_roundw
      case rel => exact ⟨k + 1, by omega, by go_num, rfl, hBk⟩
      case measure => simp [intOf]; omega
    · as_aux_lemma =>
      obtain rfl : k = 6 := by omega
      have hne : (V.lines + Mo.psum V.c 6 != V.total) = false := by rw [HTOT.out]; simp
      clear hk6
      obtain ⟨qhT0_0, qhT0_1, qhT0_2, qhT0_3, qhT0_4, qhT0_5, qhT0_6, qhT0_7, qhT0_8⟩ := cells9 hT0
      obtain ⟨qhT1_0, qhT1_1, qhT1_2, qhT1_3, qhT1_4, qhT1_5, qhT1_6, qhT1_7, qhT1_8, qhT1_9, qhT1_10, qhT1_11, qhT1_12, qhT1_13, qhT1_14⟩ := cells15 hT1
      obtain ⟨qt7_0, qt7_1, qt7_2, qt7_3, qt7_4, qt7_5, qt7_6, qt7_7⟩ := cells8 t7
      obtain ⟨qt17_0, qt17_1, qt17_2, qt17_3, qt17_4, qt17_5⟩ := cells6 t17
      by_cases hfr : c.free < q 2
      · as_aux_lemma =>
        by_cases hf1 : c.free < 100000
        rotate_left
        · as_aux_lemma =>
          have hfd : decide (c.free < 100000) = false := decide_eq_false hf1
          go_wp2_with fail
          refine (H14.out _ SA SN scap).mono ?_
          rintro e w48 ⟨⟨b, rfl, hb1⟩, hb⟩
          clear qhT0_0 qhT0_1 qhT0_2 qhT0_3 qhT0_4 qhT0_5 qhT0_6 qhT0_7 qhT0_8 qhT1_0 qhT1_1 qhT1_2 qhT1_3 qhT1_4 qhT1_5 qhT1_6 qhT1_7 qhT1_8 qhT1_9 qhT1_10 qhT1_11 qhT1_12 qhT1_13 qhT1_14 qt7_0 qt7_1 qt7_2 qt7_3 qt7_4 qt7_5 qt7_6 qt7_7 qt17_0 qt17_1 qt17_2 qt17_3 qt17_4 qt17_5
          have hS := hb
          have hB48 := hB47.call hS rfl
          replace hT0 := blkb hT0 hS
          replace hT1 := blkb hT1 hS
          replace H := H.below hS
          replace HG := HG.below hS
          replace HA := HA.below hS
          replace HS := HS.below hS
          replace HT := HT.below hS
          replace t7 := blkb t7 hS
          replace t17 := blkb t17 hS
          clear hS hB47
          obtain ⟨qhT0_0, qhT0_1, qhT0_2, qhT0_3, qhT0_4, qhT0_5, qhT0_6, qhT0_7, qhT0_8⟩ := cells9 hT0
          obtain ⟨qhT1_0, qhT1_1, qhT1_2, qhT1_3, qhT1_4, qhT1_5, qhT1_6, qhT1_7, qhT1_8, qhT1_9, qhT1_10, qhT1_11, qhT1_12, qhT1_13, qhT1_14⟩ := cells15 hT1
          obtain ⟨qt7_0, qt7_1, qt7_2, qt7_3, qt7_4, qt7_5, qt7_6, qt7_7⟩ := cells8 t7
          obtain ⟨qt17_0, qt17_1, qt17_2, qt17_3, qt17_4, qt17_5⟩ := cells6 t17
          clear hb
          cases b
          case false =>
           go_wp2_with fail
           refine (c15 _).mono ?_
           rintro e wz ⟨rfl, hz⟩
           go_wp2
           go_ret
           exact ⟨rfl, hB48.call hz rfl⟩
          have hsn := hb1 rfl
          clear hb1
          go_wp2_with fail
          refine (H20.out _ (by omega) HA).mono ?_
          rintro e w49 ⟨rfl, hb⟩
          clear qhT0_0 qhT0_1 qhT0_2 qhT0_3 qhT0_4 qhT0_5 qhT0_6 qhT0_7 qhT0_8 qhT1_0 qhT1_1 qhT1_2 qhT1_3 qhT1_4 qhT1_5 qhT1_6 qhT1_7 qhT1_8 qhT1_9 qhT1_10 qhT1_11 qhT1_12 qhT1_13 qhT1_14 qt7_0 qt7_1 qt7_2 qt7_3 qt7_4 qt7_5 qt7_6 qt7_7 qt17_0 qt17_1 qt17_2 qt17_3 qt17_4 qt17_5
          have hS := hb
          have hB49 := hB48.call hS rfl
          replace hT0 := blkb hT0 hS
          replace hT1 := blkb hT1 hS
          replace H := H.below hS
          replace HG := HG.below hS
          replace HA := HA.below hS
          replace HS := HS.below hS
          replace HT := HT.below hS
          replace t7 := blkb t7 hS
          replace t17 := blkb t17 hS
          clear hS hB48
          obtain ⟨qhT0_0, qhT0_1, qhT0_2, qhT0_3, qhT0_4, qhT0_5, qhT0_6, qhT0_7, qhT0_8⟩ := cells9 hT0
          obtain ⟨qhT1_0, qhT1_1, qhT1_2, qhT1_3, qhT1_4, qhT1_5, qhT1_6, qhT1_7, qhT1_8, qhT1_9, qhT1_10, qhT1_11, qhT1_12, qhT1_13, qhT1_14⟩ := cells15 hT1
          obtain ⟨qt7_0, qt7_1, qt7_2, qt7_3, qt7_4, qt7_5, qt7_6, qt7_7⟩ := cells8 t7
          obtain ⟨qt17_0, qt17_1, qt17_2, qt17_3, qt17_4, qt17_5⟩ := cells6 t17
          clear hb
          by_cases hE20 : E20 = 0
          rotate_left
          · as_aux_lemma =>
            have hq : (E20 != 0) = true := by simpa using hE20
            go_wp2_with fail
            refine (c15 _).mono ?_
            rintro e wz ⟨rfl, hz⟩
            go_wp2
            go_ret
            exact ⟨rfl, hB49.call hz rfl⟩
          have QE20 := Lib.hid hE20
          subst hE20
          go_wp2_with fail
          refine (c37 S HN2 shcap _).mono ?_
          rintro e w' ⟨⟨b, rfl, hb2⟩, rfl⟩
          cases b
          case false =>
           go_wp2_with fail
           refine (c15 _).mono ?_
           rintro e wz ⟨rfl, hz⟩
           go_wp2
           go_ret
           exact ⟨rfl, hB49.call hz rfl⟩
          have hshn := hb2 rfl
          clear hb2
          go_wp2_with fail
          refine (c37 T TN wcap _).mono ?_
          rintro e w' ⟨⟨b, rfl, hb3⟩, rfl⟩
          cases b
          case false =>
           go_wp2_with fail
           refine (c15 _).mono ?_
           rintro e wz ⟨rfl, hz⟩
           go_wp2
           go_ret
           exact ⟨rfl, hB49.call hz rfl⟩
          have hwen := hb3 rfl
          clear hb3
          go_wp2_with fail
          refine (H48.out _ (by omega) HS).mono ?_
          rintro e w50 ⟨rfl, hb⟩
          clear qhT0_0 qhT0_1 qhT0_2 qhT0_3 qhT0_4 qhT0_5 qhT0_6 qhT0_7 qhT0_8 qhT1_0 qhT1_1 qhT1_2 qhT1_3 qhT1_4 qhT1_5 qhT1_6 qhT1_7 qhT1_8 qhT1_9 qhT1_10 qhT1_11 qhT1_12 qhT1_13 qhT1_14 qt7_0 qt7_1 qt7_2 qt7_3 qt7_4 qt7_5 qt7_6 qt7_7 qt17_0 qt17_1 qt17_2 qt17_3 qt17_4 qt17_5
          have hS := hb
          have hB50 := hB49.call hS rfl
          replace hT0 := blkb hT0 hS
          replace hT1 := blkb hT1 hS
          replace H := H.below hS
          replace HG := HG.below hS
          replace HA := HA.below hS
          replace HS := HS.below hS
          replace HT := HT.below hS
          replace t7 := blkb t7 hS
          replace t17 := blkb t17 hS
          clear hS hB49
          obtain ⟨qhT0_0, qhT0_1, qhT0_2, qhT0_3, qhT0_4, qhT0_5, qhT0_6, qhT0_7, qhT0_8⟩ := cells9 hT0
          obtain ⟨qhT1_0, qhT1_1, qhT1_2, qhT1_3, qhT1_4, qhT1_5, qhT1_6, qhT1_7, qhT1_8, qhT1_9, qhT1_10, qhT1_11, qhT1_12, qhT1_13, qhT1_14⟩ := cells15 hT1
          obtain ⟨qt7_0, qt7_1, qt7_2, qt7_3, qt7_4, qt7_5, qt7_6, qt7_7⟩ := cells8 t7
          obtain ⟨qt17_0, qt17_1, qt17_2, qt17_3, qt17_4, qt17_5⟩ := cells6 t17
          clear hb
          by_cases hE48 : E48 = 0
          rotate_left
          · as_aux_lemma =>
            have hq : (E48 != 0) = true := by simpa using hE48
            go_wp2_with fail
            refine (c15 _).mono ?_
            rintro e wz ⟨rfl, hz⟩
            go_wp2
            go_ret
            exact ⟨rfl, hB50.call hz rfl⟩
          have QE48 := Lib.hid hE48
          subst hE48
          go_wp2_with fail
          refine (H48b.out _ (by omega) HT).mono ?_
          rintro e w51 ⟨rfl, hb⟩
          clear qhT0_0 qhT0_1 qhT0_2 qhT0_3 qhT0_4 qhT0_5 qhT0_6 qhT0_7 qhT0_8 qhT1_0 qhT1_1 qhT1_2 qhT1_3 qhT1_4 qhT1_5 qhT1_6 qhT1_7 qhT1_8 qhT1_9 qhT1_10 qhT1_11 qhT1_12 qhT1_13 qhT1_14 qt7_0 qt7_1 qt7_2 qt7_3 qt7_4 qt7_5 qt7_6 qt7_7 qt17_0 qt17_1 qt17_2 qt17_3 qt17_4 qt17_5
          have hS := hb
          have hB51 := hB50.call hS rfl
          replace hT0 := blkb hT0 hS
          replace hT1 := blkb hT1 hS
          replace H := H.below hS
          replace HG := HG.below hS
          replace HA := HA.below hS
          replace HS := HS.below hS
          replace HT := HT.below hS
          replace t7 := blkb t7 hS
          replace t17 := blkb t17 hS
          clear hS hB50
          obtain ⟨qhT0_0, qhT0_1, qhT0_2, qhT0_3, qhT0_4, qhT0_5, qhT0_6, qhT0_7, qhT0_8⟩ := cells9 hT0
          obtain ⟨qhT1_0, qhT1_1, qhT1_2, qhT1_3, qhT1_4, qhT1_5, qhT1_6, qhT1_7, qhT1_8, qhT1_9, qhT1_10, qhT1_11, qhT1_12, qhT1_13, qhT1_14⟩ := cells15 hT1
          obtain ⟨qt7_0, qt7_1, qt7_2, qt7_3, qt7_4, qt7_5, qt7_6, qt7_7⟩ := cells8 t7
          obtain ⟨qt17_0, qt17_1, qt17_2, qt17_3, qt17_4, qt17_5⟩ := cells6 t17
          clear hb
          by_cases hE49 : E49 = 0
          rotate_left
          · as_aux_lemma =>
            have hq : (E49 != 0) = true := by simpa using hE49
            go_wp2_with fail
            refine (c15 _).mono ?_
            rintro e wz ⟨rfl, hz⟩
            go_wp2
            go_ret
            exact ⟨rfl, hB51.call hz rfl⟩
          have QE49 := Lib.hid hE49
          subst hE49
          have h33 := Mo.dia_facts (HE20.out.symm) (HE48.out.symm) (HE49.out.symm)
          obtain ⟨D, hD⟩ : ∃ D, D = Mo.diary v u sg sh we := ⟨_, rfl⟩
          have h17 := fun w1 (H1 : RdS w1 3 SA SN (sg.flatMap Sgt.enc)) => c17 SA scap sg w1 (by rw [← HSN.out]; omega) (by unfold RdL; rw [← HSN.out]; exact H1)
          have h39 := fun w1 (H1 : RdS w1 2 S HN2 (sh.flatMap Spn.enc)) => c39 S shcap sh w1 (by rw [← HHN.out]; omega) (by unfold RdL; rw [← HHN.out]; exact H1) HS0.out
          have h39b := fun w1 (H1 : RdS w1 2 T TN (we.flatMap Spn.enc)) => c39 T wcap we w1 (by rw [← HTN.out]; omega) (by unfold RdL; rw [← HTN.out]; exact H1) HT0.out
          have h40 := fun w1 AT CT AS CS AW CW (H1 : RdS w1 3 AT SN (sg.flatMap Sgt.enc)) (H2 : RdS w1 2 AS HN2 (sh.flatMap Spn.enc)) (H3 : RdS w1 2 AW TN (we.flatMap Spn.enc)) => c40 v u AT CT sg AS CS sh AW CW we w1 (by rw [← HSN.out]; omega) (by rw [← HHN.out]; omega) (by rw [← HTN.out]; omega) (by unfold RdL; rw [← HSN.out]; exact H1) (by unfold RdL; rw [← HHN.out]; exact H2) (by unfold RdL; rw [← HTN.out]; exact H3)
          rw [← HSN.out] at h17 h40
          rw [← HHN.out] at h39 h40
          rw [← HTN.out] at h39b h40
          rw [← hD] at h33 h40
          have H17 := Lib.hid h17
          have H39 := Lib.hid h39
          have H39B := Lib.hid h39b
          have H40 := Lib.hid h40
          have H33 := Lib.hid h33
          clear h17 h39 h39b h40 h33 hD
          go_wp2
          refine wp_region_plan [(0, true), (1, true), (2, true), (3, true), (4, true), (5, true), (6, true), (7, true), (9, true), (10, true), (11, true), (13, true), (14, true), (15, true), (8, false), (12, false), (16, false), (17, false), (18, true), (19, true), (20, true), (21, true), (22, true)] w51.heap.size (by kernel_rfl) (by kernel_rfl) (Nat.le_refl _) (fun _ _ d _ _ h => by cases d <;> exact h) ?_
          have hC : Below w51.heap.size w51 w51 := Below.refl _ _
          have zhT0 : w.heap.size < w51.heap.size := (Array.getElem?_eq_some_iff.1 hT0).1
          have zhT1 : w.heap.size + 1 < w51.heap.size := (Array.getElem?_eq_some_iff.1 hT1).1
          have zt7 : bt7 < w51.heap.size := (Array.getElem?_eq_some_iff.1 t7).1
          have zt17 : bt17 < w51.heap.size := (Array.getElem?_eq_some_iff.1 t17).1
          repeat (first | (refine wpPlanA_skip _ rfl (by rfl) ?_; simp only [Act.put, List.setIfInBounds_toArray, List.set_cons_zero, List.set_cons_succ]) | (refine wpPlanA_soft _ ?_ rfl (by rfl) ?_ ?_; rotate_left; (intro wq hq hcq; go_simp; first | exact rfl | exact ⟨rfl, rfl⟩); simp only [Act.put, List.setIfInBounds_toArray, List.set_cons_zero, List.set_cons_succ]))
          refine wpPlanA_hard _ rfl (by rfl) (fun w52 hS K hK => ?_)
          have hB52 := hB51.call hS rfl
          replace hC := hC.call hS rfl
          replace hT0 := blkb hT0 hS
          replace hT1 := blkb hT1 hS
          replace H := H.below hS
          replace HG := HG.below hS
          replace HA := HA.below hS
          replace HS := HS.below hS
          replace HT := HT.below hS
          replace t7 := blkb t7 hS
          replace t17 := blkb t17 hS
          clear hS hB51
          go_simp
          refine (H17.out _ HA).mono ?_
          rintro e w53 ⟨_, rfl, ⟨AT, CT, rfl, ht⟩, hb⟩
          have hB53 := hB52.call hb rfl
          replace hC := hC.call hb rfl
          replace hT0 := blkb hT0 hb
          replace hT1 := blkb hT1 hb
          replace H := H.below hb
          replace HG := HG.below hb
          replace HA := HA.below hb
          replace HS := HS.below hb
          replace HT := HT.below hb
          replace t7 := blkb t7 hb
          replace t17 := blkb t17 hb
          clear hb hB52
          refine hK _ _ hC ?_
          clear hK K
          try simp only [Act.put, List.setIfInBounds_toArray, List.set_cons_zero, List.set_cons_succ]
          refine wpPlanA_hard _ rfl (by rfl) (fun w54 hS K hK => ?_)
          have hB54 := hB53.call hS rfl
          replace hC := hC.call hS rfl
          replace hT0 := blkb hT0 hS
          replace hT1 := blkb hT1 hS
          replace H := H.below hS
          replace HG := HG.below hS
          replace HA := HA.below hS
          replace HS := HS.below hS
          replace HT := HT.below hS
          replace t7 := blkb t7 hS
          replace t17 := blkb t17 hS
          replace ht := ht.below hS
          clear hS hB53
          go_simp
          refine (H39.out _ HS).mono ?_
          rintro e w55 ⟨_, rfl, ⟨AS, CS, rfl, hts⟩, hb⟩
          have hB55 := hB54.call hb rfl
          replace hC := hC.call hb rfl
          replace hT0 := blkb hT0 hb
          replace hT1 := blkb hT1 hb
          replace H := H.below hb
          replace HG := HG.below hb
          replace HA := HA.below hb
          replace HS := HS.below hb
          replace HT := HT.below hb
          replace t7 := blkb t7 hb
          replace t17 := blkb t17 hb
          replace ht := ht.below hb
          clear hb hB54
          refine hK _ _ hC ?_
          clear hK K
          try simp only [Act.put, List.setIfInBounds_toArray, List.set_cons_zero, List.set_cons_succ]
          refine wpPlanA_hard _ rfl (by rfl) (fun w56 hS K hK => ?_)
          have hB56 := hB55.call hS rfl
          replace hC := hC.call hS rfl
          replace hT0 := blkb hT0 hS
          replace hT1 := blkb hT1 hS
          replace H := H.below hS
          replace HG := HG.below hS
          replace HA := HA.below hS
          replace HS := HS.below hS
          replace HT := HT.below hS
          replace t7 := blkb t7 hS
          replace t17 := blkb t17 hS
          replace ht := ht.below hS
          replace hts := hts.below hS
          clear hS hB55
          go_simp
          refine (H39B.out _ HT).mono ?_
          rintro e w57 ⟨_, rfl, ⟨AW, CW, rfl, htw⟩, hb⟩
          have hB57 := hB56.call hb rfl
          replace hC := hC.call hb rfl
          replace hT0 := blkb hT0 hb
          replace hT1 := blkb hT1 hb
          replace H := H.below hb
          replace HG := HG.below hb
          replace HA := HA.below hb
          replace HS := HS.below hb
          replace HT := HT.below hb
          replace t7 := blkb t7 hb
          replace t17 := blkb t17 hb
          replace ht := ht.below hb
          replace hts := hts.below hb
          clear hb hB56
          refine hK _ _ hC ?_
          clear hK K
          try simp only [Act.put, List.setIfInBounds_toArray, List.set_cons_zero, List.set_cons_succ]
          refine wpPlanA_hard _ rfl (by rfl) (fun w58 hS K hK => ?_)
          have hB58 := hB57.call hS rfl
          replace hC := hC.call hS rfl
          replace hT0 := blkb hT0 hS
          replace hT1 := blkb hT1 hS
          replace H := H.below hS
          replace HG := HG.below hS
          replace HA := HA.below hS
          replace HS := HS.below hS
          replace HT := HT.below hS
          replace t7 := blkb t7 hS
          replace t17 := blkb t17 hS
          replace ht := ht.below hS
          replace hts := hts.below hS
          replace htw := htw.below hS
          clear hS hB57
          go_simp
          refine (H40.out _ AT CT AS CS AW CW ht hts htw).mono ?_
          rintro e w59 ⟨_, rfl, ⟨AD2, CD2, rfl, hdd⟩, hb⟩
          have hB59 := hB58.call hb rfl
          replace hC := hC.call hb rfl
          replace hT0 := blkb hT0 hb
          replace hT1 := blkb hT1 hb
          replace H := H.below hb
          replace HG := HG.below hb
          replace HA := HA.below hb
          replace HS := HS.below hb
          replace HT := HT.below hb
          replace t7 := blkb t7 hb
          replace t17 := blkb t17 hb
          replace ht := ht.below hb
          replace hts := hts.below hb
          replace htw := htw.below hb
          clear hb hB58
          refine hK _ _ hC ?_
          clear hK K
          try simp only [Act.put, List.setIfInBounds_toArray, List.set_cons_zero, List.set_cons_succ]
          repeat (first | (refine wpPlanA_skip _ rfl (by rfl) ?_; simp only [Act.put, List.setIfInBounds_toArray, List.set_cons_zero, List.set_cons_succ]) | (refine wpPlanA_soft _ ?_ rfl (by rfl) ?_ ?_; rotate_left; (intro wq hq hcq; go_simp; first | exact rfl | exact ⟨rfl, rfl⟩); simp only [Act.put, List.setIfInBounds_toArray, List.set_cons_zero, List.set_cons_succ]))
          clear qhT0_0 qhT0_1 qhT0_2 qhT0_3 qhT0_4 qhT0_5 qhT0_6 qhT0_7 qhT0_8 qhT1_0 qhT1_1 qhT1_2 qhT1_3 qhT1_4 qhT1_5 qhT1_6 qhT1_7 qhT1_8 qhT1_9 qhT1_10 qhT1_11 qhT1_12 qhT1_13 qhT1_14 qt7_0 qt7_1 qt7_2 qt7_3 qt7_4 qt7_5 qt7_6 qt7_7 qt17_0 qt17_1 qt17_2 qt17_3 qt17_4 qt17_5
          refine wpPlanA_nil (fun w60 hS => ?_)
          clear hC zhT0 zhT1 zt7 zt17
          have hB60 := hB59.call hS rfl
          replace hT0 := blkb hT0 hS
          replace hT1 := blkb hT1 hS
          replace H := H.below hS
          replace HG := HG.below hS
          replace HA := HA.below hS
          replace HS := HS.below hS
          replace HT := HT.below hS
          replace t7 := blkb t7 hS
          replace t17 := blkb t17 hS
          replace ht := ht.below hS
          replace hts := hts.below hS
          replace htw := htw.below hS
          replace hdd := hdd.below hS
          clear hS hB59
          obtain ⟨qhT0_0, qhT0_1, qhT0_2, qhT0_3, qhT0_4, qhT0_5, qhT0_6, qhT0_7, qhT0_8⟩ := cells9 hT0
          obtain ⟨qhT1_0, qhT1_1, qhT1_2, qhT1_3, qhT1_4, qhT1_5, qhT1_6, qhT1_7, qhT1_8, qhT1_9, qhT1_10, qhT1_11, qhT1_12, qhT1_13, qhT1_14⟩ := cells15 hT1
          obtain ⟨qt7_0, qt7_1, qt7_2, qt7_3, qt7_4, qt7_5, qt7_6, qt7_7⟩ := cells8 t7
          obtain ⟨qt17_0, qt17_1, qt17_2, qt17_3, qt17_4, qt17_5⟩ := cells6 t17
          clear ht
          clear hts
          clear htw
          rcases H33.out with ⟨hd, hn⟩ | ⟨L, hd, hl64, hent2, hel, hadj, hlast, htt, hz1, hz4⟩
          · as_aux_lemma =>
            rw [hd]
            dsimp only
            clear hd
            go_wp2
            go_ret
            exact ⟨rfl, hB60⟩
          · as_aux_lemma =>
            rw [hd] at hdd ⊢
            dsimp only at hdd ⊢
            have HEL := Lib.hid hel
            have HADJ := Lib.hid hadj
            have HLAST := Lib.hid hlast
            have HTT := Lib.hid htt
            have HZ1 := Lib.hid hz1
            have HZ4 := Lib.hid hz4
            have HENT2 := Lib.hid hent2
            clear hd hel hadj hlast htt hz1 hz4 hent2
            go_wp2
            clear qhT0_0 qhT0_1 qhT0_2 qhT0_3 qhT0_4 qhT0_5 qhT0_6 qhT0_7 qhT0_8 qhT1_0 qhT1_1 qhT1_2 qhT1_3 qhT1_4 qhT1_5 qhT1_6 qhT1_7 qhT1_8 qhT1_9 qhT1_10 qhT1_11 qhT1_12 qhT1_13 qhT1_14 qt7_0 qt7_1 qt7_2 qt7_3 qt7_4 qt7_5 qt7_6 qt7_7 qt17_0 qt17_1 qt17_2 qt17_3 qt17_4 qt17_5
            go_loopw [30, 307] (fun x i wr => ∃ k : Nat, k ≤ L.length ∧ i = .int .i64 k ∧ x = .int .i64 (Mo.atK L k) ∧ Below w60.heap.size w60 wr) (fun _ i _ => L.length - (intOf i).toNat)
            case atStart => exact ⟨0, Nat.zero_le _, rfl, rfl, Below.refl _ _⟩
            case round =>
              obtain ⟨k, hk, rfl, rfl, hBd⟩ := hrel
              obtain ⟨w61, hww⟩ : ∃ W, W = wr := ⟨_, rfl⟩
              rw [← hww] at hBd ⊢
              clear hww
              have hB61 := hB60.call hBd rfl
              replace hT0 := blkb hT0 hBd
              replace hT1 := blkb hT1 hBd
              replace H := H.below hBd
              replace HG := HG.below hBd
              replace HA := HA.below hBd
              replace HS := HS.below hBd
              replace HT := HT.below hBd
              replace t7 := blkb t7 hBd
              replace t17 := blkb t17 hBd
              replace hdd := hdd.below hBd
              clear hB60
              by_cases hkL : k < L.length
              · as_aux_lemma =>
                obtain ⟨b, off, e, hA, hx, hb, hc⟩ := RdL.at (show RdL w61 3 Ent.enc AD2 L from hdd) Ent.len hkL
                subst hA
                have s0 : w61.cell? ⟨b, off + k * 3, none⟩ = some (.int .i64 e.f) := hc 0 (by omega)
                have s1 : w61.cell? ⟨b, off + k * 3 + 1, none⟩ = some (.int .i64 e.t) := hc 1 (by omega)
                have s2 : w61.cell? ⟨b, off + k * 3 + 2, none⟩ = some (.string e.c) := hc 2 (by omega)
                obtain ⟨g1, g2, g3, g4⟩ := HEL.out k e hx
                have hne1 : (e.f != Mo.atK L k) = false := by rw [g1]; simp
                have hne2 : decide (e.t ≤ Mo.atK L k) = false := decide_eq_false (by omega)
                have HX := Lib.hid hx
                have hat : Hid (Mo.atK L (k + 1) = e.t) := by
                  show ((L[k]?).map (·.t)).getD 0 = e.t
                  rw [hx]
                  rfl
                clear hc hx g1
                have hz : (w61.alloc (Obj.cells #[.int .i64 0, .int .i64 0, .string ByteArray.empty] 134)).heap[w61.heap.size]? = some (Obj.cells #[.int .i64 0, .int .i64 0, .string ByteArray.empty] 134) := heap_new rfl
                go_wp2_with (refine wpList_store_blk rfl 134 _ _ rfl w61.heap.size _ rfl rfl hz ?s1 ?s2 ?s3 ?_)
                case s1 => rfl
                case s2 => kernel_rfl
                case s3 => simp [Value.oneCell']
                intro w62 t32 hg3 hs3
                have hS := ((Below.refl _ _).alloc (Nat.le_refl _) _).grown hg3 (by simp) (fun j hj => by cases hj; exact Nat.le_refl _)
                have hB62 := hB61.call hS rfl
                replace hT0 := blkb hT0 hS
                replace hT1 := blkb hT1 hS
                replace H := H.below hS
                replace HG := HG.below hS
                replace HA := HA.below hS
                replace HS := HS.below hS
                replace HT := HT.below hS
                replace t7 := blkb t7 hS
                replace t17 := blkb t17 hS
                replace hdd := hdd.below hS
                replace hBd := hBd.call hS rfl
                clear hS hB61
                obtain ⟨qhT0_0, qhT0_1, qhT0_2, qhT0_3, qhT0_4, qhT0_5, qhT0_6, qhT0_7, qhT0_8⟩ := cells9 hT0
                obtain ⟨qhT1_0, qhT1_1, qhT1_2, qhT1_3, qhT1_4, qhT1_5, qhT1_6, qhT1_7, qhT1_8, qhT1_9, qhT1_10, qhT1_11, qhT1_12, qhT1_13, qhT1_14⟩ := cells15 hT1
                obtain ⟨qt7_0, qt7_1, qt7_2, qt7_3, qt7_4, qt7_5, qt7_6, qt7_7⟩ := cells8 t7
                obtain ⟨qt17_0, qt17_1, qt17_2, qt17_3, qt17_4, qt17_5⟩ := cells6 t17
                clear hz hg3 hs3
                obtain ⟨bt32, hbt32⟩ : ∃ b, b = w61.heap.size := ⟨_, rfl⟩
                rw [← hbt32] at t32 ⊢
                clear hbt32
                clear qhT0_0 qhT0_1 qhT0_2 qhT0_3 qhT0_4 qhT0_5 qhT0_6 qhT0_7 qhT0_8 qhT1_0 qhT1_1 qhT1_2 qhT1_3 qhT1_4 qhT1_5 qhT1_6 qhT1_7 qhT1_8 qhT1_9 qhT1_10 qhT1_11 qhT1_12 qhT1_13 qhT1_14 qt7_0 qt7_1 qt7_2 qt7_3 qt7_4 qt7_5 qt7_6 qt7_7 qt17_0 qt17_1 qt17_2 qt17_3 qt17_4 qt17_5
                obtain ⟨qt32_0, qt32_1, qt32_2⟩ := cells3 t32
                by_cases hk0 : k = 0
                · as_aux_lemma =>
                  have hkz : decide ((0 : Int) < (k : Int)) = false := decide_eq_false (by omega)
                  have hkn : decide (0 < k) = false := decide_eq_false (by omega)
                  clear hk0
                  go_wp2
                  have zt32 : bt32 < w62.heap.size := (Array.getElem?_eq_some_iff.1 t32).1
                  refine wp_region_growG (by kernel_rfl) (by kernel_rfl) ?_
                  repeat (go_big_quiet_step ((first | fail)))
                  refine wpQuiet_nil (gw_out ?_)
                  intro wq hS
                  replace hBd := hBd.call hS rfl
                  have t32q := blkb t32 hS
                  have u32 : wq.cell? ⟨bt32, 1, none⟩ = some (.int .i64 e.t) := cell_at t32q rfl
                  go_wp2
                  go_roundw
                  case rel => exact ⟨k + 1, by omega, by go_num, by rw [hat.out], hBd⟩
                  case measure => simp [intOf]; omega
                · as_aux_lemma =>
                  have hkz : decide ((0 : Int) < (k : Int)) = true := decide_eq_true (by omega)
                  have hkn : decide (0 < k) = true := decide_eq_true (by omega)
                  have hk1 : (1 : Int) ≤ (k : Int) := by omega
                  have hk2 : (k : Int) - 1 < (L.length : Int) := by omega
                  have hmx : ((k : Int) - 1).toNat = k - 1 := by omega
                  have hwm : IntKind.i64.wrap ((k : Int) - 1) = (k : Int) - 1 := by rw [IntKind.wrap_i64]; omega
                  obtain ⟨b2, off2, e', hA2, hx2, hb2, hc2⟩ := RdL.at (k := k - 1) (show RdL w62 3 Ent.enc (some ⟨b, off, none⟩) L from hdd) Ent.len (by omega)
                  cases hA2
                  have p2 : w62.cell? ⟨b, off + (k - 1) * 3 + 2, none⟩ = some (.string e'.c) := hc2 2 (by omega)
                  have hnc := HADJ.out (k - 1) e' e hx2 (by rw [Nat.sub_add_cancel (by omega)]; exact HX.out)
                  have hce : (e.c.toList == e'.c.toList) = false := by
                    rw [beq_eq_false_iff_ne]
                    exact fun h => hnc h.symm
                  clear hc2 hx2 hnc hk0
                  go_wp2
                  have zt32 : bt32 < w62.heap.size := (Array.getElem?_eq_some_iff.1 t32).1
                  refine wp_region_growG (by kernel_rfl) (by kernel_rfl) ?_
                  repeat (go_big_quiet_step ((first | fail)))
                  refine wpQuiet_nil (gw_out ?_)
                  intro wq hS
                  replace hBd := hBd.call hS rfl
                  have t32q := blkb t32 hS
                  have u32 : wq.cell? ⟨bt32, 1, none⟩ = some (.int .i64 e.t) := cell_at t32q rfl
                  go_wp2
                  go_roundw
                  case rel => exact ⟨k + 1, by omega, by go_num, by rw [hat.out], hBd⟩
                  case measure => simp [intOf]; omega
              · as_aux_lemma =>
                obtain rfl : k = L.length := by omega
                rw [HLAST.out]
                clear hkL
                clear hBd
                obtain ⟨Q, hQv, hQb, hQs, hQ1, hQ4⟩ := dia_hours HENT2.out HTT.out HZ1.out HZ4.out
                have HQB := Lib.hid hQb
                have HQS := Lib.hid hQs
                have HQ1 := Lib.hid hQ1
                have HQ4 := Lib.hid hQ4
                have H44D := Lib.hid (dia44 AD2 CD2 L HENT2.out)
                have H53D := Lib.hid (dia53 L HENT2.out)
                have H54D := Lib.hid (dia54 L HENT2.out hQv)
                clear hQv hQb hQs hQ1 hQ4
                obtain ⟨qhT0_0, qhT0_1, qhT0_2, qhT0_3, qhT0_4, qhT0_5, qhT0_6, qhT0_7, qhT0_8⟩ := cells9 hT0
                obtain ⟨qhT1_0, qhT1_1, qhT1_2, qhT1_3, qhT1_4, qhT1_5, qhT1_6, qhT1_7, qhT1_8, qhT1_9, qhT1_10, qhT1_11, qhT1_12, qhT1_13, qhT1_14⟩ := cells15 hT1
                obtain ⟨qt7_0, qt7_1, qt7_2, qt7_3, qt7_4, qt7_5, qt7_6, qt7_7⟩ := cells8 t7
                obtain ⟨qt17_0, qt17_1, qt17_2, qt17_3, qt17_4, qt17_5⟩ := cells6 t17
                go_wp2_with fail
                refine (H44D.out _ hdd).mono ?_
                rintro e w62 ⟨_, rfl, ⟨AK, CK, rfl, hk2⟩, hb⟩
                clear qhT0_0 qhT0_1 qhT0_2 qhT0_3 qhT0_4 qhT0_5 qhT0_6 qhT0_7 qhT0_8 qhT1_0 qhT1_1 qhT1_2 qhT1_3 qhT1_4 qhT1_5 qhT1_6 qhT1_7 qhT1_8 qhT1_9 qhT1_10 qhT1_11 qhT1_12 qhT1_13 qhT1_14 qt7_0 qt7_1 qt7_2 qt7_3 qt7_4 qt7_5 qt7_6 qt7_7 qt17_0 qt17_1 qt17_2 qt17_3 qt17_4 qt17_5
                have hS := hb
                have hB62 := hB61.call hS rfl
                replace hT0 := blkb hT0 hS
                replace hT1 := blkb hT1 hS
                replace H := H.below hS
                replace HG := HG.below hS
                replace HA := HA.below hS
                replace HS := HS.below hS
                replace HT := HT.below hS
                replace t7 := blkb t7 hS
                replace t17 := blkb t17 hS
                replace hdd := hdd.below hS
                clear hS hB61
                obtain ⟨qhT0_0, qhT0_1, qhT0_2, qhT0_3, qhT0_4, qhT0_5, qhT0_6, qhT0_7, qhT0_8⟩ := cells9 hT0
                obtain ⟨qhT1_0, qhT1_1, qhT1_2, qhT1_3, qhT1_4, qhT1_5, qhT1_6, qhT1_7, qhT1_8, qhT1_9, qhT1_10, qhT1_11, qhT1_12, qhT1_13, qhT1_14⟩ := cells15 hT1
                obtain ⟨qt7_0, qt7_1, qt7_2, qt7_3, qt7_4, qt7_5, qt7_6, qt7_7⟩ := cells8 t7
                obtain ⟨qt17_0, qt17_1, qt17_2, qt17_3, qt17_4, qt17_5⟩ := cells6 t17
                clear hb
                go_wp2_with fail
                refine (H53D.out _ AK CK hk2).mono ?_
                rintro e w63 ⟨x, rfl, ho, hb⟩
                clear qhT0_0 qhT0_1 qhT0_2 qhT0_3 qhT0_4 qhT0_5 qhT0_6 qhT0_7 qhT0_8 qhT1_0 qhT1_1 qhT1_2 qhT1_3 qhT1_4 qhT1_5 qhT1_6 qhT1_7 qhT1_8 qhT1_9 qhT1_10 qhT1_11 qhT1_12 qhT1_13 qhT1_14 qt7_0 qt7_1 qt7_2 qt7_3 qt7_4 qt7_5 qt7_6 qt7_7 qt17_0 qt17_1 qt17_2 qt17_3 qt17_4 qt17_5
                have hS := hb
                have hB63 := hB62.call hS rfl
                replace hT0 := blkb hT0 hS
                replace hT1 := blkb hT1 hS
                replace H := H.below hS
                replace HG := HG.below hS
                replace HA := HA.below hS
                replace HS := HS.below hS
                replace HT := HT.below hS
                replace t7 := blkb t7 hS
                replace t17 := blkb t17 hS
                replace hdd := hdd.below hS
                replace hk2 := hk2.below hS
                clear hS hB62
                obtain ⟨qhT0_0, qhT0_1, qhT0_2, qhT0_3, qhT0_4, qhT0_5, qhT0_6, qhT0_7, qhT0_8⟩ := cells9 hT0
                obtain ⟨qhT1_0, qhT1_1, qhT1_2, qhT1_3, qhT1_4, qhT1_5, qhT1_6, qhT1_7, qhT1_8, qhT1_9, qhT1_10, qhT1_11, qhT1_12, qhT1_13, qhT1_14⟩ := cells15 hT1
                obtain ⟨qt7_0, qt7_1, qt7_2, qt7_3, qt7_4, qt7_5, qt7_6, qt7_7⟩ := cells8 t7
                obtain ⟨qt17_0, qt17_1, qt17_2, qt17_3, qt17_4, qt17_5⟩ := cells6 t17
                clear hb
                clear hk2
                obtain ⟨AE, CE, rfl, he, _, _, _⟩ := own_form ho
                clear ho
                go_wp2_with fail
                refine (H54D.out _ AE CE he).mono ?_
                rintro e w64 ⟨rfl, hb⟩
                clear qhT0_0 qhT0_1 qhT0_2 qhT0_3 qhT0_4 qhT0_5 qhT0_6 qhT0_7 qhT0_8 qhT1_0 qhT1_1 qhT1_2 qhT1_3 qhT1_4 qhT1_5 qhT1_6 qhT1_7 qhT1_8 qhT1_9 qhT1_10 qhT1_11 qhT1_12 qhT1_13 qhT1_14 qt7_0 qt7_1 qt7_2 qt7_3 qt7_4 qt7_5 qt7_6 qt7_7 qt17_0 qt17_1 qt17_2 qt17_3 qt17_4 qt17_5
                have hS := hb
                have hB64 := hB63.call hS rfl
                replace hT0 := blkb hT0 hS
                replace hT1 := blkb hT1 hS
                replace H := H.below hS
                replace HG := HG.below hS
                replace HA := HA.below hS
                replace HS := HS.below hS
                replace HT := HT.below hS
                replace t7 := blkb t7 hS
                replace t17 := blkb t17 hS
                replace hdd := hdd.below hS
                replace he := he.below hS
                clear hS hB63
                obtain ⟨qhT0_0, qhT0_1, qhT0_2, qhT0_3, qhT0_4, qhT0_5, qhT0_6, qhT0_7, qhT0_8⟩ := cells9 hT0
                obtain ⟨qhT1_0, qhT1_1, qhT1_2, qhT1_3, qhT1_4, qhT1_5, qhT1_6, qhT1_7, qhT1_8, qhT1_9, qhT1_10, qhT1_11, qhT1_12, qhT1_13, qhT1_14⟩ := cells15 hT1
                obtain ⟨qt7_0, qt7_1, qt7_2, qt7_3, qt7_4, qt7_5, qt7_6, qt7_7⟩ := cells8 t7
                obtain ⟨qt17_0, qt17_1, qt17_2, qt17_3, qt17_4, qt17_5⟩ := cells6 t17
                clear hb
                clear he
                have hz : (w64.alloc (Obj.cells #[.int .i64 0, .int .i64 0, .int .i64 0, .int .i64 0, .int .i64 0, .int .i64 0] 85)).heap[w64.heap.size]? = some (Obj.cells #[.int .i64 0, .int .i64 0, .int .i64 0, .int .i64 0, .int .i64 0, .int .i64 0] 85) := heap_new rfl
                go_wp2_with (refine wpList_store_blk rfl 85 _ _ rfl w64.heap.size _ rfl rfl hz ?s1 ?s2 ?s3 ?_)
                case s1 => rfl
                case s2 => kernel_rfl
                case s3 => simp [Value.oneCell']
                intro w65 t33 hg3 hs3
                clear qhT0_0 qhT0_1 qhT0_2 qhT0_3 qhT0_4 qhT0_5 qhT0_6 qhT0_7 qhT0_8 qhT1_0 qhT1_1 qhT1_2 qhT1_3 qhT1_4 qhT1_5 qhT1_6 qhT1_7 qhT1_8 qhT1_9 qhT1_10 qhT1_11 qhT1_12 qhT1_13 qhT1_14 qt7_0 qt7_1 qt7_2 qt7_3 qt7_4 qt7_5 qt7_6 qt7_7 qt17_0 qt17_1 qt17_2 qt17_3 qt17_4 qt17_5
                have hS := ((Below.refl _ _).alloc (Nat.le_refl _) _).grown hg3 (by simp) (fun j hj => by cases hj; exact Nat.le_refl _)
                have hB65 := hB64.call hS rfl
                replace hT0 := blkb hT0 hS
                replace hT1 := blkb hT1 hS
                replace H := H.below hS
                replace HG := HG.below hS
                replace HA := HA.below hS
                replace HS := HS.below hS
                replace HT := HT.below hS
                replace t7 := blkb t7 hS
                replace t17 := blkb t17 hS
                replace hdd := hdd.below hS
                clear hS hB64
                obtain ⟨qhT0_0, qhT0_1, qhT0_2, qhT0_3, qhT0_4, qhT0_5, qhT0_6, qhT0_7, qhT0_8⟩ := cells9 hT0
                obtain ⟨qhT1_0, qhT1_1, qhT1_2, qhT1_3, qhT1_4, qhT1_5, qhT1_6, qhT1_7, qhT1_8, qhT1_9, qhT1_10, qhT1_11, qhT1_12, qhT1_13, qhT1_14⟩ := cells15 hT1
                obtain ⟨qt7_0, qt7_1, qt7_2, qt7_3, qt7_4, qt7_5, qt7_6, qt7_7⟩ := cells8 t7
                obtain ⟨qt17_0, qt17_1, qt17_2, qt17_3, qt17_4, qt17_5⟩ := cells6 t17
                clear hz hg3 hs3
                obtain ⟨bt33, hbt33⟩ : ∃ b, b = w64.heap.size := ⟨_, rfl⟩
                rw [← hbt33] at t33 ⊢
                clear hbt33
                obtain ⟨qt33_0, qt33_1, qt33_2, qt33_3, qt33_4, qt33_5⟩ := cells6 t33
                go_wp2
                clear qhT0_0 qhT0_1 qhT0_2 qhT0_3 qhT0_4 qhT0_5 qhT0_6 qhT0_7 qhT0_8 qhT1_0 qhT1_1 qhT1_2 qhT1_3 qhT1_4 qhT1_5 qhT1_6 qhT1_7 qhT1_8 qhT1_9 qhT1_10 qhT1_11 qhT1_12 qhT1_13 qhT1_14 qt7_0 qt7_1 qt7_2 qt7_3 qt7_4 qt7_5 qt7_6 qt7_7 qt17_0 qt17_1 qt17_2 qt17_3 qt17_4 qt17_5 qt33_0 qt33_1 qt33_2 qt33_3 qt33_4 qt33_5
                go_loopw [35, 351] (fun x i wr => ∃ k : Nat, k ≤ 6 ∧ i = .int .i64 k ∧ x = .int .i64 (Mo.psum Q k) ∧ Below w65.heap.size w65 wr) (fun _ i _ => 6 - (intOf i).toNat)
                case atStart => exact ⟨0, by omega, rfl, rfl, Below.refl _ _⟩
                case round =>
                  obtain ⟨k, hk, rfl, rfl, hBk⟩ := hrel
                  obtain ⟨w66, hww⟩ : ∃ W, W = wr := ⟨_, rfl⟩
                  rw [← hww] at hBk ⊢
                  clear hww
                  have hB66 := hB65.call hBk rfl
                  replace hT0 := blkb hT0 hBk
                  replace hT1 := blkb hT1 hBk
                  replace H := H.below hBk
                  replace HG := HG.below hBk
                  replace HA := HA.below hBk
                  replace HS := HS.below hBk
                  replace HT := HT.below hBk
                  replace t7 := blkb t7 hBk
                  replace t17 := blkb t17 hBk
                  replace hdd := hdd.below hBk
                  replace t33 := blkb t33 hBk
                  clear hB65
                  by_cases hk6 : k < 6
                  · as_aux_lemma =>
                    have hix := fun W => idx85 Q k hk6 W
                    have hb2 := Mo.psum_bd Q 6400000 HQB.out (k + 1)
                    have hwr : IntKind.i64.wrap (Mo.psum Q k + Q k) = Mo.psum Q (k + 1) := by
                      show IntKind.i64.wrap (Mo.psum Q (k + 1)) = Mo.psum Q (k + 1)
                      rw [IntKind.wrap_i64]
                      omega
                    clear hb2
                    go_wp2
                    go_roundw
                    case rel => exact ⟨k + 1, by omega, by go_num, rfl, hBk⟩
                    case measure => simp [intOf]; omega
                  · as_aux_lemma =>
                    obtain rfl : k = 6 := by omega
                    rw [HQS.out]
                    have hQ1 := HQ1.out
                    have hQ4 := HQ4.out
                    clear hk6
                    obtain ⟨qhT0_0, qhT0_1, qhT0_2, qhT0_3, qhT0_4, qhT0_5, qhT0_6, qhT0_7, qhT0_8⟩ := cells9 hT0
                    obtain ⟨qhT1_0, qhT1_1, qhT1_2, qhT1_3, qhT1_4, qhT1_5, qhT1_6, qhT1_7, qhT1_8, qhT1_9, qhT1_10, qhT1_11, qhT1_12, qhT1_13, qhT1_14⟩ := cells15 hT1
                    obtain ⟨qt7_0, qt7_1, qt7_2, qt7_3, qt7_4, qt7_5, qt7_6, qt7_7⟩ := cells8 t7
                    obtain ⟨qt17_0, qt17_1, qt17_2, qt17_3, qt17_4, qt17_5⟩ := cells6 t17
                    obtain ⟨qt33_0, qt33_1, qt33_2, qt33_3, qt33_4, qt33_5⟩ := cells6 t33
                    go_wp2_with fail
                    refine (c15 _).mono ?_
                    rintro e wz ⟨rfl, hz⟩
                    go_wp2
                    go_ret
                    exact ⟨rfl, hB66.call hz rfl⟩
        have hfr2 : c.free < Mo.hrs l 2 := by
          have := congrFun HQ.out 2
          rw [this] at hfr
          exact hfr
        obtain ⟨hm1, hm2, hm3⟩ := Mo.billI_more c l rs hfr2
        rw [← HV.out] at hm1 hm2 hm3
        have hcok := Mo.con_ok (Mo.bill_ok H3.out).1
        have hc2 := hcok.r 2 (by omega)
        have hc0 := hcok.free
        have hp2 := HBD.out 2 (by omega)
        have hp3 := HBD.out 3 (by omega)
        have hp6 := HBD.out 6 (by omega)
        have hps : Mo.psum V.c 3 = Mo.psum V.c 2 + V.c 2 := rfl
        obtain ⟨f1, hf1e⟩ : ∃ f1, f1 = c.free + 1 := ⟨_, rfl⟩
        obtain ⟨x2, hx2e⟩ : ∃ x, x = V.c 2 - c.r 2 := ⟨_, rfl⟩
        obtain ⟨xt, hxte⟩ : ∃ x, x = V.total - c.r 2 := ⟨_, rfl⟩
        have hwf : IntKind.i64.wrap (c.free + 1) = f1 := by rw [IntKind.wrap_i64]; omega
        have hwx : IntKind.i64.wrap (V.c 2 - c.r 2) = x2 := by rw [IntKind.wrap_i64]; omega
        have hwt : IntKind.i64.wrap (V.total - c.r 2) = xt := by have := HTOT.out; rw [IntKind.wrap_i64]; omega
        have hn0 : (Mo.billI (Mo.more c) l rs).c 0 = V.c 0 := by rw [hm1, if_neg (by omega)]; omega
        have hn1 : (Mo.billI (Mo.more c) l rs).c 1 = V.c 1 := by rw [hm1, if_neg (by omega)]; omega
        have hn2 : (Mo.billI (Mo.more c) l rs).c 2 = x2 := by rw [hm1, if_pos rfl, hx2e]
        have hn3 : (Mo.billI (Mo.more c) l rs).c 3 = V.c 3 := by rw [hm1, if_neg (by omega)]; omega
        have hn4 : (Mo.billI (Mo.more c) l rs).c 4 = V.c 4 := by rw [hm1, if_neg (by omega)]; omega
        have hn5 : (Mo.billI (Mo.more c) l rs).c 5 = V.c 5 := by rw [hm1, if_neg (by omega)]; omega
        have hnf : (Mo.more c).free = f1 := by rw [hf1e]; rfl
        have hnr : ∀ i, (Mo.more c).r i = c.r i := fun _ => rfl
        have hnb : (Mo.more c).bonus = c.bonus := rfl
        have hnp : (Mo.more c).pen = c.pen := rfl
        rw [← hxte] at hm3
        have E91B := eq91r (Mo.billI (Mo.more c) l rs)
        simp only [hn0, hn1, hn2, hn3, hn4, hn5, hm2, hm3] at E91B
        have h66b := fun w1 A (cap : Nat) G (gcap : Nat) => H66.out (Mo.more c) l (Mo.bill_more H3.out hf1) w1 A cap G gcap
        simp only [hnr, hnf, hnb, hnp, hn0, hn1, hn2, hn3, hn4, hn5, hm2, hm3] at h66b
        rw [← HN.out, ← HM0.out] at h66b
        have H66B := Lib.hid h66b
        have hfd : decide (c.free < 100000) = true := decide_eq_true hf1
        clear h66b hnf hnr hnb hnp hn0 hn1 hn2 hn3 hn4 hn5 hm1 hm2 hm3 hfr2 hcok hp2 hp3 hp6 hps hf1e hx2e hxte hc2 hc0
        have hT0z := hT0
        have hT1z := hT1
        have Hz := H
        have HGz := HG
        have HAz := HA
        have HSz := HS
        have HTz := HT
        have t7z := t7
        have t17z := t17
        have hz : (w47.alloc (Obj.cells #[.int .i64 0, .int .i64 0, .int .i64 0, .int .i64 0, .int .i64 0, .int .i64 0, .int .i64 0, .int .i64 0, .int .i64 0] 122)).heap[w47.heap.size]? = some (Obj.cells #[.int .i64 0, .int .i64 0, .int .i64 0, .int .i64 0, .int .i64 0, .int .i64 0, .int .i64 0, .int .i64 0, .int .i64 0] 122) := heap_new rfl
        go_wp2_with (refine wpList_store_blk rfl 122 _ _ rfl w47.heap.size _ rfl rfl hz ?s1 ?s2 ?s3 ?_)
        case s1 => rfl
        case s2 => kernel_rfl
        case s3 => simp [Value.oneCell']
        intro w48 t24 hg hs
        have hC := ((Below.refl w47.heap.size w47).alloc (Nat.le_refl _) (Obj.cells #[.int .i64 0, .int .i64 0, .int .i64 0, .int .i64 0, .int .i64 0, .int .i64 0, .int .i64 0, .int .i64 0, .int .i64 0] 122)).grown hg (by simp) (fun j hj => by cases hj; exact Nat.le_refl _)
        clear hz hg hs
        obtain ⟨bt24, hbt24⟩ : ∃ b, b = w47.heap.size := ⟨_, rfl⟩
        have hge : w47.heap.size ≤ bt24 := by omega
        rw [← hbt24] at t24 ⊢
        clear hbt24
        clear qhT0_0 qhT0_1 qhT0_2 qhT0_3 qhT0_4 qhT0_5 qhT0_6 qhT0_7 qhT0_8 qhT1_0 qhT1_1 qhT1_2 qhT1_3 qhT1_4 qhT1_5 qhT1_6 qhT1_7 qhT1_8 qhT1_9 qhT1_10 qhT1_11 qhT1_12 qhT1_13 qhT1_14 qt7_0 qt7_1 qt7_2 qt7_3 qt7_4 qt7_5 qt7_6 qt7_7 qt17_0 qt17_1 qt17_2 qt17_3 qt17_4 qt17_5
        have cz := blkb hT0z hC
        obtain ⟨qhT0_0, qhT0_1, qhT0_2, qhT0_3, qhT0_4, qhT0_5, qhT0_6, qhT0_7, qhT0_8⟩ := cells9 cz
        clear cz
        have cz := blkb hT1z hC
        obtain ⟨qhT1_0, qhT1_1, qhT1_2, qhT1_3, qhT1_4, qhT1_5, qhT1_6, qhT1_7, qhT1_8, qhT1_9, qhT1_10, qhT1_11, qhT1_12, qhT1_13, qhT1_14⟩ := cells15 cz
        clear cz
        have cz := blkb t7z hC
        obtain ⟨qt7_0, qt7_1, qt7_2, qt7_3, qt7_4, qt7_5, qt7_6, qt7_7⟩ := cells8 cz
        clear cz
        have cz := blkb t17z hC
        obtain ⟨qt17_0, qt17_1, qt17_2, qt17_3, qt17_4, qt17_5⟩ := cells6 cz
        clear cz
        obtain ⟨qt24_0, qt24_1, qt24_2, qt24_3, qt24_4, qt24_5, qt24_6, qt24_7, qt24_8⟩ := cells9 t24
        go_wp2_with (refine wpList_store_one rfl _ _ rfl bt24 6 f1 _ rfl rfl t24 (by simp) ?_)
        intro w49 t24n hg hs
        replace hC := hC.grown hg hC.size (fun j hj => by cases hj; exact hge)
        replace t24 : w49.heap[bt24]? = some (.cells #[.int .i64 (c.r 0), .int .i64 (c.r 1), .int .i64 (c.r 2), .int .i64 (c.r 3), .int .i64 (c.r 4), .int .i64 (c.r 5), .int .i64 f1, .int .i64 c.bonus, .int .i64 c.pen] 122 (0, 0)) := t24n
        clear t24n hg hs qhT0_0 qhT0_1 qhT0_2 qhT0_3 qhT0_4 qhT0_5 qhT0_6 qhT0_7 qhT0_8 qhT1_0 qhT1_1 qhT1_2 qhT1_3 qhT1_4 qhT1_5 qhT1_6 qhT1_7 qhT1_8 qhT1_9 qhT1_10 qhT1_11 qhT1_12 qhT1_13 qhT1_14 qt7_0 qt7_1 qt7_2 qt7_3 qt7_4 qt7_5 qt7_6 qt7_7 qt17_0 qt17_1 qt17_2 qt17_3 qt17_4 qt17_5 qt24_0 qt24_1 qt24_2 qt24_3 qt24_4 qt24_5 qt24_6 qt24_7 qt24_8
        have hB49 := hB47.call hC rfl
        replace hT0 := blkb hT0z hC
        replace hT1 := blkb hT1z hC
        replace H := Hz.below hC
        replace HG := HGz.below hC
        replace HA := HAz.below hC
        replace HS := HSz.below hC
        replace HT := HTz.below hC
        replace t7 := blkb t7z hC
        replace t17 := blkb t17z hC
        clear hC hge hB47 hT0z hT1z Hz HGz HAz HSz HTz t7z t17z
        obtain ⟨qhT0_0, qhT0_1, qhT0_2, qhT0_3, qhT0_4, qhT0_5, qhT0_6, qhT0_7, qhT0_8⟩ := cells9 hT0
        obtain ⟨qhT1_0, qhT1_1, qhT1_2, qhT1_3, qhT1_4, qhT1_5, qhT1_6, qhT1_7, qhT1_8, qhT1_9, qhT1_10, qhT1_11, qhT1_12, qhT1_13, qhT1_14⟩ := cells15 hT1
        obtain ⟨qt7_0, qt7_1, qt7_2, qt7_3, qt7_4, qt7_5, qt7_6, qt7_7⟩ := cells8 t7
        obtain ⟨qt17_0, qt17_1, qt17_2, qt17_3, qt17_4, qt17_5⟩ := cells6 t17
        obtain ⟨qt24_0, qt24_1, qt24_2, qt24_3, qt24_4, qt24_5, qt24_6, qt24_7, qt24_8⟩ := cells9 t24
        go_wp2
        refine wp_region_planF (Φ := Fresh w49.heap.size #[.int .i64 0, .int .i64 0, .int .i64 0, .int .i64 0, .int .i64 0, .int .i64 0, .int .i64 0, .int .i64 0] 91) [(0, 1), (1, 1), (3, 1), (4, 1), (2, 0), (5, 0), (6, 0), (7, 1), (8, 1), (9, 1), (10, 2), (11, 3), (12, 1)] 10 w49.heap.size _ rfl (by kernel_rfl) (by kernel_rfl) (Nat.le_refl _) (fun _ _ d _ _ h => by cases d <;> exact h) (fun _ _ d _ _ h => by cases d <;> exact h) (fun v w w' hv hb => hv.below hb) ?hF ?_
        case hF =>
          intro a wq hq
          refine ⟨rfl, ?_⟩
          have hsz := hq.size
          go_simp
          exact ⟨_, rfl, ⟨_, rfl, hsz, heap_new rfl⟩, (Below.refl _ _).alloc (Nat.le_refl _) _⟩
        have hC : Below w49.heap.size w49 w49 := Below.refl _ _
        have hBr := hB49
        have zhT0 : w.heap.size < w49.heap.size := (Array.getElem?_eq_some_iff.1 hT0).1
        have zhT1 : w.heap.size + 1 < w49.heap.size := (Array.getElem?_eq_some_iff.1 hT1).1
        have zt7 : bt7 < w49.heap.size := (Array.getElem?_eq_some_iff.1 t7).1
        have zt17 : bt17 < w49.heap.size := (Array.getElem?_eq_some_iff.1 t17).1
        have zt24 : bt24 < w49.heap.size := (Array.getElem?_eq_some_iff.1 t24).1
        have hT00 := hT0
        have hT10 := hT1
        have H0 := H
        have HG0 := HG
        have HA0 := HA
        have HS0 := HS
        have HT0 := HT
        have t70 := t7
        have t170 := t17
        have t240 := t24
        repeat (first | (refine wpPlanFA_skip _ rfl (by rfl) ?_; simp only [Act.put, List.setIfInBounds_toArray, List.set_cons_zero, List.set_cons_succ]) | (refine wpPlanFA_soft _ ?_ rfl (by rfl) ?_ ?_; rotate_left; (intro wq hq hcq; go_simp; first | exact rfl | exact ⟨rfl, rfl⟩); simp only [Act.put, List.setIfInBounds_toArray, List.set_cons_zero, List.set_cons_succ]))
        refine wpPlanFA_hard _ rfl (by rfl) (fun w50 hS K hK => ?_)
        have hB50 := hB49.call hS rfl
        replace hC := hC.call hS rfl
        replace hT0 := blkb hT0 hS
        replace hT1 := blkb hT1 hS
        replace H := H.below hS
        replace HG := HG.below hS
        replace HA := HA.below hS
        replace HS := HS.below hS
        replace HT := HT.below hS
        replace t7 := blkb t7 hS
        replace t17 := blkb t17 hS
        replace t24 := blkb t24 hS
        clear hS hB49
        go_simp
        refine (H53.out _ HL.out H).mono ?_
        rintro e w51 ⟨x, rfl, ho, hb⟩
        have hB51 := hB50.call hb rfl
        replace hC := hC.call hb rfl
        replace hT0 := blkb hT0 hb
        replace hT1 := blkb hT1 hb
        replace H := H.below hb
        replace HG := HG.below hb
        replace HA := HA.below hb
        replace HS := HS.below hb
        replace HT := HT.below hb
        replace t7 := blkb t7 hb
        replace t17 := blkb t17 hb
        replace t24 := blkb t24 hb
        obtain ⟨AE, CE, rfl, he, _, _, he3⟩ := own_form ho
        have HE3 := Lib.hid he3
        clear ho he3
        refine hK _ _ hC hb ?_
        clear hK K hb hB50
        try simp only [Act.put, List.setIfInBounds_toArray, List.set_cons_zero, List.set_cons_succ]
        refine wpPlanFA_hard _ rfl (by rfl) (fun w52 hS K hK => ?_)
        have hB52 := hB51.call hS rfl
        replace hC := hC.call hS rfl
        replace hT0 := blkb hT0 hS
        replace hT1 := blkb hT1 hS
        replace H := H.below hS
        replace HG := HG.below hS
        replace HA := HA.below hS
        replace HS := HS.below hS
        replace HT := HT.below hS
        replace t7 := blkb t7 hS
        replace t17 := blkb t17 hS
        replace t24 := blkb t24 hS
        replace he := he.below hS
        clear hS hB51
        go_simp
        refine (H67.out _ HM.out HG).mono ?_
        rintro e w53 ⟨x, rfl, ho, hb⟩
        have hB53 := hB52.call hb rfl
        replace hC := hC.call hb rfl
        replace hT0 := blkb hT0 hb
        replace hT1 := blkb hT1 hb
        replace H := H.below hb
        replace HG := HG.below hb
        replace HA := HA.below hb
        replace HS := HS.below hb
        replace HT := HT.below hb
        replace t7 := blkb t7 hb
        replace t17 := blkb t17 hb
        replace t24 := blkb t24 hb
        replace he := he.below hb
        obtain ⟨AR, CR, rfl, hr, hr1, hr2, hr3⟩ := own_form ho
        have HR1 := Lib.hid hr1
        have HR2 := Lib.hid hr2
        clear ho hr1 hr2 hr3
        refine hK _ _ hC hb ?_
        clear hK K hb hB52
        try simp only [Act.put, List.setIfInBounds_toArray, List.set_cons_zero, List.set_cons_succ]
        refine wpPlanFA_hard _ rfl (by rfl) (fun w54 hS K hK => ?_)
        have hB54 := hB53.call hS rfl
        replace hC := hC.call hS rfl
        replace hT0 := blkb hT0 hS
        replace hT1 := blkb hT1 hS
        replace H := H.below hS
        replace HG := HG.below hS
        replace HA := HA.below hS
        replace HS := HS.below hS
        replace HT := HT.below hS
        replace t7 := blkb t7 hS
        replace t17 := blkb t17 hS
        replace t24 := blkb t24 hS
        replace he := he.below hS
        replace hr := hr.below hS
        clear hS hB53
        go_simp
        refine (H66B.out _ AE CE AR CR HL.out HM.out HR1.out HR2.out HSZ.out HRZ.out he hr).mono ?_
        rintro e w55 ⟨rfl, hb⟩
        have hB55 := hB54.call hb rfl
        replace hC := hC.call hb rfl
        replace hT0 := blkb hT0 hb
        replace hT1 := blkb hT1 hb
        replace H := H.below hb
        replace HG := HG.below hb
        replace HA := HA.below hb
        replace HS := HS.below hb
        replace HT := HT.below hb
        replace t7 := blkb t7 hb
        replace t17 := blkb t17 hb
        replace t24 := blkb t24 hb
        replace he := he.below hb
        replace hr := hr.below hb
        refine hK _ _ hC hb ?_
        clear hK K hb hB54
        try simp only [Act.put, List.setIfInBounds_toArray, List.set_cons_zero, List.set_cons_succ]
        repeat (first | (refine wpPlanFA_skip _ rfl (by rfl) ?_; simp only [Act.put, List.setIfInBounds_toArray, List.set_cons_zero, List.set_cons_succ]) | (refine wpPlanFA_soft _ ?_ rfl (by rfl) ?_ ?_; rotate_left; (intro wq hq hcq; go_simp; first | exact rfl | exact ⟨rfl, rfl⟩); simp only [Act.put, List.setIfInBounds_toArray, List.set_cons_zero, List.set_cons_succ]))
        refine wpPlanFA_float _ rfl (fun v w56 hS hv => ?_)
        obtain ⟨bt25, rfl, hge, t25⟩ := hv
        have hB56 := hB55.call hS rfl
        replace hC := hC.call hS rfl
        replace hT0 := blkb hT0 hS
        replace hT1 := blkb hT1 hS
        replace H := H.below hS
        replace HG := HG.below hS
        replace HA := HA.below hS
        replace HS := HS.below hS
        replace HT := HT.below hS
        replace t7 := blkb t7 hS
        replace t17 := blkb t17 hS
        replace t24 := blkb t24 hS
        replace he := he.below hS
        replace hr := hr.below hS
        clear hS hB55
        try simp only [Act.put, List.setIfInBounds_toArray, List.set_cons_zero, List.set_cons_succ]
        repeat (first | (refine wpPlanFA_skip _ rfl (by rfl) ?_; simp only [Act.put, List.setIfInBounds_toArray, List.set_cons_zero, List.set_cons_succ]) | (refine wpPlanFA_soft _ ?_ rfl (by rfl) ?_ ?_; rotate_left; (intro wq hq hcq; go_simp; first | exact rfl | exact ⟨rfl, rfl⟩); simp only [Act.put, List.setIfInBounds_toArray, List.set_cons_zero, List.set_cons_succ]))
        refine wpPlanFA_late _ rfl (by rfl) (fun w57 hS K hK => ?_)
        replace hC := hC.call hS rfl
        replace t25 := blkb t25 hS
        clear hS hB56 hT0 hT1 H HG HA HS HT t7 t17 t24 he hr
        refine wp_store_blk 91 _ _ rfl bt25 _ rfl rfl t25 ?s1 ?s2 ?s3 ?_
        case s1 => rfl
        case s2 => kernel_rfl
        case s3 => simp [Value.oneCell']
        intro w58 t25n hg3 hs3
        replace hC : Below w49.heap.size w49 w58 := hC.grown hg3 hC.size (fun j hj => by cases hj; exact hge)
        refine hK _ _ hC ?_
        clear hK K t25 hg3 hs3
        have t25 := t25n
        clear t25n
        have hB58 := hBr.call hC rfl
        have hT0 := blkb hT00 hC
        have hT1 := blkb hT10 hC
        have H := H0.below hC
        have HG := HG0.below hC
        have HA := HA0.below hC
        have HS := HS0.below hC
        have HT := HT0.below hC
        have t7 := blkb t70 hC
        have t17 := blkb t170 hC
        have t24 := blkb t240 hC
        try simp only [Act.put, List.setIfInBounds_toArray, List.set_cons_zero, List.set_cons_succ]
        repeat (first | (refine wpPlanFA_skip _ rfl (by rfl) ?_; simp only [Act.put, List.setIfInBounds_toArray, List.set_cons_zero, List.set_cons_succ]) | (refine wpPlanFA_soft _ ?_ rfl (by rfl) ?_ ?_; rotate_left; (intro wq hq hcq; go_simp; first | exact rfl | exact ⟨rfl, rfl⟩); simp only [Act.put, List.setIfInBounds_toArray, List.set_cons_zero, List.set_cons_succ]))
        clear qhT0_0 qhT0_1 qhT0_2 qhT0_3 qhT0_4 qhT0_5 qhT0_6 qhT0_7 qhT0_8 qhT1_0 qhT1_1 qhT1_2 qhT1_3 qhT1_4 qhT1_5 qhT1_6 qhT1_7 qhT1_8 qhT1_9 qhT1_10 qhT1_11 qhT1_12 qhT1_13 qhT1_14 qt7_0 qt7_1 qt7_2 qt7_3 qt7_4 qt7_5 qt7_6 qt7_7 qt17_0 qt17_1 qt17_2 qt17_3 qt17_4 qt17_5 qt24_0 qt24_1 qt24_2 qt24_3 qt24_4 qt24_5 qt24_6 qt24_7 qt24_8
        refine wpPlanFA_nil (fun w59 hS => ?_)
        clear hC hge hBr zhT0 zhT1 zt7 zt17 zt24 hT00 hT10 H0 HG0 HA0 HS0 HT0 t70 t170 t240
        have hB59 := hB58.call hS rfl
        replace hT0 := blkb hT0 hS
        replace hT1 := blkb hT1 hS
        replace H := H.below hS
        replace HG := HG.below hS
        replace HA := HA.below hS
        replace HS := HS.below hS
        replace HT := HT.below hS
        replace t7 := blkb t7 hS
        replace t17 := blkb t17 hS
        replace t24 := blkb t24 hS
        replace t25 := blkb t25 hS
        clear hS hB58
        obtain ⟨qhT0_0, qhT0_1, qhT0_2, qhT0_3, qhT0_4, qhT0_5, qhT0_6, qhT0_7, qhT0_8⟩ := cells9 hT0
        obtain ⟨qhT1_0, qhT1_1, qhT1_2, qhT1_3, qhT1_4, qhT1_5, qhT1_6, qhT1_7, qhT1_8, qhT1_9, qhT1_10, qhT1_11, qhT1_12, qhT1_13, qhT1_14⟩ := cells15 hT1
        obtain ⟨qt7_0, qt7_1, qt7_2, qt7_3, qt7_4, qt7_5, qt7_6, qt7_7⟩ := cells8 t7
        obtain ⟨qt17_0, qt17_1, qt17_2, qt17_3, qt17_4, qt17_5⟩ := cells6 t17
        obtain ⟨qt24_0, qt24_1, qt24_2, qt24_3, qt24_4, qt24_5, qt24_6, qt24_7, qt24_8⟩ := cells9 t24
        clear HE3 HR1 HR2
        clear qhT0_0 qhT0_1 qhT0_2 qhT0_3 qhT0_4 qhT0_5 qhT0_6 qhT0_7 qhT0_8 qhT1_0 qhT1_1 qhT1_2 qhT1_3 qhT1_4 qhT1_5 qhT1_6 qhT1_7 qhT1_8 qhT1_9 qhT1_10 qhT1_11 qhT1_12 qhT1_13 qhT1_14 qt7_0 qt7_1 qt7_2 qt7_3 qt7_4 qt7_5 qt7_6 qt7_7 qt17_0 qt17_1 qt17_2 qt17_3 qt17_4 qt17_5 qt24_0 qt24_1 qt24_2 qt24_3 qt24_4 qt24_5 qt24_6 qt24_7 qt24_8
        clear t24
        obtain ⟨qhT0_0, qhT0_1, qhT0_2, qhT0_3, qhT0_4, qhT0_5, qhT0_6, qhT0_7, qhT0_8⟩ := cells9 hT0
        obtain ⟨qhT1_0, qhT1_1, qhT1_2, qhT1_3, qhT1_4, qhT1_5, qhT1_6, qhT1_7, qhT1_8, qhT1_9, qhT1_10, qhT1_11, qhT1_12, qhT1_13, qhT1_14⟩ := cells15 hT1
        obtain ⟨qt7_0, qt7_1, qt7_2, qt7_3, qt7_4, qt7_5, qt7_6, qt7_7⟩ := cells8 t7
        obtain ⟨qt17_0, qt17_1, qt17_2, qt17_3, qt17_4, qt17_5⟩ := cells6 t17
        obtain ⟨qt25_0, qt25_1, qt25_2, qt25_3, qt25_4, qt25_5, qt25_6, qt25_7⟩ := cells8 t25
        have hT0z := hT0
        have hT1z := hT1
        have Hz := H
        have HGz := HG
        have HAz := HA
        have HSz := HS
        have HTz := HT
        have t7z := t7
        have t17z := t17
        have t25z := t25
        have hz : (w59.alloc (Obj.cells #[.int .i64 0, .int .i64 0, .int .i64 0, .int .i64 0, .int .i64 0, .int .i64 0, .int .i64 0, .int .i64 0] 91)).heap[w59.heap.size]? = some (Obj.cells #[.int .i64 0, .int .i64 0, .int .i64 0, .int .i64 0, .int .i64 0, .int .i64 0, .int .i64 0, .int .i64 0] 91) := heap_new rfl
        go_wp2_with (refine wpList_store_blk rfl 91 _ _ rfl w59.heap.size _ rfl rfl hz ?s1 ?s2 ?s3 ?_)
        case s1 => rfl
        case s2 => kernel_rfl
        case s3 => simp [Value.oneCell']
        intro w60 t27 hg hs
        have hC := ((Below.refl w59.heap.size w59).alloc (Nat.le_refl _) (Obj.cells #[.int .i64 0, .int .i64 0, .int .i64 0, .int .i64 0, .int .i64 0, .int .i64 0, .int .i64 0, .int .i64 0] 91)).grown hg (by simp) (fun j hj => by cases hj; exact Nat.le_refl _)
        clear hz hg hs
        obtain ⟨bt27, hbt27⟩ : ∃ b, b = w59.heap.size := ⟨_, rfl⟩
        have hge : w59.heap.size ≤ bt27 := by omega
        rw [← hbt27] at t27 ⊢
        clear hbt27
        clear qhT0_0 qhT0_1 qhT0_2 qhT0_3 qhT0_4 qhT0_5 qhT0_6 qhT0_7 qhT0_8 qhT1_0 qhT1_1 qhT1_2 qhT1_3 qhT1_4 qhT1_5 qhT1_6 qhT1_7 qhT1_8 qhT1_9 qhT1_10 qhT1_11 qhT1_12 qhT1_13 qhT1_14 qt7_0 qt7_1 qt7_2 qt7_3 qt7_4 qt7_5 qt7_6 qt7_7 qt17_0 qt17_1 qt17_2 qt17_3 qt17_4 qt17_5 qt25_0 qt25_1 qt25_2 qt25_3 qt25_4 qt25_5 qt25_6 qt25_7
        have cz := blkb hT0z hC
        obtain ⟨qhT0_0, qhT0_1, qhT0_2, qhT0_3, qhT0_4, qhT0_5, qhT0_6, qhT0_7, qhT0_8⟩ := cells9 cz
        clear cz
        have cz := blkb hT1z hC
        obtain ⟨qhT1_0, qhT1_1, qhT1_2, qhT1_3, qhT1_4, qhT1_5, qhT1_6, qhT1_7, qhT1_8, qhT1_9, qhT1_10, qhT1_11, qhT1_12, qhT1_13, qhT1_14⟩ := cells15 cz
        clear cz
        have cz := blkb t7z hC
        obtain ⟨qt7_0, qt7_1, qt7_2, qt7_3, qt7_4, qt7_5, qt7_6, qt7_7⟩ := cells8 cz
        clear cz
        have cz := blkb t17z hC
        obtain ⟨qt17_0, qt17_1, qt17_2, qt17_3, qt17_4, qt17_5⟩ := cells6 cz
        clear cz
        have cz := blkb t25z hC
        obtain ⟨qt25_0, qt25_1, qt25_2, qt25_3, qt25_4, qt25_5, qt25_6, qt25_7⟩ := cells8 cz
        clear cz
        obtain ⟨qt27_0, qt27_1, qt27_2, qt27_3, qt27_4, qt27_5, qt27_6, qt27_7⟩ := cells8 t27
        go_wp2_with (refine wpList_store_one rfl _ _ rfl bt27 2 x2 _ rfl rfl t27 (by simp) ?_)
        intro w61 t27n hg hs
        replace hC := hC.grown hg hC.size (fun j hj => by cases hj; exact hge)
        replace t27 : w61.heap[bt27]? = some (.cells #[.int .i64 (V.c 0), .int .i64 (V.c 1), .int .i64 x2, .int .i64 (V.c 3), .int .i64 (V.c 4), .int .i64 (V.c 5), .int .i64 V.lines, .int .i64 V.total] 91 (0, 0)) := t27n
        clear t27n hg hs qhT0_0 qhT0_1 qhT0_2 qhT0_3 qhT0_4 qhT0_5 qhT0_6 qhT0_7 qhT0_8 qhT1_0 qhT1_1 qhT1_2 qhT1_3 qhT1_4 qhT1_5 qhT1_6 qhT1_7 qhT1_8 qhT1_9 qhT1_10 qhT1_11 qhT1_12 qhT1_13 qhT1_14 qt7_0 qt7_1 qt7_2 qt7_3 qt7_4 qt7_5 qt7_6 qt7_7 qt17_0 qt17_1 qt17_2 qt17_3 qt17_4 qt17_5 qt25_0 qt25_1 qt25_2 qt25_3 qt25_4 qt25_5 qt25_6 qt25_7 qt27_0 qt27_1 qt27_2 qt27_3 qt27_4 qt27_5 qt27_6 qt27_7
        have cz := blkb hT0z hC
        obtain ⟨qhT0_0, qhT0_1, qhT0_2, qhT0_3, qhT0_4, qhT0_5, qhT0_6, qhT0_7, qhT0_8⟩ := cells9 cz
        clear cz
        have cz := blkb hT1z hC
        obtain ⟨qhT1_0, qhT1_1, qhT1_2, qhT1_3, qhT1_4, qhT1_5, qhT1_6, qhT1_7, qhT1_8, qhT1_9, qhT1_10, qhT1_11, qhT1_12, qhT1_13, qhT1_14⟩ := cells15 cz
        clear cz
        have cz := blkb t7z hC
        obtain ⟨qt7_0, qt7_1, qt7_2, qt7_3, qt7_4, qt7_5, qt7_6, qt7_7⟩ := cells8 cz
        clear cz
        have cz := blkb t17z hC
        obtain ⟨qt17_0, qt17_1, qt17_2, qt17_3, qt17_4, qt17_5⟩ := cells6 cz
        clear cz
        have cz := blkb t25z hC
        obtain ⟨qt25_0, qt25_1, qt25_2, qt25_3, qt25_4, qt25_5, qt25_6, qt25_7⟩ := cells8 cz
        clear cz
        obtain ⟨qt27_0, qt27_1, qt27_2, qt27_3, qt27_4, qt27_5, qt27_6, qt27_7⟩ := cells8 t27
        go_wp2_with (refine wpList_store_one rfl _ _ rfl bt27 7 xt _ rfl rfl t27 (by simp) ?_)
        intro w62 t27n hg hs
        replace hC := hC.grown hg hC.size (fun j hj => by cases hj; exact hge)
        replace t27 : w62.heap[bt27]? = some (.cells #[.int .i64 (V.c 0), .int .i64 (V.c 1), .int .i64 x2, .int .i64 (V.c 3), .int .i64 (V.c 4), .int .i64 (V.c 5), .int .i64 V.lines, .int .i64 xt] 91 (0, 0)) := t27n
        clear t27n hg hs qhT0_0 qhT0_1 qhT0_2 qhT0_3 qhT0_4 qhT0_5 qhT0_6 qhT0_7 qhT0_8 qhT1_0 qhT1_1 qhT1_2 qhT1_3 qhT1_4 qhT1_5 qhT1_6 qhT1_7 qhT1_8 qhT1_9 qhT1_10 qhT1_11 qhT1_12 qhT1_13 qhT1_14 qt7_0 qt7_1 qt7_2 qt7_3 qt7_4 qt7_5 qt7_6 qt7_7 qt17_0 qt17_1 qt17_2 qt17_3 qt17_4 qt17_5 qt25_0 qt25_1 qt25_2 qt25_3 qt25_4 qt25_5 qt25_6 qt25_7 qt27_0 qt27_1 qt27_2 qt27_3 qt27_4 qt27_5 qt27_6 qt27_7
        have hB62 := hB59.call hC rfl
        replace hT0 := blkb hT0z hC
        replace hT1 := blkb hT1z hC
        replace H := Hz.below hC
        replace HG := HGz.below hC
        replace HA := HAz.below hC
        replace HS := HSz.below hC
        replace HT := HTz.below hC
        replace t7 := blkb t7z hC
        replace t17 := blkb t17z hC
        replace t25 := blkb t25z hC
        clear hC hge hB59 hT0z hT1z Hz HGz HAz HSz HTz t7z t17z t25z
        obtain ⟨qhT0_0, qhT0_1, qhT0_2, qhT0_3, qhT0_4, qhT0_5, qhT0_6, qhT0_7, qhT0_8⟩ := cells9 hT0
        obtain ⟨qhT1_0, qhT1_1, qhT1_2, qhT1_3, qhT1_4, qhT1_5, qhT1_6, qhT1_7, qhT1_8, qhT1_9, qhT1_10, qhT1_11, qhT1_12, qhT1_13, qhT1_14⟩ := cells15 hT1
        obtain ⟨qt7_0, qt7_1, qt7_2, qt7_3, qt7_4, qt7_5, qt7_6, qt7_7⟩ := cells8 t7
        obtain ⟨qt17_0, qt17_1, qt17_2, qt17_3, qt17_4, qt17_5⟩ := cells6 t17
        obtain ⟨qt25_0, qt25_1, qt25_2, qt25_3, qt25_4, qt25_5, qt25_6, qt25_7⟩ := cells8 t25
        obtain ⟨qt27_0, qt27_1, qt27_2, qt27_3, qt27_4, qt27_5, qt27_6, qt27_7⟩ := cells8 t27
        clear hwf hwx hwt
        go_wp2_with fail
        refine (H14.out _ SA SN scap).mono ?_
        rintro e w63 ⟨⟨b, rfl, hb1⟩, hb⟩
        clear qhT0_0 qhT0_1 qhT0_2 qhT0_3 qhT0_4 qhT0_5 qhT0_6 qhT0_7 qhT0_8 qhT1_0 qhT1_1 qhT1_2 qhT1_3 qhT1_4 qhT1_5 qhT1_6 qhT1_7 qhT1_8 qhT1_9 qhT1_10 qhT1_11 qhT1_12 qhT1_13 qhT1_14 qt7_0 qt7_1 qt7_2 qt7_3 qt7_4 qt7_5 qt7_6 qt7_7 qt17_0 qt17_1 qt17_2 qt17_3 qt17_4 qt17_5 qt25_0 qt25_1 qt25_2 qt25_3 qt25_4 qt25_5 qt25_6 qt25_7 qt27_0 qt27_1 qt27_2 qt27_3 qt27_4 qt27_5 qt27_6 qt27_7
        have hS := hb
        have hB63 := hB62.call hS rfl
        replace hT0 := blkb hT0 hS
        replace hT1 := blkb hT1 hS
        replace H := H.below hS
        replace HG := HG.below hS
        replace HA := HA.below hS
        replace HS := HS.below hS
        replace HT := HT.below hS
        replace t7 := blkb t7 hS
        replace t17 := blkb t17 hS
        replace t25 := blkb t25 hS
        replace t27 := blkb t27 hS
        clear hS hB62
        obtain ⟨qhT0_0, qhT0_1, qhT0_2, qhT0_3, qhT0_4, qhT0_5, qhT0_6, qhT0_7, qhT0_8⟩ := cells9 hT0
        obtain ⟨qhT1_0, qhT1_1, qhT1_2, qhT1_3, qhT1_4, qhT1_5, qhT1_6, qhT1_7, qhT1_8, qhT1_9, qhT1_10, qhT1_11, qhT1_12, qhT1_13, qhT1_14⟩ := cells15 hT1
        obtain ⟨qt7_0, qt7_1, qt7_2, qt7_3, qt7_4, qt7_5, qt7_6, qt7_7⟩ := cells8 t7
        obtain ⟨qt17_0, qt17_1, qt17_2, qt17_3, qt17_4, qt17_5⟩ := cells6 t17
        obtain ⟨qt25_0, qt25_1, qt25_2, qt25_3, qt25_4, qt25_5, qt25_6, qt25_7⟩ := cells8 t25
        obtain ⟨qt27_0, qt27_1, qt27_2, qt27_3, qt27_4, qt27_5, qt27_6, qt27_7⟩ := cells8 t27
        clear hb
        cases b
        case false =>
         go_wp2_with fail
         refine (c15 _).mono ?_
         rintro e wz ⟨rfl, hz⟩
         go_wp2
         go_ret
         exact ⟨rfl, hB63.call hz rfl⟩
        have hsn := hb1 rfl
        clear hb1
        go_wp2_with fail
        refine (H20.out _ (by omega) HA).mono ?_
        rintro e w64 ⟨rfl, hb⟩
        clear qhT0_0 qhT0_1 qhT0_2 qhT0_3 qhT0_4 qhT0_5 qhT0_6 qhT0_7 qhT0_8 qhT1_0 qhT1_1 qhT1_2 qhT1_3 qhT1_4 qhT1_5 qhT1_6 qhT1_7 qhT1_8 qhT1_9 qhT1_10 qhT1_11 qhT1_12 qhT1_13 qhT1_14 qt7_0 qt7_1 qt7_2 qt7_3 qt7_4 qt7_5 qt7_6 qt7_7 qt17_0 qt17_1 qt17_2 qt17_3 qt17_4 qt17_5 qt25_0 qt25_1 qt25_2 qt25_3 qt25_4 qt25_5 qt25_6 qt25_7 qt27_0 qt27_1 qt27_2 qt27_3 qt27_4 qt27_5 qt27_6 qt27_7
        have hS := hb
        have hB64 := hB63.call hS rfl
        replace hT0 := blkb hT0 hS
        replace hT1 := blkb hT1 hS
        replace H := H.below hS
        replace HG := HG.below hS
        replace HA := HA.below hS
        replace HS := HS.below hS
        replace HT := HT.below hS
        replace t7 := blkb t7 hS
        replace t17 := blkb t17 hS
        replace t25 := blkb t25 hS
        replace t27 := blkb t27 hS
        clear hS hB63
        obtain ⟨qhT0_0, qhT0_1, qhT0_2, qhT0_3, qhT0_4, qhT0_5, qhT0_6, qhT0_7, qhT0_8⟩ := cells9 hT0
        obtain ⟨qhT1_0, qhT1_1, qhT1_2, qhT1_3, qhT1_4, qhT1_5, qhT1_6, qhT1_7, qhT1_8, qhT1_9, qhT1_10, qhT1_11, qhT1_12, qhT1_13, qhT1_14⟩ := cells15 hT1
        obtain ⟨qt7_0, qt7_1, qt7_2, qt7_3, qt7_4, qt7_5, qt7_6, qt7_7⟩ := cells8 t7
        obtain ⟨qt17_0, qt17_1, qt17_2, qt17_3, qt17_4, qt17_5⟩ := cells6 t17
        obtain ⟨qt25_0, qt25_1, qt25_2, qt25_3, qt25_4, qt25_5, qt25_6, qt25_7⟩ := cells8 t25
        obtain ⟨qt27_0, qt27_1, qt27_2, qt27_3, qt27_4, qt27_5, qt27_6, qt27_7⟩ := cells8 t27
        clear hb
        by_cases hE20 : E20 = 0
        rotate_left
        · as_aux_lemma =>
          have hq : (E20 != 0) = true := by simpa using hE20
          go_wp2_with fail
          refine (c15 _).mono ?_
          rintro e wz ⟨rfl, hz⟩
          go_wp2
          go_ret
          exact ⟨rfl, hB64.call hz rfl⟩
        have QE20 := Lib.hid hE20
        subst hE20
        go_wp2_with fail
        refine (c37 S HN2 shcap _).mono ?_
        rintro e w' ⟨⟨b, rfl, hb2⟩, rfl⟩
        cases b
        case false =>
         go_wp2_with fail
         refine (c15 _).mono ?_
         rintro e wz ⟨rfl, hz⟩
         go_wp2
         go_ret
         exact ⟨rfl, hB64.call hz rfl⟩
        have hshn := hb2 rfl
        clear hb2
        go_wp2_with fail
        refine (c37 T TN wcap _).mono ?_
        rintro e w' ⟨⟨b, rfl, hb3⟩, rfl⟩
        cases b
        case false =>
         go_wp2_with fail
         refine (c15 _).mono ?_
         rintro e wz ⟨rfl, hz⟩
         go_wp2
         go_ret
         exact ⟨rfl, hB64.call hz rfl⟩
        have hwen := hb3 rfl
        clear hb3
        go_wp2_with fail
        refine (H48.out _ (by omega) HS).mono ?_
        rintro e w65 ⟨rfl, hb⟩
        clear qhT0_0 qhT0_1 qhT0_2 qhT0_3 qhT0_4 qhT0_5 qhT0_6 qhT0_7 qhT0_8 qhT1_0 qhT1_1 qhT1_2 qhT1_3 qhT1_4 qhT1_5 qhT1_6 qhT1_7 qhT1_8 qhT1_9 qhT1_10 qhT1_11 qhT1_12 qhT1_13 qhT1_14 qt7_0 qt7_1 qt7_2 qt7_3 qt7_4 qt7_5 qt7_6 qt7_7 qt17_0 qt17_1 qt17_2 qt17_3 qt17_4 qt17_5 qt25_0 qt25_1 qt25_2 qt25_3 qt25_4 qt25_5 qt25_6 qt25_7 qt27_0 qt27_1 qt27_2 qt27_3 qt27_4 qt27_5 qt27_6 qt27_7
        have hS := hb
        have hB65 := hB64.call hS rfl
        replace hT0 := blkb hT0 hS
        replace hT1 := blkb hT1 hS
        replace H := H.below hS
        replace HG := HG.below hS
        replace HA := HA.below hS
        replace HS := HS.below hS
        replace HT := HT.below hS
        replace t7 := blkb t7 hS
        replace t17 := blkb t17 hS
        replace t25 := blkb t25 hS
        replace t27 := blkb t27 hS
        clear hS hB64
        obtain ⟨qhT0_0, qhT0_1, qhT0_2, qhT0_3, qhT0_4, qhT0_5, qhT0_6, qhT0_7, qhT0_8⟩ := cells9 hT0
        obtain ⟨qhT1_0, qhT1_1, qhT1_2, qhT1_3, qhT1_4, qhT1_5, qhT1_6, qhT1_7, qhT1_8, qhT1_9, qhT1_10, qhT1_11, qhT1_12, qhT1_13, qhT1_14⟩ := cells15 hT1
        obtain ⟨qt7_0, qt7_1, qt7_2, qt7_3, qt7_4, qt7_5, qt7_6, qt7_7⟩ := cells8 t7
        obtain ⟨qt17_0, qt17_1, qt17_2, qt17_3, qt17_4, qt17_5⟩ := cells6 t17
        obtain ⟨qt25_0, qt25_1, qt25_2, qt25_3, qt25_4, qt25_5, qt25_6, qt25_7⟩ := cells8 t25
        obtain ⟨qt27_0, qt27_1, qt27_2, qt27_3, qt27_4, qt27_5, qt27_6, qt27_7⟩ := cells8 t27
        clear hb
        by_cases hE48 : E48 = 0
        rotate_left
        · as_aux_lemma =>
          have hq : (E48 != 0) = true := by simpa using hE48
          go_wp2_with fail
          refine (c15 _).mono ?_
          rintro e wz ⟨rfl, hz⟩
          go_wp2
          go_ret
          exact ⟨rfl, hB65.call hz rfl⟩
        have QE48 := Lib.hid hE48
        subst hE48
        go_wp2_with fail
        refine (H48b.out _ (by omega) HT).mono ?_
        rintro e w66 ⟨rfl, hb⟩
        clear qhT0_0 qhT0_1 qhT0_2 qhT0_3 qhT0_4 qhT0_5 qhT0_6 qhT0_7 qhT0_8 qhT1_0 qhT1_1 qhT1_2 qhT1_3 qhT1_4 qhT1_5 qhT1_6 qhT1_7 qhT1_8 qhT1_9 qhT1_10 qhT1_11 qhT1_12 qhT1_13 qhT1_14 qt7_0 qt7_1 qt7_2 qt7_3 qt7_4 qt7_5 qt7_6 qt7_7 qt17_0 qt17_1 qt17_2 qt17_3 qt17_4 qt17_5 qt25_0 qt25_1 qt25_2 qt25_3 qt25_4 qt25_5 qt25_6 qt25_7 qt27_0 qt27_1 qt27_2 qt27_3 qt27_4 qt27_5 qt27_6 qt27_7
        have hS := hb
        have hB66 := hB65.call hS rfl
        replace hT0 := blkb hT0 hS
        replace hT1 := blkb hT1 hS
        replace H := H.below hS
        replace HG := HG.below hS
        replace HA := HA.below hS
        replace HS := HS.below hS
        replace HT := HT.below hS
        replace t7 := blkb t7 hS
        replace t17 := blkb t17 hS
        replace t25 := blkb t25 hS
        replace t27 := blkb t27 hS
        clear hS hB65
        obtain ⟨qhT0_0, qhT0_1, qhT0_2, qhT0_3, qhT0_4, qhT0_5, qhT0_6, qhT0_7, qhT0_8⟩ := cells9 hT0
        obtain ⟨qhT1_0, qhT1_1, qhT1_2, qhT1_3, qhT1_4, qhT1_5, qhT1_6, qhT1_7, qhT1_8, qhT1_9, qhT1_10, qhT1_11, qhT1_12, qhT1_13, qhT1_14⟩ := cells15 hT1
        obtain ⟨qt7_0, qt7_1, qt7_2, qt7_3, qt7_4, qt7_5, qt7_6, qt7_7⟩ := cells8 t7
        obtain ⟨qt17_0, qt17_1, qt17_2, qt17_3, qt17_4, qt17_5⟩ := cells6 t17
        obtain ⟨qt25_0, qt25_1, qt25_2, qt25_3, qt25_4, qt25_5, qt25_6, qt25_7⟩ := cells8 t25
        obtain ⟨qt27_0, qt27_1, qt27_2, qt27_3, qt27_4, qt27_5, qt27_6, qt27_7⟩ := cells8 t27
        clear hb
        by_cases hE49 : E49 = 0
        rotate_left
        · as_aux_lemma =>
          have hq : (E49 != 0) = true := by simpa using hE49
          go_wp2_with fail
          refine (c15 _).mono ?_
          rintro e wz ⟨rfl, hz⟩
          go_wp2
          go_ret
          exact ⟨rfl, hB66.call hz rfl⟩
        have QE49 := Lib.hid hE49
        subst hE49
        have h33 := Mo.dia_facts (HE20.out.symm) (HE48.out.symm) (HE49.out.symm)
        obtain ⟨D, hD⟩ : ∃ D, D = Mo.diary v u sg sh we := ⟨_, rfl⟩
        have h17 := fun w1 (H1 : RdS w1 3 SA SN (sg.flatMap Sgt.enc)) => c17 SA scap sg w1 (by rw [← HSN.out]; omega) (by unfold RdL; rw [← HSN.out]; exact H1)
        have h39 := fun w1 (H1 : RdS w1 2 S HN2 (sh.flatMap Spn.enc)) => c39 S shcap sh w1 (by rw [← HHN.out]; omega) (by unfold RdL; rw [← HHN.out]; exact H1) HS0.out
        have h39b := fun w1 (H1 : RdS w1 2 T TN (we.flatMap Spn.enc)) => c39 T wcap we w1 (by rw [← HTN.out]; omega) (by unfold RdL; rw [← HTN.out]; exact H1) HT0.out
        have h40 := fun w1 AT CT AS CS AW CW (H1 : RdS w1 3 AT SN (sg.flatMap Sgt.enc)) (H2 : RdS w1 2 AS HN2 (sh.flatMap Spn.enc)) (H3 : RdS w1 2 AW TN (we.flatMap Spn.enc)) => c40 v u AT CT sg AS CS sh AW CW we w1 (by rw [← HSN.out]; omega) (by rw [← HHN.out]; omega) (by rw [← HTN.out]; omega) (by unfold RdL; rw [← HSN.out]; exact H1) (by unfold RdL; rw [← HHN.out]; exact H2) (by unfold RdL; rw [← HTN.out]; exact H3)
        rw [← HSN.out] at h17 h40
        rw [← HHN.out] at h39 h40
        rw [← HTN.out] at h39b h40
        rw [← hD] at h33 h40
        have H17 := Lib.hid h17
        have H39 := Lib.hid h39
        have H39B := Lib.hid h39b
        have H40 := Lib.hid h40
        have H33 := Lib.hid h33
        clear h17 h39 h39b h40 h33 hD
        go_wp2
        refine wp_region_plan [(0, true), (1, true), (2, true), (3, true), (4, true), (5, true), (6, true), (7, true), (9, true), (10, true), (11, true), (13, true), (14, true), (15, true), (8, false), (12, false), (16, false), (17, false), (18, true), (19, true), (20, true), (21, true), (22, true)] w66.heap.size (by kernel_rfl) (by kernel_rfl) (Nat.le_refl _) (fun _ _ d _ _ h => by cases d <;> exact h) ?_
        have hC : Below w66.heap.size w66 w66 := Below.refl _ _
        have zhT0 : w.heap.size < w66.heap.size := (Array.getElem?_eq_some_iff.1 hT0).1
        have zhT1 : w.heap.size + 1 < w66.heap.size := (Array.getElem?_eq_some_iff.1 hT1).1
        have zt7 : bt7 < w66.heap.size := (Array.getElem?_eq_some_iff.1 t7).1
        have zt17 : bt17 < w66.heap.size := (Array.getElem?_eq_some_iff.1 t17).1
        have zt25 : bt25 < w66.heap.size := (Array.getElem?_eq_some_iff.1 t25).1
        have zt27 : bt27 < w66.heap.size := (Array.getElem?_eq_some_iff.1 t27).1
        repeat (first | (refine wpPlanA_skip _ rfl (by rfl) ?_; simp only [Act.put, List.setIfInBounds_toArray, List.set_cons_zero, List.set_cons_succ]) | (refine wpPlanA_soft _ ?_ rfl (by rfl) ?_ ?_; rotate_left; (intro wq hq hcq; go_simp; first | exact rfl | exact ⟨rfl, rfl⟩); simp only [Act.put, List.setIfInBounds_toArray, List.set_cons_zero, List.set_cons_succ]))
        refine wpPlanA_hard _ rfl (by rfl) (fun w67 hS K hK => ?_)
        have hB67 := hB66.call hS rfl
        replace hC := hC.call hS rfl
        replace hT0 := blkb hT0 hS
        replace hT1 := blkb hT1 hS
        replace H := H.below hS
        replace HG := HG.below hS
        replace HA := HA.below hS
        replace HS := HS.below hS
        replace HT := HT.below hS
        replace t7 := blkb t7 hS
        replace t17 := blkb t17 hS
        replace t25 := blkb t25 hS
        replace t27 := blkb t27 hS
        clear hS hB66
        go_simp
        refine (H17.out _ HA).mono ?_
        rintro e w68 ⟨_, rfl, ⟨AT, CT, rfl, ht⟩, hb⟩
        have hB68 := hB67.call hb rfl
        replace hC := hC.call hb rfl
        replace hT0 := blkb hT0 hb
        replace hT1 := blkb hT1 hb
        replace H := H.below hb
        replace HG := HG.below hb
        replace HA := HA.below hb
        replace HS := HS.below hb
        replace HT := HT.below hb
        replace t7 := blkb t7 hb
        replace t17 := blkb t17 hb
        replace t25 := blkb t25 hb
        replace t27 := blkb t27 hb
        clear hb hB67
        refine hK _ _ hC ?_
        clear hK K
        try simp only [Act.put, List.setIfInBounds_toArray, List.set_cons_zero, List.set_cons_succ]
        refine wpPlanA_hard _ rfl (by rfl) (fun w69 hS K hK => ?_)
        have hB69 := hB68.call hS rfl
        replace hC := hC.call hS rfl
        replace hT0 := blkb hT0 hS
        replace hT1 := blkb hT1 hS
        replace H := H.below hS
        replace HG := HG.below hS
        replace HA := HA.below hS
        replace HS := HS.below hS
        replace HT := HT.below hS
        replace t7 := blkb t7 hS
        replace t17 := blkb t17 hS
        replace t25 := blkb t25 hS
        replace t27 := blkb t27 hS
        replace ht := ht.below hS
        clear hS hB68
        go_simp
        refine (H39.out _ HS).mono ?_
        rintro e w70 ⟨_, rfl, ⟨AS, CS, rfl, hts⟩, hb⟩
        have hB70 := hB69.call hb rfl
        replace hC := hC.call hb rfl
        replace hT0 := blkb hT0 hb
        replace hT1 := blkb hT1 hb
        replace H := H.below hb
        replace HG := HG.below hb
        replace HA := HA.below hb
        replace HS := HS.below hb
        replace HT := HT.below hb
        replace t7 := blkb t7 hb
        replace t17 := blkb t17 hb
        replace t25 := blkb t25 hb
        replace t27 := blkb t27 hb
        replace ht := ht.below hb
        clear hb hB69
        refine hK _ _ hC ?_
        clear hK K
        try simp only [Act.put, List.setIfInBounds_toArray, List.set_cons_zero, List.set_cons_succ]
        refine wpPlanA_hard _ rfl (by rfl) (fun w71 hS K hK => ?_)
        have hB71 := hB70.call hS rfl
        replace hC := hC.call hS rfl
        replace hT0 := blkb hT0 hS
        replace hT1 := blkb hT1 hS
        replace H := H.below hS
        replace HG := HG.below hS
        replace HA := HA.below hS
        replace HS := HS.below hS
        replace HT := HT.below hS
        replace t7 := blkb t7 hS
        replace t17 := blkb t17 hS
        replace t25 := blkb t25 hS
        replace t27 := blkb t27 hS
        replace ht := ht.below hS
        replace hts := hts.below hS
        clear hS hB70
        go_simp
        refine (H39B.out _ HT).mono ?_
        rintro e w72 ⟨_, rfl, ⟨AW, CW, rfl, htw⟩, hb⟩
        have hB72 := hB71.call hb rfl
        replace hC := hC.call hb rfl
        replace hT0 := blkb hT0 hb
        replace hT1 := blkb hT1 hb
        replace H := H.below hb
        replace HG := HG.below hb
        replace HA := HA.below hb
        replace HS := HS.below hb
        replace HT := HT.below hb
        replace t7 := blkb t7 hb
        replace t17 := blkb t17 hb
        replace t25 := blkb t25 hb
        replace t27 := blkb t27 hb
        replace ht := ht.below hb
        replace hts := hts.below hb
        clear hb hB71
        refine hK _ _ hC ?_
        clear hK K
        try simp only [Act.put, List.setIfInBounds_toArray, List.set_cons_zero, List.set_cons_succ]
        refine wpPlanA_hard _ rfl (by rfl) (fun w73 hS K hK => ?_)
        have hB73 := hB72.call hS rfl
        replace hC := hC.call hS rfl
        replace hT0 := blkb hT0 hS
        replace hT1 := blkb hT1 hS
        replace H := H.below hS
        replace HG := HG.below hS
        replace HA := HA.below hS
        replace HS := HS.below hS
        replace HT := HT.below hS
        replace t7 := blkb t7 hS
        replace t17 := blkb t17 hS
        replace t25 := blkb t25 hS
        replace t27 := blkb t27 hS
        replace ht := ht.below hS
        replace hts := hts.below hS
        replace htw := htw.below hS
        clear hS hB72
        go_simp
        refine (H40.out _ AT CT AS CS AW CW ht hts htw).mono ?_
        rintro e w74 ⟨_, rfl, ⟨AD2, CD2, rfl, hdd⟩, hb⟩
        have hB74 := hB73.call hb rfl
        replace hC := hC.call hb rfl
        replace hT0 := blkb hT0 hb
        replace hT1 := blkb hT1 hb
        replace H := H.below hb
        replace HG := HG.below hb
        replace HA := HA.below hb
        replace HS := HS.below hb
        replace HT := HT.below hb
        replace t7 := blkb t7 hb
        replace t17 := blkb t17 hb
        replace t25 := blkb t25 hb
        replace t27 := blkb t27 hb
        replace ht := ht.below hb
        replace hts := hts.below hb
        replace htw := htw.below hb
        clear hb hB73
        refine hK _ _ hC ?_
        clear hK K
        try simp only [Act.put, List.setIfInBounds_toArray, List.set_cons_zero, List.set_cons_succ]
        repeat (first | (refine wpPlanA_skip _ rfl (by rfl) ?_; simp only [Act.put, List.setIfInBounds_toArray, List.set_cons_zero, List.set_cons_succ]) | (refine wpPlanA_soft _ ?_ rfl (by rfl) ?_ ?_; rotate_left; (intro wq hq hcq; go_simp; first | exact rfl | exact ⟨rfl, rfl⟩); simp only [Act.put, List.setIfInBounds_toArray, List.set_cons_zero, List.set_cons_succ]))
        clear qhT0_0 qhT0_1 qhT0_2 qhT0_3 qhT0_4 qhT0_5 qhT0_6 qhT0_7 qhT0_8 qhT1_0 qhT1_1 qhT1_2 qhT1_3 qhT1_4 qhT1_5 qhT1_6 qhT1_7 qhT1_8 qhT1_9 qhT1_10 qhT1_11 qhT1_12 qhT1_13 qhT1_14 qt7_0 qt7_1 qt7_2 qt7_3 qt7_4 qt7_5 qt7_6 qt7_7 qt17_0 qt17_1 qt17_2 qt17_3 qt17_4 qt17_5 qt25_0 qt25_1 qt25_2 qt25_3 qt25_4 qt25_5 qt25_6 qt25_7 qt27_0 qt27_1 qt27_2 qt27_3 qt27_4 qt27_5 qt27_6 qt27_7
        refine wpPlanA_nil (fun w75 hS => ?_)
        clear hC zhT0 zhT1 zt7 zt17 zt25 zt27
        have hB75 := hB74.call hS rfl
        replace hT0 := blkb hT0 hS
        replace hT1 := blkb hT1 hS
        replace H := H.below hS
        replace HG := HG.below hS
        replace HA := HA.below hS
        replace HS := HS.below hS
        replace HT := HT.below hS
        replace t7 := blkb t7 hS
        replace t17 := blkb t17 hS
        replace t25 := blkb t25 hS
        replace t27 := blkb t27 hS
        replace ht := ht.below hS
        replace hts := hts.below hS
        replace htw := htw.below hS
        replace hdd := hdd.below hS
        clear hS hB74
        obtain ⟨qhT0_0, qhT0_1, qhT0_2, qhT0_3, qhT0_4, qhT0_5, qhT0_6, qhT0_7, qhT0_8⟩ := cells9 hT0
        obtain ⟨qhT1_0, qhT1_1, qhT1_2, qhT1_3, qhT1_4, qhT1_5, qhT1_6, qhT1_7, qhT1_8, qhT1_9, qhT1_10, qhT1_11, qhT1_12, qhT1_13, qhT1_14⟩ := cells15 hT1
        obtain ⟨qt7_0, qt7_1, qt7_2, qt7_3, qt7_4, qt7_5, qt7_6, qt7_7⟩ := cells8 t7
        obtain ⟨qt17_0, qt17_1, qt17_2, qt17_3, qt17_4, qt17_5⟩ := cells6 t17
        obtain ⟨qt25_0, qt25_1, qt25_2, qt25_3, qt25_4, qt25_5, qt25_6, qt25_7⟩ := cells8 t25
        obtain ⟨qt27_0, qt27_1, qt27_2, qt27_3, qt27_4, qt27_5, qt27_6, qt27_7⟩ := cells8 t27
        clear ht
        clear hts
        clear htw
        rcases H33.out with ⟨hd, hn⟩ | ⟨L, hd, hl64, hent2, hel, hadj, hlast, htt, hz1, hz4⟩
        · as_aux_lemma =>
          rw [hd]
          dsimp only
          clear hd
          go_wp2
          go_ret
          exact ⟨rfl, hB75⟩
        · as_aux_lemma =>
          rw [hd] at hdd ⊢
          dsimp only at hdd ⊢
          have HEL := Lib.hid hel
          have HADJ := Lib.hid hadj
          have HLAST := Lib.hid hlast
          have HTT := Lib.hid htt
          have HZ1 := Lib.hid hz1
          have HZ4 := Lib.hid hz4
          have HENT2 := Lib.hid hent2
          clear hd hel hadj hlast htt hz1 hz4 hent2
          go_wp2
          clear qhT0_0 qhT0_1 qhT0_2 qhT0_3 qhT0_4 qhT0_5 qhT0_6 qhT0_7 qhT0_8 qhT1_0 qhT1_1 qhT1_2 qhT1_3 qhT1_4 qhT1_5 qhT1_6 qhT1_7 qhT1_8 qhT1_9 qhT1_10 qhT1_11 qhT1_12 qhT1_13 qhT1_14 qt7_0 qt7_1 qt7_2 qt7_3 qt7_4 qt7_5 qt7_6 qt7_7 qt17_0 qt17_1 qt17_2 qt17_3 qt17_4 qt17_5 qt25_0 qt25_1 qt25_2 qt25_3 qt25_4 qt25_5 qt25_6 qt25_7 qt27_0 qt27_1 qt27_2 qt27_3 qt27_4 qt27_5 qt27_6 qt27_7
          go_loopw [30, 307] (fun x i wr => ∃ k : Nat, k ≤ L.length ∧ i = .int .i64 k ∧ x = .int .i64 (Mo.atK L k) ∧ Below w75.heap.size w75 wr) (fun _ i _ => L.length - (intOf i).toNat)
          case atStart => exact ⟨0, Nat.zero_le _, rfl, rfl, Below.refl _ _⟩
          case round =>
            obtain ⟨k, hk, rfl, rfl, hBd⟩ := hrel
            obtain ⟨w76, hww⟩ : ∃ W, W = wr := ⟨_, rfl⟩
            rw [← hww] at hBd ⊢
            clear hww
            have hB76 := hB75.call hBd rfl
            replace hT0 := blkb hT0 hBd
            replace hT1 := blkb hT1 hBd
            replace H := H.below hBd
            replace HG := HG.below hBd
            replace HA := HA.below hBd
            replace HS := HS.below hBd
            replace HT := HT.below hBd
            replace t7 := blkb t7 hBd
            replace t17 := blkb t17 hBd
            replace t25 := blkb t25 hBd
            replace t27 := blkb t27 hBd
            replace hdd := hdd.below hBd
            clear hB75
            by_cases hkL : k < L.length
            · as_aux_lemma =>
              obtain ⟨b, off, e, hA, hx, hb, hc⟩ := RdL.at (show RdL w76 3 Ent.enc AD2 L from hdd) Ent.len hkL
              subst hA
              have s0 : w76.cell? ⟨b, off + k * 3, none⟩ = some (.int .i64 e.f) := hc 0 (by omega)
              have s1 : w76.cell? ⟨b, off + k * 3 + 1, none⟩ = some (.int .i64 e.t) := hc 1 (by omega)
              have s2 : w76.cell? ⟨b, off + k * 3 + 2, none⟩ = some (.string e.c) := hc 2 (by omega)
              obtain ⟨g1, g2, g3, g4⟩ := HEL.out k e hx
              have hne1 : (e.f != Mo.atK L k) = false := by rw [g1]; simp
              have hne2 : decide (e.t ≤ Mo.atK L k) = false := decide_eq_false (by omega)
              have HX := Lib.hid hx
              have hat : Hid (Mo.atK L (k + 1) = e.t) := by
                show ((L[k]?).map (·.t)).getD 0 = e.t
                rw [hx]
                rfl
              clear hc hx g1
              have hz : (w76.alloc (Obj.cells #[.int .i64 0, .int .i64 0, .string ByteArray.empty] 134)).heap[w76.heap.size]? = some (Obj.cells #[.int .i64 0, .int .i64 0, .string ByteArray.empty] 134) := heap_new rfl
              go_wp2_with (refine wpList_store_blk rfl 134 _ _ rfl w76.heap.size _ rfl rfl hz ?s1 ?s2 ?s3 ?_)
              case s1 => rfl
              case s2 => kernel_rfl
              case s3 => simp [Value.oneCell']
              intro w77 t32 hg3 hs3
              have hS := ((Below.refl _ _).alloc (Nat.le_refl _) _).grown hg3 (by simp) (fun j hj => by cases hj; exact Nat.le_refl _)
              have hB77 := hB76.call hS rfl
              replace hT0 := blkb hT0 hS
              replace hT1 := blkb hT1 hS
              replace H := H.below hS
              replace HG := HG.below hS
              replace HA := HA.below hS
              replace HS := HS.below hS
              replace HT := HT.below hS
              replace t7 := blkb t7 hS
              replace t17 := blkb t17 hS
              replace t25 := blkb t25 hS
              replace t27 := blkb t27 hS
              replace hdd := hdd.below hS
              replace hBd := hBd.call hS rfl
              clear hS hB76
              obtain ⟨qhT0_0, qhT0_1, qhT0_2, qhT0_3, qhT0_4, qhT0_5, qhT0_6, qhT0_7, qhT0_8⟩ := cells9 hT0
              obtain ⟨qhT1_0, qhT1_1, qhT1_2, qhT1_3, qhT1_4, qhT1_5, qhT1_6, qhT1_7, qhT1_8, qhT1_9, qhT1_10, qhT1_11, qhT1_12, qhT1_13, qhT1_14⟩ := cells15 hT1
              obtain ⟨qt7_0, qt7_1, qt7_2, qt7_3, qt7_4, qt7_5, qt7_6, qt7_7⟩ := cells8 t7
              obtain ⟨qt17_0, qt17_1, qt17_2, qt17_3, qt17_4, qt17_5⟩ := cells6 t17
              obtain ⟨qt25_0, qt25_1, qt25_2, qt25_3, qt25_4, qt25_5, qt25_6, qt25_7⟩ := cells8 t25
              obtain ⟨qt27_0, qt27_1, qt27_2, qt27_3, qt27_4, qt27_5, qt27_6, qt27_7⟩ := cells8 t27
              clear hz hg3 hs3
              obtain ⟨bt32, hbt32⟩ : ∃ b, b = w76.heap.size := ⟨_, rfl⟩
              rw [← hbt32] at t32 ⊢
              clear hbt32
              clear qhT0_0 qhT0_1 qhT0_2 qhT0_3 qhT0_4 qhT0_5 qhT0_6 qhT0_7 qhT0_8 qhT1_0 qhT1_1 qhT1_2 qhT1_3 qhT1_4 qhT1_5 qhT1_6 qhT1_7 qhT1_8 qhT1_9 qhT1_10 qhT1_11 qhT1_12 qhT1_13 qhT1_14 qt7_0 qt7_1 qt7_2 qt7_3 qt7_4 qt7_5 qt7_6 qt7_7 qt17_0 qt17_1 qt17_2 qt17_3 qt17_4 qt17_5 qt25_0 qt25_1 qt25_2 qt25_3 qt25_4 qt25_5 qt25_6 qt25_7 qt27_0 qt27_1 qt27_2 qt27_3 qt27_4 qt27_5 qt27_6 qt27_7
              obtain ⟨qt32_0, qt32_1, qt32_2⟩ := cells3 t32
              by_cases hk0 : k = 0
              · as_aux_lemma =>
                have hkz : decide ((0 : Int) < (k : Int)) = false := decide_eq_false (by omega)
                have hkn : decide (0 < k) = false := decide_eq_false (by omega)
                clear hk0
                go_wp2
                have zt32 : bt32 < w77.heap.size := (Array.getElem?_eq_some_iff.1 t32).1
                refine wp_region_growG (by kernel_rfl) (by kernel_rfl) ?_
                repeat (go_big_quiet_step ((first | fail)))
                refine wpQuiet_nil (gw_out ?_)
                intro wq hS
                replace hBd := hBd.call hS rfl
                have t32q := blkb t32 hS
                have u32 : wq.cell? ⟨bt32, 1, none⟩ = some (.int .i64 e.t) := cell_at t32q rfl
                go_wp2
                go_roundw
                case rel => exact ⟨k + 1, by omega, by go_num, by rw [hat.out], hBd⟩
                case measure => simp [intOf]; omega
              · as_aux_lemma =>
                have hkz : decide ((0 : Int) < (k : Int)) = true := decide_eq_true (by omega)
                have hkn : decide (0 < k) = true := decide_eq_true (by omega)
                have hk1 : (1 : Int) ≤ (k : Int) := by omega
                have hk2 : (k : Int) - 1 < (L.length : Int) := by omega
                have hmx : ((k : Int) - 1).toNat = k - 1 := by omega
                have hwm : IntKind.i64.wrap ((k : Int) - 1) = (k : Int) - 1 := by rw [IntKind.wrap_i64]; omega
                obtain ⟨b2, off2, e', hA2, hx2, hb2, hc2⟩ := RdL.at (k := k - 1) (show RdL w77 3 Ent.enc (some ⟨b, off, none⟩) L from hdd) Ent.len (by omega)
                cases hA2
                have p2 : w77.cell? ⟨b, off + (k - 1) * 3 + 2, none⟩ = some (.string e'.c) := hc2 2 (by omega)
                have hnc := HADJ.out (k - 1) e' e hx2 (by rw [Nat.sub_add_cancel (by omega)]; exact HX.out)
                have hce : (e.c.toList == e'.c.toList) = false := by
                  rw [beq_eq_false_iff_ne]
                  exact fun h => hnc h.symm
                clear hc2 hx2 hnc hk0
                go_wp2
                have zt32 : bt32 < w77.heap.size := (Array.getElem?_eq_some_iff.1 t32).1
                refine wp_region_growG (by kernel_rfl) (by kernel_rfl) ?_
                repeat (go_big_quiet_step ((first | fail)))
                refine wpQuiet_nil (gw_out ?_)
                intro wq hS
                replace hBd := hBd.call hS rfl
                have t32q := blkb t32 hS
                have u32 : wq.cell? ⟨bt32, 1, none⟩ = some (.int .i64 e.t) := cell_at t32q rfl
                go_wp2
                go_roundw
                case rel => exact ⟨k + 1, by omega, by go_num, by rw [hat.out], hBd⟩
                case measure => simp [intOf]; omega
            · as_aux_lemma =>
              obtain rfl : k = L.length := by omega
              rw [HLAST.out]
              clear hkL
              clear hBd
              obtain ⟨Q, hQv, hQb, hQs, hQ1, hQ4⟩ := dia_hours HENT2.out HTT.out HZ1.out HZ4.out
              have HQB := Lib.hid hQb
              have HQS := Lib.hid hQs
              have HQ1 := Lib.hid hQ1
              have HQ4 := Lib.hid hQ4
              have H44D := Lib.hid (dia44 AD2 CD2 L HENT2.out)
              have H53D := Lib.hid (dia53 L HENT2.out)
              have H54D := Lib.hid (dia54 L HENT2.out hQv)
              clear hQv hQb hQs hQ1 hQ4
              obtain ⟨qhT0_0, qhT0_1, qhT0_2, qhT0_3, qhT0_4, qhT0_5, qhT0_6, qhT0_7, qhT0_8⟩ := cells9 hT0
              obtain ⟨qhT1_0, qhT1_1, qhT1_2, qhT1_3, qhT1_4, qhT1_5, qhT1_6, qhT1_7, qhT1_8, qhT1_9, qhT1_10, qhT1_11, qhT1_12, qhT1_13, qhT1_14⟩ := cells15 hT1
              obtain ⟨qt7_0, qt7_1, qt7_2, qt7_3, qt7_4, qt7_5, qt7_6, qt7_7⟩ := cells8 t7
              obtain ⟨qt17_0, qt17_1, qt17_2, qt17_3, qt17_4, qt17_5⟩ := cells6 t17
              obtain ⟨qt25_0, qt25_1, qt25_2, qt25_3, qt25_4, qt25_5, qt25_6, qt25_7⟩ := cells8 t25
              obtain ⟨qt27_0, qt27_1, qt27_2, qt27_3, qt27_4, qt27_5, qt27_6, qt27_7⟩ := cells8 t27
              go_wp2_with fail
              refine (H44D.out _ hdd).mono ?_
              rintro e w77 ⟨_, rfl, ⟨AK, CK, rfl, hk2⟩, hb⟩
              clear qhT0_0 qhT0_1 qhT0_2 qhT0_3 qhT0_4 qhT0_5 qhT0_6 qhT0_7 qhT0_8 qhT1_0 qhT1_1 qhT1_2 qhT1_3 qhT1_4 qhT1_5 qhT1_6 qhT1_7 qhT1_8 qhT1_9 qhT1_10 qhT1_11 qhT1_12 qhT1_13 qhT1_14 qt7_0 qt7_1 qt7_2 qt7_3 qt7_4 qt7_5 qt7_6 qt7_7 qt17_0 qt17_1 qt17_2 qt17_3 qt17_4 qt17_5 qt25_0 qt25_1 qt25_2 qt25_3 qt25_4 qt25_5 qt25_6 qt25_7 qt27_0 qt27_1 qt27_2 qt27_3 qt27_4 qt27_5 qt27_6 qt27_7
              have hS := hb
              have hB77 := hB76.call hS rfl
              replace hT0 := blkb hT0 hS
              replace hT1 := blkb hT1 hS
              replace H := H.below hS
              replace HG := HG.below hS
              replace HA := HA.below hS
              replace HS := HS.below hS
              replace HT := HT.below hS
              replace t7 := blkb t7 hS
              replace t17 := blkb t17 hS
              replace t25 := blkb t25 hS
              replace t27 := blkb t27 hS
              replace hdd := hdd.below hS
              clear hS hB76
              obtain ⟨qhT0_0, qhT0_1, qhT0_2, qhT0_3, qhT0_4, qhT0_5, qhT0_6, qhT0_7, qhT0_8⟩ := cells9 hT0
              obtain ⟨qhT1_0, qhT1_1, qhT1_2, qhT1_3, qhT1_4, qhT1_5, qhT1_6, qhT1_7, qhT1_8, qhT1_9, qhT1_10, qhT1_11, qhT1_12, qhT1_13, qhT1_14⟩ := cells15 hT1
              obtain ⟨qt7_0, qt7_1, qt7_2, qt7_3, qt7_4, qt7_5, qt7_6, qt7_7⟩ := cells8 t7
              obtain ⟨qt17_0, qt17_1, qt17_2, qt17_3, qt17_4, qt17_5⟩ := cells6 t17
              obtain ⟨qt25_0, qt25_1, qt25_2, qt25_3, qt25_4, qt25_5, qt25_6, qt25_7⟩ := cells8 t25
              obtain ⟨qt27_0, qt27_1, qt27_2, qt27_3, qt27_4, qt27_5, qt27_6, qt27_7⟩ := cells8 t27
              clear hb
              go_wp2_with fail
              refine (H53D.out _ AK CK hk2).mono ?_
              rintro e w78 ⟨x, rfl, ho, hb⟩
              clear qhT0_0 qhT0_1 qhT0_2 qhT0_3 qhT0_4 qhT0_5 qhT0_6 qhT0_7 qhT0_8 qhT1_0 qhT1_1 qhT1_2 qhT1_3 qhT1_4 qhT1_5 qhT1_6 qhT1_7 qhT1_8 qhT1_9 qhT1_10 qhT1_11 qhT1_12 qhT1_13 qhT1_14 qt7_0 qt7_1 qt7_2 qt7_3 qt7_4 qt7_5 qt7_6 qt7_7 qt17_0 qt17_1 qt17_2 qt17_3 qt17_4 qt17_5 qt25_0 qt25_1 qt25_2 qt25_3 qt25_4 qt25_5 qt25_6 qt25_7 qt27_0 qt27_1 qt27_2 qt27_3 qt27_4 qt27_5 qt27_6 qt27_7
              have hS := hb
              have hB78 := hB77.call hS rfl
              replace hT0 := blkb hT0 hS
              replace hT1 := blkb hT1 hS
              replace H := H.below hS
              replace HG := HG.below hS
              replace HA := HA.below hS
              replace HS := HS.below hS
              replace HT := HT.below hS
              replace t7 := blkb t7 hS
              replace t17 := blkb t17 hS
              replace t25 := blkb t25 hS
              replace t27 := blkb t27 hS
              replace hdd := hdd.below hS
              replace hk2 := hk2.below hS
              clear hS hB77
              obtain ⟨qhT0_0, qhT0_1, qhT0_2, qhT0_3, qhT0_4, qhT0_5, qhT0_6, qhT0_7, qhT0_8⟩ := cells9 hT0
              obtain ⟨qhT1_0, qhT1_1, qhT1_2, qhT1_3, qhT1_4, qhT1_5, qhT1_6, qhT1_7, qhT1_8, qhT1_9, qhT1_10, qhT1_11, qhT1_12, qhT1_13, qhT1_14⟩ := cells15 hT1
              obtain ⟨qt7_0, qt7_1, qt7_2, qt7_3, qt7_4, qt7_5, qt7_6, qt7_7⟩ := cells8 t7
              obtain ⟨qt17_0, qt17_1, qt17_2, qt17_3, qt17_4, qt17_5⟩ := cells6 t17
              obtain ⟨qt25_0, qt25_1, qt25_2, qt25_3, qt25_4, qt25_5, qt25_6, qt25_7⟩ := cells8 t25
              obtain ⟨qt27_0, qt27_1, qt27_2, qt27_3, qt27_4, qt27_5, qt27_6, qt27_7⟩ := cells8 t27
              clear hb
              clear hk2
              obtain ⟨AE, CE, rfl, he, _, _, _⟩ := own_form ho
              clear ho
              go_wp2_with fail
              refine (H54D.out _ AE CE he).mono ?_
              rintro e w79 ⟨rfl, hb⟩
              clear qhT0_0 qhT0_1 qhT0_2 qhT0_3 qhT0_4 qhT0_5 qhT0_6 qhT0_7 qhT0_8 qhT1_0 qhT1_1 qhT1_2 qhT1_3 qhT1_4 qhT1_5 qhT1_6 qhT1_7 qhT1_8 qhT1_9 qhT1_10 qhT1_11 qhT1_12 qhT1_13 qhT1_14 qt7_0 qt7_1 qt7_2 qt7_3 qt7_4 qt7_5 qt7_6 qt7_7 qt17_0 qt17_1 qt17_2 qt17_3 qt17_4 qt17_5 qt25_0 qt25_1 qt25_2 qt25_3 qt25_4 qt25_5 qt25_6 qt25_7 qt27_0 qt27_1 qt27_2 qt27_3 qt27_4 qt27_5 qt27_6 qt27_7
              have hS := hb
              have hB79 := hB78.call hS rfl
              replace hT0 := blkb hT0 hS
              replace hT1 := blkb hT1 hS
              replace H := H.below hS
              replace HG := HG.below hS
              replace HA := HA.below hS
              replace HS := HS.below hS
              replace HT := HT.below hS
              replace t7 := blkb t7 hS
              replace t17 := blkb t17 hS
              replace t25 := blkb t25 hS
              replace t27 := blkb t27 hS
              replace hdd := hdd.below hS
              replace he := he.below hS
              clear hS hB78
              obtain ⟨qhT0_0, qhT0_1, qhT0_2, qhT0_3, qhT0_4, qhT0_5, qhT0_6, qhT0_7, qhT0_8⟩ := cells9 hT0
              obtain ⟨qhT1_0, qhT1_1, qhT1_2, qhT1_3, qhT1_4, qhT1_5, qhT1_6, qhT1_7, qhT1_8, qhT1_9, qhT1_10, qhT1_11, qhT1_12, qhT1_13, qhT1_14⟩ := cells15 hT1
              obtain ⟨qt7_0, qt7_1, qt7_2, qt7_3, qt7_4, qt7_5, qt7_6, qt7_7⟩ := cells8 t7
              obtain ⟨qt17_0, qt17_1, qt17_2, qt17_3, qt17_4, qt17_5⟩ := cells6 t17
              obtain ⟨qt25_0, qt25_1, qt25_2, qt25_3, qt25_4, qt25_5, qt25_6, qt25_7⟩ := cells8 t25
              obtain ⟨qt27_0, qt27_1, qt27_2, qt27_3, qt27_4, qt27_5, qt27_6, qt27_7⟩ := cells8 t27
              clear hb
              clear he
              have hz : (w79.alloc (Obj.cells #[.int .i64 0, .int .i64 0, .int .i64 0, .int .i64 0, .int .i64 0, .int .i64 0] 85)).heap[w79.heap.size]? = some (Obj.cells #[.int .i64 0, .int .i64 0, .int .i64 0, .int .i64 0, .int .i64 0, .int .i64 0] 85) := heap_new rfl
              go_wp2_with (refine wpList_store_blk rfl 85 _ _ rfl w79.heap.size _ rfl rfl hz ?s1 ?s2 ?s3 ?_)
              case s1 => rfl
              case s2 => kernel_rfl
              case s3 => simp [Value.oneCell']
              intro w80 t33 hg3 hs3
              clear qhT0_0 qhT0_1 qhT0_2 qhT0_3 qhT0_4 qhT0_5 qhT0_6 qhT0_7 qhT0_8 qhT1_0 qhT1_1 qhT1_2 qhT1_3 qhT1_4 qhT1_5 qhT1_6 qhT1_7 qhT1_8 qhT1_9 qhT1_10 qhT1_11 qhT1_12 qhT1_13 qhT1_14 qt7_0 qt7_1 qt7_2 qt7_3 qt7_4 qt7_5 qt7_6 qt7_7 qt17_0 qt17_1 qt17_2 qt17_3 qt17_4 qt17_5 qt25_0 qt25_1 qt25_2 qt25_3 qt25_4 qt25_5 qt25_6 qt25_7 qt27_0 qt27_1 qt27_2 qt27_3 qt27_4 qt27_5 qt27_6 qt27_7
              have hS := ((Below.refl _ _).alloc (Nat.le_refl _) _).grown hg3 (by simp) (fun j hj => by cases hj; exact Nat.le_refl _)
              have hB80 := hB79.call hS rfl
              replace hT0 := blkb hT0 hS
              replace hT1 := blkb hT1 hS
              replace H := H.below hS
              replace HG := HG.below hS
              replace HA := HA.below hS
              replace HS := HS.below hS
              replace HT := HT.below hS
              replace t7 := blkb t7 hS
              replace t17 := blkb t17 hS
              replace t25 := blkb t25 hS
              replace t27 := blkb t27 hS
              replace hdd := hdd.below hS
              clear hS hB79
              obtain ⟨qhT0_0, qhT0_1, qhT0_2, qhT0_3, qhT0_4, qhT0_5, qhT0_6, qhT0_7, qhT0_8⟩ := cells9 hT0
              obtain ⟨qhT1_0, qhT1_1, qhT1_2, qhT1_3, qhT1_4, qhT1_5, qhT1_6, qhT1_7, qhT1_8, qhT1_9, qhT1_10, qhT1_11, qhT1_12, qhT1_13, qhT1_14⟩ := cells15 hT1
              obtain ⟨qt7_0, qt7_1, qt7_2, qt7_3, qt7_4, qt7_5, qt7_6, qt7_7⟩ := cells8 t7
              obtain ⟨qt17_0, qt17_1, qt17_2, qt17_3, qt17_4, qt17_5⟩ := cells6 t17
              obtain ⟨qt25_0, qt25_1, qt25_2, qt25_3, qt25_4, qt25_5, qt25_6, qt25_7⟩ := cells8 t25
              obtain ⟨qt27_0, qt27_1, qt27_2, qt27_3, qt27_4, qt27_5, qt27_6, qt27_7⟩ := cells8 t27
              clear hz hg3 hs3
              obtain ⟨bt33, hbt33⟩ : ∃ b, b = w79.heap.size := ⟨_, rfl⟩
              rw [← hbt33] at t33 ⊢
              clear hbt33
              obtain ⟨qt33_0, qt33_1, qt33_2, qt33_3, qt33_4, qt33_5⟩ := cells6 t33
              go_wp2
              clear qhT0_0 qhT0_1 qhT0_2 qhT0_3 qhT0_4 qhT0_5 qhT0_6 qhT0_7 qhT0_8 qhT1_0 qhT1_1 qhT1_2 qhT1_3 qhT1_4 qhT1_5 qhT1_6 qhT1_7 qhT1_8 qhT1_9 qhT1_10 qhT1_11 qhT1_12 qhT1_13 qhT1_14 qt7_0 qt7_1 qt7_2 qt7_3 qt7_4 qt7_5 qt7_6 qt7_7 qt17_0 qt17_1 qt17_2 qt17_3 qt17_4 qt17_5 qt25_0 qt25_1 qt25_2 qt25_3 qt25_4 qt25_5 qt25_6 qt25_7 qt27_0 qt27_1 qt27_2 qt27_3 qt27_4 qt27_5 qt27_6 qt27_7 qt33_0 qt33_1 qt33_2 qt33_3 qt33_4 qt33_5
              go_loopw [35, 351] (fun x i wr => ∃ k : Nat, k ≤ 6 ∧ i = .int .i64 k ∧ x = .int .i64 (Mo.psum Q k) ∧ Below w80.heap.size w80 wr) (fun _ i _ => 6 - (intOf i).toNat)
              case atStart => exact ⟨0, by omega, rfl, rfl, Below.refl _ _⟩
              case round =>
                obtain ⟨k, hk, rfl, rfl, hBk⟩ := hrel
                obtain ⟨w81, hww⟩ : ∃ W, W = wr := ⟨_, rfl⟩
                rw [← hww] at hBk ⊢
                clear hww
                have hB81 := hB80.call hBk rfl
                replace hT0 := blkb hT0 hBk
                replace hT1 := blkb hT1 hBk
                replace H := H.below hBk
                replace HG := HG.below hBk
                replace HA := HA.below hBk
                replace HS := HS.below hBk
                replace HT := HT.below hBk
                replace t7 := blkb t7 hBk
                replace t17 := blkb t17 hBk
                replace t25 := blkb t25 hBk
                replace t27 := blkb t27 hBk
                replace hdd := hdd.below hBk
                replace t33 := blkb t33 hBk
                clear hB80
                by_cases hk6 : k < 6
                · as_aux_lemma =>
                  have hix := fun W => idx85 Q k hk6 W
                  have hb2 := Mo.psum_bd Q 6400000 HQB.out (k + 1)
                  have hwr : IntKind.i64.wrap (Mo.psum Q k + Q k) = Mo.psum Q (k + 1) := by
                    show IntKind.i64.wrap (Mo.psum Q (k + 1)) = Mo.psum Q (k + 1)
                    rw [IntKind.wrap_i64]
                    omega
                  clear hb2
                  go_wp2
                  go_roundw
                  case rel => exact ⟨k + 1, by omega, by go_num, rfl, hBk⟩
                  case measure => simp [intOf]; omega
                · as_aux_lemma =>
                  obtain rfl : k = 6 := by omega
                  rw [HQS.out]
                  have hQ1 := HQ1.out
                  have hQ4 := HQ4.out
                  clear hk6
                  obtain ⟨qhT0_0, qhT0_1, qhT0_2, qhT0_3, qhT0_4, qhT0_5, qhT0_6, qhT0_7, qhT0_8⟩ := cells9 hT0
                  obtain ⟨qhT1_0, qhT1_1, qhT1_2, qhT1_3, qhT1_4, qhT1_5, qhT1_6, qhT1_7, qhT1_8, qhT1_9, qhT1_10, qhT1_11, qhT1_12, qhT1_13, qhT1_14⟩ := cells15 hT1
                  obtain ⟨qt7_0, qt7_1, qt7_2, qt7_3, qt7_4, qt7_5, qt7_6, qt7_7⟩ := cells8 t7
                  obtain ⟨qt17_0, qt17_1, qt17_2, qt17_3, qt17_4, qt17_5⟩ := cells6 t17
                  obtain ⟨qt25_0, qt25_1, qt25_2, qt25_3, qt25_4, qt25_5, qt25_6, qt25_7⟩ := cells8 t25
                  obtain ⟨qt27_0, qt27_1, qt27_2, qt27_3, qt27_4, qt27_5, qt27_6, qt27_7⟩ := cells8 t27
                  obtain ⟨qt33_0, qt33_1, qt33_2, qt33_3, qt33_4, qt33_5⟩ := cells6 t33
                  go_wp2_with fail
                  refine (c15 _).mono ?_
                  rintro e wz ⟨rfl, hz⟩
                  go_wp2
                  go_ret
                  exact ⟨rfl, hB81.call hz rfl⟩
      · as_aux_lemma =>
        go_wp2_with fail
        refine (H14.out _ SA SN scap).mono ?_
        rintro e w48 ⟨⟨b, rfl, hb1⟩, hb⟩
        clear qhT0_0 qhT0_1 qhT0_2 qhT0_3 qhT0_4 qhT0_5 qhT0_6 qhT0_7 qhT0_8 qhT1_0 qhT1_1 qhT1_2 qhT1_3 qhT1_4 qhT1_5 qhT1_6 qhT1_7 qhT1_8 qhT1_9 qhT1_10 qhT1_11 qhT1_12 qhT1_13 qhT1_14 qt7_0 qt7_1 qt7_2 qt7_3 qt7_4 qt7_5 qt7_6 qt7_7 qt17_0 qt17_1 qt17_2 qt17_3 qt17_4 qt17_5
        have hS := hb
        have hB48 := hB47.call hS rfl
        replace hT0 := blkb hT0 hS
        replace hT1 := blkb hT1 hS
        replace H := H.below hS
        replace HG := HG.below hS
        replace HA := HA.below hS
        replace HS := HS.below hS
        replace HT := HT.below hS
        replace t7 := blkb t7 hS
        replace t17 := blkb t17 hS
        clear hS hB47
        obtain ⟨qhT0_0, qhT0_1, qhT0_2, qhT0_3, qhT0_4, qhT0_5, qhT0_6, qhT0_7, qhT0_8⟩ := cells9 hT0
        obtain ⟨qhT1_0, qhT1_1, qhT1_2, qhT1_3, qhT1_4, qhT1_5, qhT1_6, qhT1_7, qhT1_8, qhT1_9, qhT1_10, qhT1_11, qhT1_12, qhT1_13, qhT1_14⟩ := cells15 hT1
        obtain ⟨qt7_0, qt7_1, qt7_2, qt7_3, qt7_4, qt7_5, qt7_6, qt7_7⟩ := cells8 t7
        obtain ⟨qt17_0, qt17_1, qt17_2, qt17_3, qt17_4, qt17_5⟩ := cells6 t17
        clear hb
        cases b
        case false =>
         go_wp2_with fail
         refine (c15 _).mono ?_
         rintro e wz ⟨rfl, hz⟩
         go_wp2
         go_ret
         exact ⟨rfl, hB48.call hz rfl⟩
        have hsn := hb1 rfl
        clear hb1
        go_wp2_with fail
        refine (H20.out _ (by omega) HA).mono ?_
        rintro e w49 ⟨rfl, hb⟩
        clear qhT0_0 qhT0_1 qhT0_2 qhT0_3 qhT0_4 qhT0_5 qhT0_6 qhT0_7 qhT0_8 qhT1_0 qhT1_1 qhT1_2 qhT1_3 qhT1_4 qhT1_5 qhT1_6 qhT1_7 qhT1_8 qhT1_9 qhT1_10 qhT1_11 qhT1_12 qhT1_13 qhT1_14 qt7_0 qt7_1 qt7_2 qt7_3 qt7_4 qt7_5 qt7_6 qt7_7 qt17_0 qt17_1 qt17_2 qt17_3 qt17_4 qt17_5
        have hS := hb
        have hB49 := hB48.call hS rfl
        replace hT0 := blkb hT0 hS
        replace hT1 := blkb hT1 hS
        replace H := H.below hS
        replace HG := HG.below hS
        replace HA := HA.below hS
        replace HS := HS.below hS
        replace HT := HT.below hS
        replace t7 := blkb t7 hS
        replace t17 := blkb t17 hS
        clear hS hB48
        obtain ⟨qhT0_0, qhT0_1, qhT0_2, qhT0_3, qhT0_4, qhT0_5, qhT0_6, qhT0_7, qhT0_8⟩ := cells9 hT0
        obtain ⟨qhT1_0, qhT1_1, qhT1_2, qhT1_3, qhT1_4, qhT1_5, qhT1_6, qhT1_7, qhT1_8, qhT1_9, qhT1_10, qhT1_11, qhT1_12, qhT1_13, qhT1_14⟩ := cells15 hT1
        obtain ⟨qt7_0, qt7_1, qt7_2, qt7_3, qt7_4, qt7_5, qt7_6, qt7_7⟩ := cells8 t7
        obtain ⟨qt17_0, qt17_1, qt17_2, qt17_3, qt17_4, qt17_5⟩ := cells6 t17
        clear hb
        by_cases hE20 : E20 = 0
        rotate_left
        · as_aux_lemma =>
          have hq : (E20 != 0) = true := by simpa using hE20
          go_wp2_with fail
          refine (c15 _).mono ?_
          rintro e wz ⟨rfl, hz⟩
          go_wp2
          go_ret
          exact ⟨rfl, hB49.call hz rfl⟩
        have QE20 := Lib.hid hE20
        subst hE20
        go_wp2_with fail
        refine (c37 S HN2 shcap _).mono ?_
        rintro e w' ⟨⟨b, rfl, hb2⟩, rfl⟩
        cases b
        case false =>
         go_wp2_with fail
         refine (c15 _).mono ?_
         rintro e wz ⟨rfl, hz⟩
         go_wp2
         go_ret
         exact ⟨rfl, hB49.call hz rfl⟩
        have hshn := hb2 rfl
        clear hb2
        go_wp2_with fail
        refine (c37 T TN wcap _).mono ?_
        rintro e w' ⟨⟨b, rfl, hb3⟩, rfl⟩
        cases b
        case false =>
         go_wp2_with fail
         refine (c15 _).mono ?_
         rintro e wz ⟨rfl, hz⟩
         go_wp2
         go_ret
         exact ⟨rfl, hB49.call hz rfl⟩
        have hwen := hb3 rfl
        clear hb3
        go_wp2_with fail
        refine (H48.out _ (by omega) HS).mono ?_
        rintro e w50 ⟨rfl, hb⟩
        clear qhT0_0 qhT0_1 qhT0_2 qhT0_3 qhT0_4 qhT0_5 qhT0_6 qhT0_7 qhT0_8 qhT1_0 qhT1_1 qhT1_2 qhT1_3 qhT1_4 qhT1_5 qhT1_6 qhT1_7 qhT1_8 qhT1_9 qhT1_10 qhT1_11 qhT1_12 qhT1_13 qhT1_14 qt7_0 qt7_1 qt7_2 qt7_3 qt7_4 qt7_5 qt7_6 qt7_7 qt17_0 qt17_1 qt17_2 qt17_3 qt17_4 qt17_5
        have hS := hb
        have hB50 := hB49.call hS rfl
        replace hT0 := blkb hT0 hS
        replace hT1 := blkb hT1 hS
        replace H := H.below hS
        replace HG := HG.below hS
        replace HA := HA.below hS
        replace HS := HS.below hS
        replace HT := HT.below hS
        replace t7 := blkb t7 hS
        replace t17 := blkb t17 hS
        clear hS hB49
        obtain ⟨qhT0_0, qhT0_1, qhT0_2, qhT0_3, qhT0_4, qhT0_5, qhT0_6, qhT0_7, qhT0_8⟩ := cells9 hT0
        obtain ⟨qhT1_0, qhT1_1, qhT1_2, qhT1_3, qhT1_4, qhT1_5, qhT1_6, qhT1_7, qhT1_8, qhT1_9, qhT1_10, qhT1_11, qhT1_12, qhT1_13, qhT1_14⟩ := cells15 hT1
        obtain ⟨qt7_0, qt7_1, qt7_2, qt7_3, qt7_4, qt7_5, qt7_6, qt7_7⟩ := cells8 t7
        obtain ⟨qt17_0, qt17_1, qt17_2, qt17_3, qt17_4, qt17_5⟩ := cells6 t17
        clear hb
        by_cases hE48 : E48 = 0
        rotate_left
        · as_aux_lemma =>
          have hq : (E48 != 0) = true := by simpa using hE48
          go_wp2_with fail
          refine (c15 _).mono ?_
          rintro e wz ⟨rfl, hz⟩
          go_wp2
          go_ret
          exact ⟨rfl, hB50.call hz rfl⟩
        have QE48 := Lib.hid hE48
        subst hE48
        go_wp2_with fail
        refine (H48b.out _ (by omega) HT).mono ?_
        rintro e w51 ⟨rfl, hb⟩
        clear qhT0_0 qhT0_1 qhT0_2 qhT0_3 qhT0_4 qhT0_5 qhT0_6 qhT0_7 qhT0_8 qhT1_0 qhT1_1 qhT1_2 qhT1_3 qhT1_4 qhT1_5 qhT1_6 qhT1_7 qhT1_8 qhT1_9 qhT1_10 qhT1_11 qhT1_12 qhT1_13 qhT1_14 qt7_0 qt7_1 qt7_2 qt7_3 qt7_4 qt7_5 qt7_6 qt7_7 qt17_0 qt17_1 qt17_2 qt17_3 qt17_4 qt17_5
        have hS := hb
        have hB51 := hB50.call hS rfl
        replace hT0 := blkb hT0 hS
        replace hT1 := blkb hT1 hS
        replace H := H.below hS
        replace HG := HG.below hS
        replace HA := HA.below hS
        replace HS := HS.below hS
        replace HT := HT.below hS
        replace t7 := blkb t7 hS
        replace t17 := blkb t17 hS
        clear hS hB50
        obtain ⟨qhT0_0, qhT0_1, qhT0_2, qhT0_3, qhT0_4, qhT0_5, qhT0_6, qhT0_7, qhT0_8⟩ := cells9 hT0
        obtain ⟨qhT1_0, qhT1_1, qhT1_2, qhT1_3, qhT1_4, qhT1_5, qhT1_6, qhT1_7, qhT1_8, qhT1_9, qhT1_10, qhT1_11, qhT1_12, qhT1_13, qhT1_14⟩ := cells15 hT1
        obtain ⟨qt7_0, qt7_1, qt7_2, qt7_3, qt7_4, qt7_5, qt7_6, qt7_7⟩ := cells8 t7
        obtain ⟨qt17_0, qt17_1, qt17_2, qt17_3, qt17_4, qt17_5⟩ := cells6 t17
        clear hb
        by_cases hE49 : E49 = 0
        rotate_left
        · as_aux_lemma =>
          have hq : (E49 != 0) = true := by simpa using hE49
          go_wp2_with fail
          refine (c15 _).mono ?_
          rintro e wz ⟨rfl, hz⟩
          go_wp2
          go_ret
          exact ⟨rfl, hB51.call hz rfl⟩
        have QE49 := Lib.hid hE49
        subst hE49
        have h33 := Mo.dia_facts (HE20.out.symm) (HE48.out.symm) (HE49.out.symm)
        obtain ⟨D, hD⟩ : ∃ D, D = Mo.diary v u sg sh we := ⟨_, rfl⟩
        have h17 := fun w1 (H1 : RdS w1 3 SA SN (sg.flatMap Sgt.enc)) => c17 SA scap sg w1 (by rw [← HSN.out]; omega) (by unfold RdL; rw [← HSN.out]; exact H1)
        have h39 := fun w1 (H1 : RdS w1 2 S HN2 (sh.flatMap Spn.enc)) => c39 S shcap sh w1 (by rw [← HHN.out]; omega) (by unfold RdL; rw [← HHN.out]; exact H1) HS0.out
        have h39b := fun w1 (H1 : RdS w1 2 T TN (we.flatMap Spn.enc)) => c39 T wcap we w1 (by rw [← HTN.out]; omega) (by unfold RdL; rw [← HTN.out]; exact H1) HT0.out
        have h40 := fun w1 AT CT AS CS AW CW (H1 : RdS w1 3 AT SN (sg.flatMap Sgt.enc)) (H2 : RdS w1 2 AS HN2 (sh.flatMap Spn.enc)) (H3 : RdS w1 2 AW TN (we.flatMap Spn.enc)) => c40 v u AT CT sg AS CS sh AW CW we w1 (by rw [← HSN.out]; omega) (by rw [← HHN.out]; omega) (by rw [← HTN.out]; omega) (by unfold RdL; rw [← HSN.out]; exact H1) (by unfold RdL; rw [← HHN.out]; exact H2) (by unfold RdL; rw [← HTN.out]; exact H3)
        rw [← HSN.out] at h17 h40
        rw [← HHN.out] at h39 h40
        rw [← HTN.out] at h39b h40
        rw [← hD] at h33 h40
        have H17 := Lib.hid h17
        have H39 := Lib.hid h39
        have H39B := Lib.hid h39b
        have H40 := Lib.hid h40
        have H33 := Lib.hid h33
        clear h17 h39 h39b h40 h33 hD
        go_wp2
        refine wp_region_plan [(0, true), (1, true), (2, true), (3, true), (4, true), (5, true), (6, true), (7, true), (9, true), (10, true), (11, true), (13, true), (14, true), (15, true), (8, false), (12, false), (16, false), (17, false), (18, true), (19, true), (20, true), (21, true), (22, true)] w51.heap.size (by kernel_rfl) (by kernel_rfl) (Nat.le_refl _) (fun _ _ d _ _ h => by cases d <;> exact h) ?_
        have hC : Below w51.heap.size w51 w51 := Below.refl _ _
        have zhT0 : w.heap.size < w51.heap.size := (Array.getElem?_eq_some_iff.1 hT0).1
        have zhT1 : w.heap.size + 1 < w51.heap.size := (Array.getElem?_eq_some_iff.1 hT1).1
        have zt7 : bt7 < w51.heap.size := (Array.getElem?_eq_some_iff.1 t7).1
        have zt17 : bt17 < w51.heap.size := (Array.getElem?_eq_some_iff.1 t17).1
        repeat (first | (refine wpPlanA_skip _ rfl (by rfl) ?_; simp only [Act.put, List.setIfInBounds_toArray, List.set_cons_zero, List.set_cons_succ]) | (refine wpPlanA_soft _ ?_ rfl (by rfl) ?_ ?_; rotate_left; (intro wq hq hcq; go_simp; first | exact rfl | exact ⟨rfl, rfl⟩); simp only [Act.put, List.setIfInBounds_toArray, List.set_cons_zero, List.set_cons_succ]))
        refine wpPlanA_hard _ rfl (by rfl) (fun w52 hS K hK => ?_)
        have hB52 := hB51.call hS rfl
        replace hC := hC.call hS rfl
        replace hT0 := blkb hT0 hS
        replace hT1 := blkb hT1 hS
        replace H := H.below hS
        replace HG := HG.below hS
        replace HA := HA.below hS
        replace HS := HS.below hS
        replace HT := HT.below hS
        replace t7 := blkb t7 hS
        replace t17 := blkb t17 hS
        clear hS hB51
        go_simp
        refine (H17.out _ HA).mono ?_
        rintro e w53 ⟨_, rfl, ⟨AT, CT, rfl, ht⟩, hb⟩
        have hB53 := hB52.call hb rfl
        replace hC := hC.call hb rfl
        replace hT0 := blkb hT0 hb
        replace hT1 := blkb hT1 hb
        replace H := H.below hb
        replace HG := HG.below hb
        replace HA := HA.below hb
        replace HS := HS.below hb
        replace HT := HT.below hb
        replace t7 := blkb t7 hb
        replace t17 := blkb t17 hb
        clear hb hB52
        refine hK _ _ hC ?_
        clear hK K
        try simp only [Act.put, List.setIfInBounds_toArray, List.set_cons_zero, List.set_cons_succ]
        refine wpPlanA_hard _ rfl (by rfl) (fun w54 hS K hK => ?_)
        have hB54 := hB53.call hS rfl
        replace hC := hC.call hS rfl
        replace hT0 := blkb hT0 hS
        replace hT1 := blkb hT1 hS
        replace H := H.below hS
        replace HG := HG.below hS
        replace HA := HA.below hS
        replace HS := HS.below hS
        replace HT := HT.below hS
        replace t7 := blkb t7 hS
        replace t17 := blkb t17 hS
        replace ht := ht.below hS
        clear hS hB53
        go_simp
        refine (H39.out _ HS).mono ?_
        rintro e w55 ⟨_, rfl, ⟨AS, CS, rfl, hts⟩, hb⟩
        have hB55 := hB54.call hb rfl
        replace hC := hC.call hb rfl
        replace hT0 := blkb hT0 hb
        replace hT1 := blkb hT1 hb
        replace H := H.below hb
        replace HG := HG.below hb
        replace HA := HA.below hb
        replace HS := HS.below hb
        replace HT := HT.below hb
        replace t7 := blkb t7 hb
        replace t17 := blkb t17 hb
        replace ht := ht.below hb
        clear hb hB54
        refine hK _ _ hC ?_
        clear hK K
        try simp only [Act.put, List.setIfInBounds_toArray, List.set_cons_zero, List.set_cons_succ]
        refine wpPlanA_hard _ rfl (by rfl) (fun w56 hS K hK => ?_)
        have hB56 := hB55.call hS rfl
        replace hC := hC.call hS rfl
        replace hT0 := blkb hT0 hS
        replace hT1 := blkb hT1 hS
        replace H := H.below hS
        replace HG := HG.below hS
        replace HA := HA.below hS
        replace HS := HS.below hS
        replace HT := HT.below hS
        replace t7 := blkb t7 hS
        replace t17 := blkb t17 hS
        replace ht := ht.below hS
        replace hts := hts.below hS
        clear hS hB55
        go_simp
        refine (H39B.out _ HT).mono ?_
        rintro e w57 ⟨_, rfl, ⟨AW, CW, rfl, htw⟩, hb⟩
        have hB57 := hB56.call hb rfl
        replace hC := hC.call hb rfl
        replace hT0 := blkb hT0 hb
        replace hT1 := blkb hT1 hb
        replace H := H.below hb
        replace HG := HG.below hb
        replace HA := HA.below hb
        replace HS := HS.below hb
        replace HT := HT.below hb
        replace t7 := blkb t7 hb
        replace t17 := blkb t17 hb
        replace ht := ht.below hb
        replace hts := hts.below hb
        clear hb hB56
        refine hK _ _ hC ?_
        clear hK K
        try simp only [Act.put, List.setIfInBounds_toArray, List.set_cons_zero, List.set_cons_succ]
        refine wpPlanA_hard _ rfl (by rfl) (fun w58 hS K hK => ?_)
        have hB58 := hB57.call hS rfl
        replace hC := hC.call hS rfl
        replace hT0 := blkb hT0 hS
        replace hT1 := blkb hT1 hS
        replace H := H.below hS
        replace HG := HG.below hS
        replace HA := HA.below hS
        replace HS := HS.below hS
        replace HT := HT.below hS
        replace t7 := blkb t7 hS
        replace t17 := blkb t17 hS
        replace ht := ht.below hS
        replace hts := hts.below hS
        replace htw := htw.below hS
        clear hS hB57
        go_simp
        refine (H40.out _ AT CT AS CS AW CW ht hts htw).mono ?_
        rintro e w59 ⟨_, rfl, ⟨AD2, CD2, rfl, hdd⟩, hb⟩
        have hB59 := hB58.call hb rfl
        replace hC := hC.call hb rfl
        replace hT0 := blkb hT0 hb
        replace hT1 := blkb hT1 hb
        replace H := H.below hb
        replace HG := HG.below hb
        replace HA := HA.below hb
        replace HS := HS.below hb
        replace HT := HT.below hb
        replace t7 := blkb t7 hb
        replace t17 := blkb t17 hb
        replace ht := ht.below hb
        replace hts := hts.below hb
        replace htw := htw.below hb
        clear hb hB58
        refine hK _ _ hC ?_
        clear hK K
        try simp only [Act.put, List.setIfInBounds_toArray, List.set_cons_zero, List.set_cons_succ]
        repeat (first | (refine wpPlanA_skip _ rfl (by rfl) ?_; simp only [Act.put, List.setIfInBounds_toArray, List.set_cons_zero, List.set_cons_succ]) | (refine wpPlanA_soft _ ?_ rfl (by rfl) ?_ ?_; rotate_left; (intro wq hq hcq; go_simp; first | exact rfl | exact ⟨rfl, rfl⟩); simp only [Act.put, List.setIfInBounds_toArray, List.set_cons_zero, List.set_cons_succ]))
        clear qhT0_0 qhT0_1 qhT0_2 qhT0_3 qhT0_4 qhT0_5 qhT0_6 qhT0_7 qhT0_8 qhT1_0 qhT1_1 qhT1_2 qhT1_3 qhT1_4 qhT1_5 qhT1_6 qhT1_7 qhT1_8 qhT1_9 qhT1_10 qhT1_11 qhT1_12 qhT1_13 qhT1_14 qt7_0 qt7_1 qt7_2 qt7_3 qt7_4 qt7_5 qt7_6 qt7_7 qt17_0 qt17_1 qt17_2 qt17_3 qt17_4 qt17_5
        refine wpPlanA_nil (fun w60 hS => ?_)
        clear hC zhT0 zhT1 zt7 zt17
        have hB60 := hB59.call hS rfl
        replace hT0 := blkb hT0 hS
        replace hT1 := blkb hT1 hS
        replace H := H.below hS
        replace HG := HG.below hS
        replace HA := HA.below hS
        replace HS := HS.below hS
        replace HT := HT.below hS
        replace t7 := blkb t7 hS
        replace t17 := blkb t17 hS
        replace ht := ht.below hS
        replace hts := hts.below hS
        replace htw := htw.below hS
        replace hdd := hdd.below hS
        clear hS hB59
        obtain ⟨qhT0_0, qhT0_1, qhT0_2, qhT0_3, qhT0_4, qhT0_5, qhT0_6, qhT0_7, qhT0_8⟩ := cells9 hT0
        obtain ⟨qhT1_0, qhT1_1, qhT1_2, qhT1_3, qhT1_4, qhT1_5, qhT1_6, qhT1_7, qhT1_8, qhT1_9, qhT1_10, qhT1_11, qhT1_12, qhT1_13, qhT1_14⟩ := cells15 hT1
        obtain ⟨qt7_0, qt7_1, qt7_2, qt7_3, qt7_4, qt7_5, qt7_6, qt7_7⟩ := cells8 t7
        obtain ⟨qt17_0, qt17_1, qt17_2, qt17_3, qt17_4, qt17_5⟩ := cells6 t17
        clear ht
        clear hts
        clear htw
        rcases H33.out with ⟨hd, hn⟩ | ⟨L, hd, hl64, hent2, hel, hadj, hlast, htt, hz1, hz4⟩
        · as_aux_lemma =>
          rw [hd]
          dsimp only
          clear hd
          go_wp2
          go_ret
          exact ⟨rfl, hB60⟩
        · as_aux_lemma =>
          rw [hd] at hdd ⊢
          dsimp only at hdd ⊢
          have HEL := Lib.hid hel
          have HADJ := Lib.hid hadj
          have HLAST := Lib.hid hlast
          have HTT := Lib.hid htt
          have HZ1 := Lib.hid hz1
          have HZ4 := Lib.hid hz4
          have HENT2 := Lib.hid hent2
          clear hd hel hadj hlast htt hz1 hz4 hent2
          go_wp2
          clear qhT0_0 qhT0_1 qhT0_2 qhT0_3 qhT0_4 qhT0_5 qhT0_6 qhT0_7 qhT0_8 qhT1_0 qhT1_1 qhT1_2 qhT1_3 qhT1_4 qhT1_5 qhT1_6 qhT1_7 qhT1_8 qhT1_9 qhT1_10 qhT1_11 qhT1_12 qhT1_13 qhT1_14 qt7_0 qt7_1 qt7_2 qt7_3 qt7_4 qt7_5 qt7_6 qt7_7 qt17_0 qt17_1 qt17_2 qt17_3 qt17_4 qt17_5
          go_loopw [30, 307] (fun x i wr => ∃ k : Nat, k ≤ L.length ∧ i = .int .i64 k ∧ x = .int .i64 (Mo.atK L k) ∧ Below w60.heap.size w60 wr) (fun _ i _ => L.length - (intOf i).toNat)
          case atStart => exact ⟨0, Nat.zero_le _, rfl, rfl, Below.refl _ _⟩
          case round =>
            obtain ⟨k, hk, rfl, rfl, hBd⟩ := hrel
            obtain ⟨w61, hww⟩ : ∃ W, W = wr := ⟨_, rfl⟩
            rw [← hww] at hBd ⊢
            clear hww
            have hB61 := hB60.call hBd rfl
            replace hT0 := blkb hT0 hBd
            replace hT1 := blkb hT1 hBd
            replace H := H.below hBd
            replace HG := HG.below hBd
            replace HA := HA.below hBd
            replace HS := HS.below hBd
            replace HT := HT.below hBd
            replace t7 := blkb t7 hBd
            replace t17 := blkb t17 hBd
            replace hdd := hdd.below hBd
            clear hB60
            by_cases hkL : k < L.length
            · as_aux_lemma =>
              obtain ⟨b, off, e, hA, hx, hb, hc⟩ := RdL.at (show RdL w61 3 Ent.enc AD2 L from hdd) Ent.len hkL
              subst hA
              have s0 : w61.cell? ⟨b, off + k * 3, none⟩ = some (.int .i64 e.f) := hc 0 (by omega)
              have s1 : w61.cell? ⟨b, off + k * 3 + 1, none⟩ = some (.int .i64 e.t) := hc 1 (by omega)
              have s2 : w61.cell? ⟨b, off + k * 3 + 2, none⟩ = some (.string e.c) := hc 2 (by omega)
              obtain ⟨g1, g2, g3, g4⟩ := HEL.out k e hx
              have hne1 : (e.f != Mo.atK L k) = false := by rw [g1]; simp
              have hne2 : decide (e.t ≤ Mo.atK L k) = false := decide_eq_false (by omega)
              have HX := Lib.hid hx
              have hat : Hid (Mo.atK L (k + 1) = e.t) := by
                show ((L[k]?).map (·.t)).getD 0 = e.t
                rw [hx]
                rfl
              clear hc hx g1
              have hz : (w61.alloc (Obj.cells #[.int .i64 0, .int .i64 0, .string ByteArray.empty] 134)).heap[w61.heap.size]? = some (Obj.cells #[.int .i64 0, .int .i64 0, .string ByteArray.empty] 134) := heap_new rfl
              go_wp2_with (refine wpList_store_blk rfl 134 _ _ rfl w61.heap.size _ rfl rfl hz ?s1 ?s2 ?s3 ?_)
              case s1 => rfl
              case s2 => kernel_rfl
              case s3 => simp [Value.oneCell']
              intro w62 t32 hg3 hs3
              have hS := ((Below.refl _ _).alloc (Nat.le_refl _) _).grown hg3 (by simp) (fun j hj => by cases hj; exact Nat.le_refl _)
              have hB62 := hB61.call hS rfl
              replace hT0 := blkb hT0 hS
              replace hT1 := blkb hT1 hS
              replace H := H.below hS
              replace HG := HG.below hS
              replace HA := HA.below hS
              replace HS := HS.below hS
              replace HT := HT.below hS
              replace t7 := blkb t7 hS
              replace t17 := blkb t17 hS
              replace hdd := hdd.below hS
              replace hBd := hBd.call hS rfl
              clear hS hB61
              obtain ⟨qhT0_0, qhT0_1, qhT0_2, qhT0_3, qhT0_4, qhT0_5, qhT0_6, qhT0_7, qhT0_8⟩ := cells9 hT0
              obtain ⟨qhT1_0, qhT1_1, qhT1_2, qhT1_3, qhT1_4, qhT1_5, qhT1_6, qhT1_7, qhT1_8, qhT1_9, qhT1_10, qhT1_11, qhT1_12, qhT1_13, qhT1_14⟩ := cells15 hT1
              obtain ⟨qt7_0, qt7_1, qt7_2, qt7_3, qt7_4, qt7_5, qt7_6, qt7_7⟩ := cells8 t7
              obtain ⟨qt17_0, qt17_1, qt17_2, qt17_3, qt17_4, qt17_5⟩ := cells6 t17
              clear hz hg3 hs3
              obtain ⟨bt32, hbt32⟩ : ∃ b, b = w61.heap.size := ⟨_, rfl⟩
              rw [← hbt32] at t32 ⊢
              clear hbt32
              clear qhT0_0 qhT0_1 qhT0_2 qhT0_3 qhT0_4 qhT0_5 qhT0_6 qhT0_7 qhT0_8 qhT1_0 qhT1_1 qhT1_2 qhT1_3 qhT1_4 qhT1_5 qhT1_6 qhT1_7 qhT1_8 qhT1_9 qhT1_10 qhT1_11 qhT1_12 qhT1_13 qhT1_14 qt7_0 qt7_1 qt7_2 qt7_3 qt7_4 qt7_5 qt7_6 qt7_7 qt17_0 qt17_1 qt17_2 qt17_3 qt17_4 qt17_5
              obtain ⟨qt32_0, qt32_1, qt32_2⟩ := cells3 t32
              by_cases hk0 : k = 0
              · as_aux_lemma =>
                have hkz : decide ((0 : Int) < (k : Int)) = false := decide_eq_false (by omega)
                have hkn : decide (0 < k) = false := decide_eq_false (by omega)
                clear hk0
                go_wp2
                have zt32 : bt32 < w62.heap.size := (Array.getElem?_eq_some_iff.1 t32).1
                refine wp_region_growG (by kernel_rfl) (by kernel_rfl) ?_
                repeat (go_big_quiet_step ((first | fail)))
                refine wpQuiet_nil (gw_out ?_)
                intro wq hS
                replace hBd := hBd.call hS rfl
                have t32q := blkb t32 hS
                have u32 : wq.cell? ⟨bt32, 1, none⟩ = some (.int .i64 e.t) := cell_at t32q rfl
                go_wp2
                go_roundw
                case rel => exact ⟨k + 1, by omega, by go_num, by rw [hat.out], hBd⟩
                case measure => simp [intOf]; omega
              · as_aux_lemma =>
                have hkz : decide ((0 : Int) < (k : Int)) = true := decide_eq_true (by omega)
                have hkn : decide (0 < k) = true := decide_eq_true (by omega)
                have hk1 : (1 : Int) ≤ (k : Int) := by omega
                have hk2 : (k : Int) - 1 < (L.length : Int) := by omega
                have hmx : ((k : Int) - 1).toNat = k - 1 := by omega
                have hwm : IntKind.i64.wrap ((k : Int) - 1) = (k : Int) - 1 := by rw [IntKind.wrap_i64]; omega
                obtain ⟨b2, off2, e', hA2, hx2, hb2, hc2⟩ := RdL.at (k := k - 1) (show RdL w62 3 Ent.enc (some ⟨b, off, none⟩) L from hdd) Ent.len (by omega)
                cases hA2
                have p2 : w62.cell? ⟨b, off + (k - 1) * 3 + 2, none⟩ = some (.string e'.c) := hc2 2 (by omega)
                have hnc := HADJ.out (k - 1) e' e hx2 (by rw [Nat.sub_add_cancel (by omega)]; exact HX.out)
                have hce : (e.c.toList == e'.c.toList) = false := by
                  rw [beq_eq_false_iff_ne]
                  exact fun h => hnc h.symm
                clear hc2 hx2 hnc hk0
                go_wp2
                have zt32 : bt32 < w62.heap.size := (Array.getElem?_eq_some_iff.1 t32).1
                refine wp_region_growG (by kernel_rfl) (by kernel_rfl) ?_
                repeat (go_big_quiet_step ((first | fail)))
                refine wpQuiet_nil (gw_out ?_)
                intro wq hS
                replace hBd := hBd.call hS rfl
                have t32q := blkb t32 hS
                have u32 : wq.cell? ⟨bt32, 1, none⟩ = some (.int .i64 e.t) := cell_at t32q rfl
                go_wp2
                go_roundw
                case rel => exact ⟨k + 1, by omega, by go_num, by rw [hat.out], hBd⟩
                case measure => simp [intOf]; omega
            · as_aux_lemma =>
              obtain rfl : k = L.length := by omega
              rw [HLAST.out]
              clear hkL
              clear hBd
              obtain ⟨Q, hQv, hQb, hQs, hQ1, hQ4⟩ := dia_hours HENT2.out HTT.out HZ1.out HZ4.out
              have HQB := Lib.hid hQb
              have HQS := Lib.hid hQs
              have HQ1 := Lib.hid hQ1
              have HQ4 := Lib.hid hQ4
              have H44D := Lib.hid (dia44 AD2 CD2 L HENT2.out)
              have H53D := Lib.hid (dia53 L HENT2.out)
              have H54D := Lib.hid (dia54 L HENT2.out hQv)
              clear hQv hQb hQs hQ1 hQ4
              obtain ⟨qhT0_0, qhT0_1, qhT0_2, qhT0_3, qhT0_4, qhT0_5, qhT0_6, qhT0_7, qhT0_8⟩ := cells9 hT0
              obtain ⟨qhT1_0, qhT1_1, qhT1_2, qhT1_3, qhT1_4, qhT1_5, qhT1_6, qhT1_7, qhT1_8, qhT1_9, qhT1_10, qhT1_11, qhT1_12, qhT1_13, qhT1_14⟩ := cells15 hT1
              obtain ⟨qt7_0, qt7_1, qt7_2, qt7_3, qt7_4, qt7_5, qt7_6, qt7_7⟩ := cells8 t7
              obtain ⟨qt17_0, qt17_1, qt17_2, qt17_3, qt17_4, qt17_5⟩ := cells6 t17
              go_wp2_with fail
              refine (H44D.out _ hdd).mono ?_
              rintro e w62 ⟨_, rfl, ⟨AK, CK, rfl, hk2⟩, hb⟩
              clear qhT0_0 qhT0_1 qhT0_2 qhT0_3 qhT0_4 qhT0_5 qhT0_6 qhT0_7 qhT0_8 qhT1_0 qhT1_1 qhT1_2 qhT1_3 qhT1_4 qhT1_5 qhT1_6 qhT1_7 qhT1_8 qhT1_9 qhT1_10 qhT1_11 qhT1_12 qhT1_13 qhT1_14 qt7_0 qt7_1 qt7_2 qt7_3 qt7_4 qt7_5 qt7_6 qt7_7 qt17_0 qt17_1 qt17_2 qt17_3 qt17_4 qt17_5
              have hS := hb
              have hB62 := hB61.call hS rfl
              replace hT0 := blkb hT0 hS
              replace hT1 := blkb hT1 hS
              replace H := H.below hS
              replace HG := HG.below hS
              replace HA := HA.below hS
              replace HS := HS.below hS
              replace HT := HT.below hS
              replace t7 := blkb t7 hS
              replace t17 := blkb t17 hS
              replace hdd := hdd.below hS
              clear hS hB61
              obtain ⟨qhT0_0, qhT0_1, qhT0_2, qhT0_3, qhT0_4, qhT0_5, qhT0_6, qhT0_7, qhT0_8⟩ := cells9 hT0
              obtain ⟨qhT1_0, qhT1_1, qhT1_2, qhT1_3, qhT1_4, qhT1_5, qhT1_6, qhT1_7, qhT1_8, qhT1_9, qhT1_10, qhT1_11, qhT1_12, qhT1_13, qhT1_14⟩ := cells15 hT1
              obtain ⟨qt7_0, qt7_1, qt7_2, qt7_3, qt7_4, qt7_5, qt7_6, qt7_7⟩ := cells8 t7
              obtain ⟨qt17_0, qt17_1, qt17_2, qt17_3, qt17_4, qt17_5⟩ := cells6 t17
              clear hb
              go_wp2_with fail
              refine (H53D.out _ AK CK hk2).mono ?_
              rintro e w63 ⟨x, rfl, ho, hb⟩
              clear qhT0_0 qhT0_1 qhT0_2 qhT0_3 qhT0_4 qhT0_5 qhT0_6 qhT0_7 qhT0_8 qhT1_0 qhT1_1 qhT1_2 qhT1_3 qhT1_4 qhT1_5 qhT1_6 qhT1_7 qhT1_8 qhT1_9 qhT1_10 qhT1_11 qhT1_12 qhT1_13 qhT1_14 qt7_0 qt7_1 qt7_2 qt7_3 qt7_4 qt7_5 qt7_6 qt7_7 qt17_0 qt17_1 qt17_2 qt17_3 qt17_4 qt17_5
              have hS := hb
              have hB63 := hB62.call hS rfl
              replace hT0 := blkb hT0 hS
              replace hT1 := blkb hT1 hS
              replace H := H.below hS
              replace HG := HG.below hS
              replace HA := HA.below hS
              replace HS := HS.below hS
              replace HT := HT.below hS
              replace t7 := blkb t7 hS
              replace t17 := blkb t17 hS
              replace hdd := hdd.below hS
              replace hk2 := hk2.below hS
              clear hS hB62
              obtain ⟨qhT0_0, qhT0_1, qhT0_2, qhT0_3, qhT0_4, qhT0_5, qhT0_6, qhT0_7, qhT0_8⟩ := cells9 hT0
              obtain ⟨qhT1_0, qhT1_1, qhT1_2, qhT1_3, qhT1_4, qhT1_5, qhT1_6, qhT1_7, qhT1_8, qhT1_9, qhT1_10, qhT1_11, qhT1_12, qhT1_13, qhT1_14⟩ := cells15 hT1
              obtain ⟨qt7_0, qt7_1, qt7_2, qt7_3, qt7_4, qt7_5, qt7_6, qt7_7⟩ := cells8 t7
              obtain ⟨qt17_0, qt17_1, qt17_2, qt17_3, qt17_4, qt17_5⟩ := cells6 t17
              clear hb
              clear hk2
              obtain ⟨AE, CE, rfl, he, _, _, _⟩ := own_form ho
              clear ho
              go_wp2_with fail
              refine (H54D.out _ AE CE he).mono ?_
              rintro e w64 ⟨rfl, hb⟩
              clear qhT0_0 qhT0_1 qhT0_2 qhT0_3 qhT0_4 qhT0_5 qhT0_6 qhT0_7 qhT0_8 qhT1_0 qhT1_1 qhT1_2 qhT1_3 qhT1_4 qhT1_5 qhT1_6 qhT1_7 qhT1_8 qhT1_9 qhT1_10 qhT1_11 qhT1_12 qhT1_13 qhT1_14 qt7_0 qt7_1 qt7_2 qt7_3 qt7_4 qt7_5 qt7_6 qt7_7 qt17_0 qt17_1 qt17_2 qt17_3 qt17_4 qt17_5
              have hS := hb
              have hB64 := hB63.call hS rfl
              replace hT0 := blkb hT0 hS
              replace hT1 := blkb hT1 hS
              replace H := H.below hS
              replace HG := HG.below hS
              replace HA := HA.below hS
              replace HS := HS.below hS
              replace HT := HT.below hS
              replace t7 := blkb t7 hS
              replace t17 := blkb t17 hS
              replace hdd := hdd.below hS
              replace he := he.below hS
              clear hS hB63
              obtain ⟨qhT0_0, qhT0_1, qhT0_2, qhT0_3, qhT0_4, qhT0_5, qhT0_6, qhT0_7, qhT0_8⟩ := cells9 hT0
              obtain ⟨qhT1_0, qhT1_1, qhT1_2, qhT1_3, qhT1_4, qhT1_5, qhT1_6, qhT1_7, qhT1_8, qhT1_9, qhT1_10, qhT1_11, qhT1_12, qhT1_13, qhT1_14⟩ := cells15 hT1
              obtain ⟨qt7_0, qt7_1, qt7_2, qt7_3, qt7_4, qt7_5, qt7_6, qt7_7⟩ := cells8 t7
              obtain ⟨qt17_0, qt17_1, qt17_2, qt17_3, qt17_4, qt17_5⟩ := cells6 t17
              clear hb
              clear he
              have hz : (w64.alloc (Obj.cells #[.int .i64 0, .int .i64 0, .int .i64 0, .int .i64 0, .int .i64 0, .int .i64 0] 85)).heap[w64.heap.size]? = some (Obj.cells #[.int .i64 0, .int .i64 0, .int .i64 0, .int .i64 0, .int .i64 0, .int .i64 0] 85) := heap_new rfl
              go_wp2_with (refine wpList_store_blk rfl 85 _ _ rfl w64.heap.size _ rfl rfl hz ?s1 ?s2 ?s3 ?_)
              case s1 => rfl
              case s2 => kernel_rfl
              case s3 => simp [Value.oneCell']
              intro w65 t33 hg3 hs3
              clear qhT0_0 qhT0_1 qhT0_2 qhT0_3 qhT0_4 qhT0_5 qhT0_6 qhT0_7 qhT0_8 qhT1_0 qhT1_1 qhT1_2 qhT1_3 qhT1_4 qhT1_5 qhT1_6 qhT1_7 qhT1_8 qhT1_9 qhT1_10 qhT1_11 qhT1_12 qhT1_13 qhT1_14 qt7_0 qt7_1 qt7_2 qt7_3 qt7_4 qt7_5 qt7_6 qt7_7 qt17_0 qt17_1 qt17_2 qt17_3 qt17_4 qt17_5
              have hS := ((Below.refl _ _).alloc (Nat.le_refl _) _).grown hg3 (by simp) (fun j hj => by cases hj; exact Nat.le_refl _)
              have hB65 := hB64.call hS rfl
              replace hT0 := blkb hT0 hS
              replace hT1 := blkb hT1 hS
              replace H := H.below hS
              replace HG := HG.below hS
              replace HA := HA.below hS
              replace HS := HS.below hS
              replace HT := HT.below hS
              replace t7 := blkb t7 hS
              replace t17 := blkb t17 hS
              replace hdd := hdd.below hS
              clear hS hB64
              obtain ⟨qhT0_0, qhT0_1, qhT0_2, qhT0_3, qhT0_4, qhT0_5, qhT0_6, qhT0_7, qhT0_8⟩ := cells9 hT0
              obtain ⟨qhT1_0, qhT1_1, qhT1_2, qhT1_3, qhT1_4, qhT1_5, qhT1_6, qhT1_7, qhT1_8, qhT1_9, qhT1_10, qhT1_11, qhT1_12, qhT1_13, qhT1_14⟩ := cells15 hT1
              obtain ⟨qt7_0, qt7_1, qt7_2, qt7_3, qt7_4, qt7_5, qt7_6, qt7_7⟩ := cells8 t7
              obtain ⟨qt17_0, qt17_1, qt17_2, qt17_3, qt17_4, qt17_5⟩ := cells6 t17
              clear hz hg3 hs3
              obtain ⟨bt33, hbt33⟩ : ∃ b, b = w64.heap.size := ⟨_, rfl⟩
              rw [← hbt33] at t33 ⊢
              clear hbt33
              obtain ⟨qt33_0, qt33_1, qt33_2, qt33_3, qt33_4, qt33_5⟩ := cells6 t33
              go_wp2
              clear qhT0_0 qhT0_1 qhT0_2 qhT0_3 qhT0_4 qhT0_5 qhT0_6 qhT0_7 qhT0_8 qhT1_0 qhT1_1 qhT1_2 qhT1_3 qhT1_4 qhT1_5 qhT1_6 qhT1_7 qhT1_8 qhT1_9 qhT1_10 qhT1_11 qhT1_12 qhT1_13 qhT1_14 qt7_0 qt7_1 qt7_2 qt7_3 qt7_4 qt7_5 qt7_6 qt7_7 qt17_0 qt17_1 qt17_2 qt17_3 qt17_4 qt17_5 qt33_0 qt33_1 qt33_2 qt33_3 qt33_4 qt33_5
              go_loopw [35, 351] (fun x i wr => ∃ k : Nat, k ≤ 6 ∧ i = .int .i64 k ∧ x = .int .i64 (Mo.psum Q k) ∧ Below w65.heap.size w65 wr) (fun _ i _ => 6 - (intOf i).toNat)
              case atStart => exact ⟨0, by omega, rfl, rfl, Below.refl _ _⟩
              case round =>
                obtain ⟨k, hk, rfl, rfl, hBk⟩ := hrel
                obtain ⟨w66, hww⟩ : ∃ W, W = wr := ⟨_, rfl⟩
                rw [← hww] at hBk ⊢
                clear hww
                have hB66 := hB65.call hBk rfl
                replace hT0 := blkb hT0 hBk
                replace hT1 := blkb hT1 hBk
                replace H := H.below hBk
                replace HG := HG.below hBk
                replace HA := HA.below hBk
                replace HS := HS.below hBk
                replace HT := HT.below hBk
                replace t7 := blkb t7 hBk
                replace t17 := blkb t17 hBk
                replace hdd := hdd.below hBk
                replace t33 := blkb t33 hBk
                clear hB65
                by_cases hk6 : k < 6
                · as_aux_lemma =>
                  have hix := fun W => idx85 Q k hk6 W
                  have hb2 := Mo.psum_bd Q 6400000 HQB.out (k + 1)
                  have hwr : IntKind.i64.wrap (Mo.psum Q k + Q k) = Mo.psum Q (k + 1) := by
                    show IntKind.i64.wrap (Mo.psum Q (k + 1)) = Mo.psum Q (k + 1)
                    rw [IntKind.wrap_i64]
                    omega
                  clear hb2
                  go_wp2
                  go_roundw
                  case rel => exact ⟨k + 1, by omega, by go_num, rfl, hBk⟩
                  case measure => simp [intOf]; omega
                · as_aux_lemma =>
                  obtain rfl : k = 6 := by omega
                  rw [HQS.out]
                  have hQ1 := HQ1.out
                  have hQ4 := HQ4.out
                  clear hk6
                  obtain ⟨qhT0_0, qhT0_1, qhT0_2, qhT0_3, qhT0_4, qhT0_5, qhT0_6, qhT0_7, qhT0_8⟩ := cells9 hT0
                  obtain ⟨qhT1_0, qhT1_1, qhT1_2, qhT1_3, qhT1_4, qhT1_5, qhT1_6, qhT1_7, qhT1_8, qhT1_9, qhT1_10, qhT1_11, qhT1_12, qhT1_13, qhT1_14⟩ := cells15 hT1
                  obtain ⟨qt7_0, qt7_1, qt7_2, qt7_3, qt7_4, qt7_5, qt7_6, qt7_7⟩ := cells8 t7
                  obtain ⟨qt17_0, qt17_1, qt17_2, qt17_3, qt17_4, qt17_5⟩ := cells6 t17
                  obtain ⟨qt33_0, qt33_1, qt33_2, qt33_3, qt33_4, qt33_5⟩ := cells6 t33
                  go_wp2_with fail
                  refine (c15 _).mono ?_
                  rintro e wz ⟨rfl, hz⟩
                  go_wp2
                  go_ret
                  exact ⟨rfl, hB66.call hz rfl⟩

end Go.Proofs.YtndhjkammoeikaaGreatDoor
/- The contract of the law SurveyMoney. -/
namespace Go.Proofs.YtndhjkammoeikaaGreatDoor
open Go.RowKit
theorem l10 (c : Con) (A : Option Addr) (cap : Nat) (l : List Ent) (v : Ves) (u : Wat) (SA : Option Addr) (scap : Nat) (sg : List Sgt) (S : Option Addr) (shcap : Nat) (sh : List Spn) (T : Option Addr) (wcap : Nat) (we : List Spn) (tk : Int) (G : Option Addr) (gcap : Nat) (rs : List Res) (w : World) (hl0 : l.length ≤ 9223372036854775807) (hg0 : rs.length ≤ 9223372036854775807) (H : RdL w 3 Ent.enc A l) (HG : RdL w 3 Res.enc G rs) (HA : RdL w 3 Sgt.enc SA sg) (HS : RdL w 2 Spn.enc S sh) (HT : RdL w 2 Spn.enc T we) (hs0 : S = none → shcap = 0) (ht0 : T = none → wcap = 0) :
    Calls Tryz.prog 10 #[.agg #[.int .i64 (c.r 0), .int .i64 (c.r 1), .int .i64 (c.r 2), .int .i64 (c.r 3), .int .i64 (c.r 4), .int .i64 (c.r 5), .int .i64 c.free, .int .i64 c.bonus, .int .i64 c.pen], .slice A l.length cap, .agg #[.int .i64 v.sx, .int .i64 v.sy, .int .i64 v.dx, .int .i64 v.dy, .int .i64 v.n, .int .i64 u.ring, .int .i64 u.speed, .int .i64 u.loss, .int .i64 u.clear, .int .i64 u.soft, .slice SA sg.length scap, .slice S sh.length shcap, .slice T we.length wcap, .int .i64 tk, .slice G rs.length gcap]] w fun en w' => en = .returned (.bool true) ∧ Below w.heap.size w w' := by
  by_cases h3 : Mo.bill c l rs = 0
  · exact l10_ok c A cap l v u SA scap sg S shcap sh T wcap we tk G gcap rs w hl0 hg0 H HG HA HS HT hs0 ht0 h3
  · exact l10_bad c A cap l v u SA scap sg S shcap sh T wcap we tk G gcap rs w hl0 hg0 H HG HA HS HT hs0 ht0 h3
end Go.Proofs.YtndhjkammoeikaaGreatDoor
