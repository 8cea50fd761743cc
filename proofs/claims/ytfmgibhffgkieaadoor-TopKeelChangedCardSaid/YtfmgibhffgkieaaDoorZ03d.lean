/- A part of the proofs about traces, tides and horizons: contracts of functions and plain laws (K20, K21, K22, K23, K24, K25). -/
import Derived.Test.YtfmgibhffgkieaaDoorZ03c
set_option linter.all false
namespace Go.Proofs.YtfmgibhffgkieaaDoor
open Go.RowKit Go.Shelf
set_option maxHeartbeats 8000000
set_option maxRecDepth 100000
attribute [local go_sem] Oper.semAt_some
theorem info60 : (Tryd.prog.info? 60).map (fun i => (i.zero, i.size, i.bytes)) = some (some (.agg #[.int .i64 0, .int .i64 0]), 2, 16) := by kernel_rfl
theorem run_app_none3 {w : World} (t ty e : TypeId) (i : TypeInfo) (ht : Tryd.prog.underlying t = some (.slice e)) (hi : Tryd.prog.info? e = some i) {base size : Nat} (v : Value) (n : Nat) (xs : List Value) (hown : w.ownsRow base e size v n xs) (c : Nat) :
  (Builtin.append_ #[t, t] ty #[v, .slice none 0 c]).run Tryd.prog w = .ok v w := by
 rcases hown.2 with ⟨rfl, rfl⟩ | ⟨g, cap, cur, rfl, _, _, hnc, _⟩
 ·simp [Builtin.append_, run_underlying ht, sizeOf, typeInfo, hi, Builtin.lenOf, Builtin.firstCells]
 ·simp [Builtin.append_, run_underlying ht, sizeOf, typeInfo, hi, Builtin.lenOf, Builtin.firstCells, hnc, storeCells]
theorem own_base3 {w : World} {base e size : Nat} {v : Value} {n : Nat} {xs : List Value} (h : w.ownsRow base e size v n xs) : ∀ g, v.ownBlock = some g → base ≤ g := by
 intro g hg
 rcases h.2 with ⟨rfl, _⟩ | ⟨g', cap, cur, rfl, hb, _⟩
 ·cases hg
 ·cases hg; exact hb
theorem wp_appT {o : Oper} {a : Act} {w : World} {K : Act → World → Prop} {Q : Exit → Act → World → Prop} (s x : Operand)
  (ho : o.op = .call { callee := .builtin .append, args := #[s, x], argTypes := #[32, 32] })
  (base : Nat) (v : Value) (n : Nat) (xs ys : List Td) (hs : a.eval s = v) (hown : w.ownsRow base 60 2 v n (xs.flatMap Td.enc))
  (A : Option Addr) (m c : Nat) (hx : a.eval x = .slice A m c) (H : RdT w A m ys) (hnm : n + m ≤ 1000000) (hbase : base ≤ w.heap.size)
  (h : ∀ v' w', w'.ownsRow base 60 2 v' (n + m) ((xs ++ ys).flatMap Td.enc) → Below base w w' → K (a.put o.dst v') w') : o.wp Tryd.prog a w K Q := by
 obtain ⟨i0, hi, hz0, hz1, hz2⟩ := info_parts info60
 have e : (xs ++ ys).flatMap Td.enc = xs.flatMap Td.enc ++ ys.flatMap Td.enc := by simp
 cases A with
 | none =>
  obtain rfl : m = 0 := RdS.none0 H
  have hy : ys.flatMap Td.enc = [] := List.eq_nil_of_length_eq_zero (by simpa using H.1)
  have hr := run_app_none3 32 o.type 60 i0 Tryd.underlying32 hi v n _ hown c
  have := h v w (by rw [e, hy, Nat.add_zero, List.append_nil]; exact hown) (Below.refl _ _)
  unfold Oper.wp
  simp only [execOp, ho, resolve, invoke, builtin, Sem.run_bind, Sem.run_pure, Result.andThen_ok, List.map_toArray, List.map_cons, List.map_nil, hs, hx, hr]
  exact this
 | some ad =>
  refine wp_append_own w s x 32 ho base 60 i0 (.agg #[.int .i64 0, .int .i64 0]) 2 16 Tryd.underlying32 hi hz0 hz1 hz2 rfl (by decide) v n _ hs hown ad m c _ hx (by rw [H.1]) (RdS.news H (by omega)) ?_ (by unfold maxLen; omega) ?_ hbase (fun v' w' h2 h3 _ => h v' w' (by rw [e]; exact h2) ((Below.refl _ _).grown h3 hbase (own_base3 hown)))
  ·intro u hu; simp [Td.enc] at hu; obtain ⟨q, _, rfl | rfl | rfl⟩ := hu <;> rfl
  ·omega
theorem c7 (nma nmb : ByteArray) (ea eb : Int) (A B : Option Addr) (na nb ca cb : Nat) (s : Int) (l : List Int) (w : World) (h16 : ∀ W, Below w.heap.size w W → Calls Tryd.prog 16 #[.agg #[.string nma, .int .i64 ea, .slice A na ca], .agg #[.string nmb, .int .i64 eb, .slice B nb cb], .int .i64 s, .int .i64 (-1000)] W fun en w' => en = .returned (.int .i64 0) ∧ Below W.heap.size W w') (h17 : ∀ W, Below w.heap.size w W → Calls Tryd.prog 17 #[.agg #[.string nma, .int .i64 ea, .slice A na ca], .agg #[.string nmb, .int .i64 eb, .slice B nb cb], .int .i64 s] W fun en w' => ∃ V c, en = .returned (.slice V l.length c) ∧ RdI w' V l.length l ∧ Below W.heap.size W w') :
  Calls Tryd.prog 7 #[.agg #[.string nma, .int .i64 ea, .slice A na ca], .agg #[.string nmb, .int .i64 eb, .slice B nb cb], .int .i64 s] w fun en w' => ∃ V c, en = .returned (.tuple #[.slice V l.length c, .int .i64 0]) ∧ RdI w' V l.length l ∧ Below w.heap.size w w' := by
 have H16 := Lib.hid h16
 have H17 := Lib.hid h17
 clear h16 h17
 obtain ⟨w0, hW⟩ : ∃ W, W = (w.alloc (Obj.cells #[.string nma, .int .i64 ea, .slice A na ca] 40)).alloc (Obj.cells #[.string nmb, .int .i64 eb, .slice B nb cb] 40) := ⟨_, rfl⟩
 have hT0 : w0.heap[w.heap.size]? = some (.cells #[.string nma, .int .i64 ea, .slice A na ca] 40 (0, 0)) := by rw [hW]; exact heap_old (by simp <;> omega) (heap_new (by simp))
 have hT1 : w0.heap[w.heap.size + 1]? = some (.cells #[.string nmb, .int .i64 eb, .slice B nb cb] 40 (0, 0)) := by rw [hW]; exact heap_new (by simp)
 have hB0 : Below w.heap.size w w0 := by rw [hW]; exact (((Below.refl _ _).alloc (by first | omega | (simp <;> omega)) _).alloc (by first | omega | (simp <;> omega)) _)
 go_enter Tryd.func7, Tryd.ntmps7
 go_wp2_with fail
 rw [← hW]
 clear hW
 have qhT0_0 : w0.cell? ⟨w.heap.size, 0, none⟩ = some (.string nma) := cell_at hT0 rfl
 have qhT0_1 : w0.cell? ⟨w.heap.size, 1, none⟩ = some (.int .i64 ea) := cell_at hT0 rfl
 have qhT0_2 : w0.cell? ⟨w.heap.size, 2, none⟩ = some (.slice A na ca) := cell_at hT0 rfl
 have qhT1_0 : w0.cell? ⟨w.heap.size + 1, 0, none⟩ = some (.string nmb) := cell_at hT1 rfl
 have qhT1_1 : w0.cell? ⟨w.heap.size + 1, 1, none⟩ = some (.int .i64 eb) := cell_at hT1 rfl
 have qhT1_2 : w0.cell? ⟨w.heap.size + 1, 2, none⟩ = some (.slice B nb cb) := cell_at hT1 rfl
 go_wp2_with fail
 refine (H16.out _ hB0).mono ?_
 rintro e w1 ⟨rfl, hb⟩
 clear qhT0_0 qhT0_1 qhT0_2 qhT1_0 qhT1_1 qhT1_2
 have hS := hb
 have hB1 := hB0.call hS rfl
 replace hT0 := blkb hT0 hS
 replace hT1 := blkb hT1 hS
 clear hS hB0
 have qhT0_0 : w1.cell? ⟨w.heap.size, 0, none⟩ = some (.string nma) := cell_at hT0 rfl
 have qhT0_1 : w1.cell? ⟨w.heap.size, 1, none⟩ = some (.int .i64 ea) := cell_at hT0 rfl
 have qhT0_2 : w1.cell? ⟨w.heap.size, 2, none⟩ = some (.slice A na ca) := cell_at hT0 rfl
 have qhT1_0 : w1.cell? ⟨w.heap.size + 1, 0, none⟩ = some (.string nmb) := cell_at hT1 rfl
 have qhT1_1 : w1.cell? ⟨w.heap.size + 1, 1, none⟩ = some (.int .i64 eb) := cell_at hT1 rfl
 have qhT1_2 : w1.cell? ⟨w.heap.size + 1, 2, none⟩ = some (.slice B nb cb) := cell_at hT1 rfl
 clear hb
 go_wp2_with fail
 refine (H17.out _ hB1).mono ?_
 rintro e w2 ⟨V, c, rfl, hR, hb⟩
 clear qhT0_0 qhT0_1 qhT0_2 qhT1_0 qhT1_1 qhT1_2
 have hS := hb
 have hB2 := hB1.call hS rfl
 replace hT0 := blkb hT0 hS
 replace hT1 := blkb hT1 hS
 clear hS hB1
 have qhT0_0 : w2.cell? ⟨w.heap.size, 0, none⟩ = some (.string nma) := cell_at hT0 rfl
 have qhT0_1 : w2.cell? ⟨w.heap.size, 1, none⟩ = some (.int .i64 ea) := cell_at hT0 rfl
 have qhT0_2 : w2.cell? ⟨w.heap.size, 2, none⟩ = some (.slice A na ca) := cell_at hT0 rfl
 have qhT1_0 : w2.cell? ⟨w.heap.size + 1, 0, none⟩ = some (.string nmb) := cell_at hT1 rfl
 have qhT1_1 : w2.cell? ⟨w.heap.size + 1, 1, none⟩ = some (.int .i64 eb) := cell_at hT1 rfl
 have qhT1_2 : w2.cell? ⟨w.heap.size + 1, 2, none⟩ = some (.slice B nb cb) := cell_at hT1 rfl
 clear hb
 go_wp2
 go_ret2
 exact ⟨V, c, rfl, hR, hB2⟩
theorem c8 (nm : ByteArray) (e : Int) (A : Option Addr) (n cap : Nat) (l : List Td) (w : World) (hl : n ≤ 1000000) (H : RdT w A n l) :
  Calls Tryd.prog 8 #[.string nm, .int .i64 e, .slice A n cap] w fun en w' => ∃ V c, en = .returned (.agg #[.string nm, .int .i64 e, .slice V n c]) ∧ RdT w' V n l ∧ Below w.heap.size w w' := by
 go_enter Tryd.func8, Tryd.ntmps8
 have hb0 : Below w.heap.size w ((w.alloc (Obj.cells #[.string ByteArray.empty, .int .i64 0, .slice none 0 0] 40)).alloc (Obj.cells #[] 60)) := ((Below.refl _ _).alloc (Nat.le_refl _) _).alloc (by simp) _
 have hown : ((w.alloc (Obj.cells #[.string ByteArray.empty, .int .i64 0, .slice none 0 0] 40)).alloc (Obj.cells #[] 60)).ownsRow (w.heap.size + 1) 60 2 (.slice (some ⟨w.heap.size + 1, 0, none⟩) 0 0) 0 (([] : List Td).flatMap Td.enc) :=
  ⟨rfl, .inr ⟨w.heap.size + 1, 0, #[], rfl, Nat.le_refl _, heap_new (by simp), Nat.le_refl _, by decide, rfl, rfl⟩⟩
 have hk : ((w.alloc (Obj.cells #[.string ByteArray.empty, .int .i64 0, .slice none 0 0] 40)).alloc (Obj.cells #[] 60)).heap[w.heap.size]? = some (.cells #[.string ByteArray.empty, .int .i64 0, .slice none 0 0] 40 (0, 0)) := heap_old (by simp) (heap_new rfl)
 have H1 := H.below hb0
 go_wp2_with (at_builtin; refine wpList_plain rfl fun K hK => wp_appT _ _ rfl (w.heap.size + 1) _ 0 [] l rfl hown A n cap rfl H1 (by omega) (by simp) (fun v' w2 h2 h3 => ?_); obtain ⟨A2, cap2, rfl, hr2, hc2, _⟩ := own_form h2; refine hK _ _ (stopq ?_))
 unfold StopQ
 have hk2 := (h3.block w.heap.size (by omega)).trans hk
 have hB2 : Below w.heap.size w w2 := hb0.trans (h3.mono (by omega))
 have q0 := cell_at hk2 (i := 0) rfl
 have q1 := cell_at hk2 (i := 1) rfl
 have q2 := cell_at hk2 (i := 2) rfl
 have f0 := free_at hk2 (i := 0)
 have f1 := free_at hk2 (i := 1)
 have f2 := free_at hk2 (i := 2)
 have l0 := cell_lt q0
 obtain ⟨b, hb⟩ : ∃ b, b = w.heap.size := ⟨_, rfl⟩
 have HB2 := Lib.hid hB2
 have HR2 := Lib.hid hr2
 have HO2 := Lib.hid h2
 have HK2 := Lib.hid hk2
 have HB := Lib.hid hb
 rw [← hb] at q0 q1 q2 f0 f1 f2 l0 ⊢
 clear hb0 hown hk H1 h2 h3 hr2 hc2 hB2 hk2 hb H
 have HW : Hid ((((w2.setCell ⟨b, 0, none⟩ (.string nm)).setCell ⟨b, 1, none⟩ (.int .i64 e)).setCell ⟨b, 2, none⟩ (.slice A2 n cap2)).heap[b]? = some (.cells #[.string nm, .int .i64 e, .slice A2 n cap2] 40 (0, 0)) ∧ RdT (((w2.setCell ⟨b, 0, none⟩ (.string nm)).setCell ⟨b, 1, none⟩ (.int .i64 e)).setCell ⟨b, 2, none⟩ (.slice A2 n cap2)) A2 n l ∧ Below w.heap.size w (((w2.setCell ⟨b, 0, none⟩ (.string nm)).setCell ⟨b, 1, none⟩ (.int .i64 e)).setCell ⟨b, 2, none⟩ (.slice A2 n cap2))) := Lib.hid (by
  have hk := HK2.out
  have hB := HB.out
  rw [← hB] at hk
  have ho := own_setfar (own_setfar (own_setfar HO2.out (u := .string nm) (p := ⟨b, 0, none⟩) (by show b < _; omega)) (u := .int .i64 e) (p := ⟨b, 1, none⟩) (by show b < _; omega)) (u := .slice A2 n cap2) (p := ⟨b, 2, none⟩) (by show b < _; omega)
  obtain ⟨_, _, he, hr, _⟩ := own_form ho
  cases he
  refine ⟨set_blk (i := 2) (set_blk (i := 1) (set_blk (i := 0) hk _) _) _, by unfold RdT; simpa using hr, ((HB2.out.setCell (p := ⟨b, 0, none⟩) (by show _ ≤ b; omega) _).setCell (p := ⟨b, 1, none⟩) (by show _ ≤ b; omega) _).setCell (p := ⟨b, 2, none⟩) (by show _ ≤ b; omega) _⟩)
 go_wp2
 exact bodyPost_ret (results_blk rfl rfl HW.out.1 _ Tryd.underlying40 rfl (by kernel_rfl)) rfl ⟨A2, cap2, rfl, HW.out.2⟩
end Go.Proofs.YtfmgibhffgkieaaDoor
namespace Go.Proofs.YtfmgibhffgkieaaDoor
open Go.RowKit Go.Shelf
set_option maxHeartbeats 8000000
set_option maxRecDepth 100000
attribute [local go_sem] Oper.semAt_some
/-- the laid table of the header's ranges -/
def rngL : List Int := [-100000, 100000, -100000, 100000, -100000, 100000, -100000, 100000, 0, 100000, -999999999, 999999999, -999999999, 999999999, -999999999, 999999999]
def Rng (w : World) : Prop := RdS w 1 (some ⟨0, 0, none⟩) 16 (encI rngL)
theorem Rng.below {w w' : World} (h : Rng w) (hb : Below w.heap.size w w') : Rng w' := RdS.below h hb
theorem Rng.at {w : World} (h : Rng w) (j : Nat) (hj : j < 16) : w.cell? ⟨0, j, none⟩ = (rngL[j]?).map (Value.int .i64) := by
 obtain ⟨b, off, he, _, hc⟩ := h.2 (by omega)
 cases he
 have := hc j (by simpa [encI, rngL] using hj)
 rw [Nat.zero_add] at this
 rw [this]; simp [encI]
theorem Rng.pos {w : World} (h : Rng w) : 0 < w.heap.size := by
 obtain ⟨b, off, he, hb, _⟩ := h.2 (by omega)
 cases he
 exact hb
/-- a trace: its offset and its samples; not dead -/
structure Tc where
 off : Int
 A : Option Addr
 cap : Nat
 fs : List Nat
def Tc.enc (x : Tc) : List Value := [.int .i64 0, .int .i64 0, .int .i64 0, .int .i64 0, .int .i64 x.off, .int .i64 0, .int .i64 0, .int .i64 0, .bool false, .slice x.A x.fs.length x.cap]
theorem Tc.len (x : Tc) : x.enc.length = 10 := rfl
def RdC (w : World) (A : Option Addr) (n : Nat) (l : List Tc) : Prop := RdS w 10 A n (l.flatMap Tc.enc)
theorem RdC.below {w w' : World} {A : Option Addr} {n : Nat} {l : List Tc} (h : RdC w A n l) (hb : Below w.heap.size w w') : RdC w' A n l := RdS.below h hb
theorem RdC.len {w : World} {A : Option Addr} {n : Nat} {l : List Tc} (h : RdC w A n l) : l.length = n := by
 have := h.1
 rw [flat_len Tc.len] at this
 omega
theorem RdC.at {w : World} {A : Option Addr} {n : Nat} {l : List Tc} (h : RdC w A n l) {k : Nat} {x : Tc} (hx : l[k]? = some x) :
  ∃ b off, A = some ⟨b, off, none⟩ ∧ b < w.heap.size ∧ (w.cell? ⟨b, off + k * 10, none⟩ = some (.int .i64 0) ∧ w.cell? ⟨b, off + k * 10 + 1, none⟩ = some (.int .i64 0) ∧ w.cell? ⟨b, off + k * 10 + 2, none⟩ = some (.int .i64 0) ∧ w.cell? ⟨b, off + k * 10 + 3, none⟩ = some (.int .i64 0) ∧ w.cell? ⟨b, off + k * 10 + 4, none⟩ = some (.int .i64 x.off) ∧ w.cell? ⟨b, off + k * 10 + 5, none⟩ = some (.int .i64 0) ∧ w.cell? ⟨b, off + k * 10 + 6, none⟩ = some (.int .i64 0) ∧ w.cell? ⟨b, off + k * 10 + 7, none⟩ = some (.int .i64 0) ∧ w.cell? ⟨b, off + k * 10 + 8, none⟩ = some (.bool false) ∧ w.cell? ⟨b, off + k * 10 + 9, none⟩ = some (.slice x.A x.fs.length x.cap)) := by
 have hk : k < l.length := (List.getElem?_eq_some_iff.1 hx).1
 obtain ⟨b, off, hA, hb, hc⟩ := RdS.at h (by rw [h.len] at hk; exact hk)
 have key : ∀ j, j < 10 → w.cell? ⟨b, off + k * 10 + j, none⟩ = x.enc[j]? := fun j hj => by
  have h0 := hc j hj
  rw [flat_get (size := 10) (enc := Tc.enc) Tc.len l k j x hx hj] at h0
  simpa [Nat.add_assoc] using h0
 exact ⟨b, off, hA, hb, by simpa [Tc.enc] using key 0 (by omega), by simpa [Tc.enc] using key 1 (by omega), by simpa [Tc.enc] using key 2 (by omega), by simpa [Tc.enc] using key 3 (by omega), by simpa [Tc.enc] using key 4 (by omega), by simpa [Tc.enc] using key 5 (by omega), by simpa [Tc.enc] using key 6 (by omega), by simpa [Tc.enc] using key 7 (by omega), by simpa [Tc.enc] using key 8 (by omega), by simpa [Tc.enc] using key 9 (by omega)⟩
def OkC (w : World) (M : Nat) (l : List Tc) : Prop := ∀ x ∈ l, RdS w 1 x.A x.fs.length (encF x.fs) ∧ (∀ v ∈ x.fs, v = 0 ∨ v = 1065353216) ∧ x.fs.length = M ∧ 0 ≤ x.off ∧ x.off ≤ 10000
theorem OkC.below {w w' : World} {M : Nat} {l : List Tc} (h : OkC w M l) (hb : Below w.heap.size w w') : OkC w' M l := fun x hx => ⟨RdS.below (h x hx).1 hb, (h x hx).2⟩
theorem idx46_0 (d : Int) (w : World) : (Instr.index 46 (.agg #[.int .i64 0, .int .i64 0, .int .i64 0, .int .i64 0, .int .i64 d, .int .i64 0, .int .i64 0, .int .i64 0]) (.int .i64 0)).run Tryd.prog w = .ok (.int .i64 0) w := by kernel_rfl
theorem idx46_1 (d : Int) (w : World) : (Instr.index 46 (.agg #[.int .i64 0, .int .i64 0, .int .i64 0, .int .i64 0, .int .i64 d, .int .i64 0, .int .i64 0, .int .i64 0]) (.int .i64 1)).run Tryd.prog w = .ok (.int .i64 0) w := by kernel_rfl
theorem idx46_2 (d : Int) (w : World) : (Instr.index 46 (.agg #[.int .i64 0, .int .i64 0, .int .i64 0, .int .i64 0, .int .i64 d, .int .i64 0, .int .i64 0, .int .i64 0]) (.int .i64 2)).run Tryd.prog w = .ok (.int .i64 0) w := by kernel_rfl
theorem idx46_3 (d : Int) (w : World) : (Instr.index 46 (.agg #[.int .i64 0, .int .i64 0, .int .i64 0, .int .i64 0, .int .i64 d, .int .i64 0, .int .i64 0, .int .i64 0]) (.int .i64 3)).run Tryd.prog w = .ok (.int .i64 0) w := by kernel_rfl
theorem idx46_4 (d : Int) (w : World) : (Instr.index 46 (.agg #[.int .i64 0, .int .i64 0, .int .i64 0, .int .i64 0, .int .i64 d, .int .i64 0, .int .i64 0, .int .i64 0]) (.int .i64 4)).run Tryd.prog w = .ok (.int .i64 d) w := by kernel_rfl
theorem idx46_5 (d : Int) (w : World) : (Instr.index 46 (.agg #[.int .i64 0, .int .i64 0, .int .i64 0, .int .i64 0, .int .i64 d, .int .i64 0, .int .i64 0, .int .i64 0]) (.int .i64 5)).run Tryd.prog w = .ok (.int .i64 0) w := by kernel_rfl
theorem idx46_6 (d : Int) (w : World) : (Instr.index 46 (.agg #[.int .i64 0, .int .i64 0, .int .i64 0, .int .i64 0, .int .i64 d, .int .i64 0, .int .i64 0, .int .i64 0]) (.int .i64 6)).run Tryd.prog w = .ok (.int .i64 0) w := by kernel_rfl
theorem idx46_7 (d : Int) (w : World) : (Instr.index 46 (.agg #[.int .i64 0, .int .i64 0, .int .i64 0, .int .i64 0, .int .i64 d, .int .i64 0, .int .i64 0, .int .i64 0]) (.int .i64 7)).run Tryd.prog w = .ok (.int .i64 0) w := by kernel_rfl
theorem c47 (d : Int) (A : Option Addr) (n cap : Nat) (fs : List Nat) (w : World) (hn : n ≤ 1024) (hd : 0 ≤ d ∧ d ≤ 100000) (HR : Rng w) (H : RdS w 1 A n (encF fs)) (hr : ∀ v ∈ fs, v = 0 ∨ v = 1065353216) :
  Calls Tryd.prog 47 #[.agg #[.int .i64 0, .int .i64 0, .int .i64 0, .int .i64 0, .int .i64 d, .int .i64 0, .int .i64 0, .int .i64 0, .bool false, .slice A n cap]] w fun en w' => en = .returned (.int .i64 0) ∧ Below w.heap.size w w' := by
 have K30 : Hid (∀ W, RdS W 1 A n (encF fs) → Calls Tryd.prog 30 #[.slice A n cap] W fun en w' => en = .returned (.int .i64 0) ∧ Below W.heap.size W w') := Lib.hid (fun W h => c30 A n cap fs W hn h hr)
 have hr0 := Lib.hid (range_ok (lo := 0) (hi := 100000) (n := d) hd)
 clear hr hd hn
 obtain ⟨w0, hW⟩ : ∃ W, W = w.alloc (Obj.cells #[.int .i64 0, .int .i64 0, .int .i64 0, .int .i64 0, .int .i64 d, .int .i64 0, .int .i64 0, .int .i64 0, .bool false, .slice A n cap] 48) := ⟨_, rfl⟩
 have hT0 : w0.heap[w.heap.size]? = some (.cells #[.int .i64 0, .int .i64 0, .int .i64 0, .int .i64 0, .int .i64 d, .int .i64 0, .int .i64 0, .int .i64 0, .bool false, .slice A n cap] 48 (0, 0)) := by rw [hW]; exact heap_new (by simp)
 have hB0 : Below w.heap.size w w0 := by rw [hW]; exact ((Below.refl _ _).alloc (by first | omega | (simp <;> omega)) _)
 replace HR := HR.below hB0
 replace H := H.below hB0
 go_enter Tryd.func47, Tryd.ntmps47
 go_wp2_with fail
 rw [← hW]
 clear hW
 have qhT0_0 : w0.cell? ⟨w.heap.size, 0, none⟩ = some (.int .i64 0) := cell_at hT0 rfl
 have qhT0_1 : w0.cell? ⟨w.heap.size, 1, none⟩ = some (.int .i64 0) := cell_at hT0 rfl
 have qhT0_2 : w0.cell? ⟨w.heap.size, 2, none⟩ = some (.int .i64 0) := cell_at hT0 rfl
 have qhT0_3 : w0.cell? ⟨w.heap.size, 3, none⟩ = some (.int .i64 0) := cell_at hT0 rfl
 have qhT0_4 : w0.cell? ⟨w.heap.size, 4, none⟩ = some (.int .i64 d) := cell_at hT0 rfl
 have qhT0_5 : w0.cell? ⟨w.heap.size, 5, none⟩ = some (.int .i64 0) := cell_at hT0 rfl
 have qhT0_6 : w0.cell? ⟨w.heap.size, 6, none⟩ = some (.int .i64 0) := cell_at hT0 rfl
 have qhT0_7 : w0.cell? ⟨w.heap.size, 7, none⟩ = some (.int .i64 0) := cell_at hT0 rfl
 have qhT0_8 : w0.cell? ⟨w.heap.size, 8, none⟩ = some (.bool false) := cell_at hT0 rfl
 have qhT0_9 : w0.cell? ⟨w.heap.size, 9, none⟩ = some (.slice A n cap) := cell_at hT0 rfl
 go_wp2_with fail
 go_loopw [8] (fun iv wr => ∃ k : Nat, k ≤ 8 ∧ iv = .int .i64 k ∧ Below w0.heap.size w0 wr) (fun iv _ => 8 - (intOf iv).toNat)
 case atStart => exact ⟨0, Nat.zero_le _, rfl, Below.refl _ _⟩
 case round =>
  obtain ⟨k, hk, rfl, hbr⟩ := hrel
  obtain ⟨w1, hww⟩ : ∃ W, W = wr := ⟨_, rfl⟩
  subst hww
  have hB1 := hB0.call hbr rfl
  replace hT0 := blkb hT0 hbr
  replace HR := HR.below hbr
  replace H := H.below hbr
  clear hB0
  have qhT0_0 : w1.cell? ⟨w.heap.size, 0, none⟩ = some (.int .i64 0) := cell_at hT0 rfl
  have qhT0_1 : w1.cell? ⟨w.heap.size, 1, none⟩ = some (.int .i64 0) := cell_at hT0 rfl
  have qhT0_2 : w1.cell? ⟨w.heap.size, 2, none⟩ = some (.int .i64 0) := cell_at hT0 rfl
  have qhT0_3 : w1.cell? ⟨w.heap.size, 3, none⟩ = some (.int .i64 0) := cell_at hT0 rfl
  have qhT0_4 : w1.cell? ⟨w.heap.size, 4, none⟩ = some (.int .i64 d) := cell_at hT0 rfl
  have qhT0_5 : w1.cell? ⟨w.heap.size, 5, none⟩ = some (.int .i64 0) := cell_at hT0 rfl
  have qhT0_6 : w1.cell? ⟨w.heap.size, 6, none⟩ = some (.int .i64 0) := cell_at hT0 rfl
  have qhT0_7 : w1.cell? ⟨w.heap.size, 7, none⟩ = some (.int .i64 0) := cell_at hT0 rfl
  have qhT0_8 : w1.cell? ⟨w.heap.size, 8, none⟩ = some (.bool false) := cell_at hT0 rfl
  have qhT0_9 : w1.cell? ⟨w.heap.size, 9, none⟩ = some (.slice A n cap) := cell_at hT0 rfl
  by_cases hlt : k < 8
  rotate_left
  ·
    obtain rfl : k = 8 := by omega
    clear hlt
    go_wp2_with fail
    refine wp_region_plan [(0, true), (1, true), (2, true), (3, true), (4, true), (5, true), (6, true), (7, true), (9, true), (10, true), (8, false), (11, false), (12, false), (13, false), (14, true)] w1.heap.size (by kernel_rfl) (by kernel_rfl) (Nat.le_refl _) (fun _ _ d _ _ h => by cases d <;> exact h) ?_
    have hC : Below w1.heap.size w1 w1 := Below.refl _ _
    have zhT0 : w.heap.size < w1.heap.size := (Array.getElem?_eq_some_iff.1 hT0).1
    repeat (first | (refine wpPlanA_skip _ rfl (by rfl) ?_; simp only [Act.put, List.setIfInBounds_toArray, List.set_cons_zero, List.set_cons_succ]) | (refine wpPlanA_soft _ ?_ rfl (by rfl) ?_ ?_; rotate_left; (intro wq hq hcq; go_simp; first | exact rfl | exact ⟨rfl, rfl⟩); simp only [Act.put, List.setIfInBounds_toArray, List.set_cons_zero, List.set_cons_succ]))
    refine wpPlanA_hard _ rfl (by rfl) (fun w2 hS K hK => ?_)
    have hB2 := hB1.call hS rfl
    replace hC := hC.call hS rfl
    replace hT0 := blkb hT0 hS
    replace HR := HR.below hS
    replace H := H.below hS
    replace hbr := hbr.call hS rfl
    clear hS hB1
    go_simp
    refine (c31 false 24 _).mono ?_
    rintro e w' ⟨rfl, rfl⟩
    refine hK _ _ hC ?_
    clear hK K
    try simp only [Act.put, List.setIfInBounds_toArray, List.set_cons_zero, List.set_cons_succ]
    rw [show Mo.when false 24 = 0 from rfl]
    repeat (first | (refine wpPlanA_skip _ rfl (by rfl) ?_; simp only [Act.put, List.setIfInBounds_toArray, List.set_cons_zero, List.set_cons_succ]) | (refine wpPlanA_soft _ ?_ rfl (by rfl) ?_ ?_; rotate_left; (intro wq hq hcq; go_simp; first | exact rfl | exact ⟨rfl, rfl⟩); simp only [Act.put, List.setIfInBounds_toArray, List.set_cons_zero, List.set_cons_succ]))
    refine wpPlanA_hard _ rfl (by rfl) (fun w3 hS K hK => ?_)
    have hB3 := hB2.call hS rfl
    replace hC := hC.call hS rfl
    replace hT0 := blkb hT0 hS
    replace HR := HR.below hS
    replace H := H.below hS
    replace hbr := hbr.call hS rfl
    clear hS hB2
    go_simp
    refine (K30.out _ H).mono ?_
    rintro e w4 ⟨rfl, hb⟩
    have hB4 := hB3.call hb rfl
    replace hC := hC.call hb rfl
    replace hT0 := blkb hT0 hb
    replace HR := HR.below hb
    replace H := H.below hb
    replace hbr := hbr.call hb rfl
    clear hb hB3
    refine hK _ _ hC ?_
    clear hK K
    try simp only [Act.put, List.setIfInBounds_toArray, List.set_cons_zero, List.set_cons_succ]
    repeat (first | (refine wpPlanA_skip _ rfl (by rfl) ?_; simp only [Act.put, List.setIfInBounds_toArray, List.set_cons_zero, List.set_cons_succ]) | (refine wpPlanA_soft _ ?_ rfl (by rfl) ?_ ?_; rotate_left; (intro wq hq hcq; go_simp; first | exact rfl | exact ⟨rfl, rfl⟩); simp only [Act.put, List.setIfInBounds_toArray, List.set_cons_zero, List.set_cons_succ]))
    refine wpPlanA_hard _ rfl (by rfl) (fun w5 hS K hK => ?_)
    have hB5 := hB4.call hS rfl
    replace hC := hC.call hS rfl
    replace hT0 := blkb hT0 hS
    replace HR := HR.below hS
    replace H := H.below hS
    replace hbr := hbr.call hS rfl
    clear hS hB4
    go_simp
    have hb : Below w5.heap.size w5 (w5.alloc (Obj.cells #[.int .i64 0, .int .i64 0] 36)) := (Below.refl _ _).alloc (Nat.le_refl _) _
    have hN : (w5.alloc (Obj.cells #[.int .i64 0, .int .i64 0] 36)).heap[w5.heap.size]? = some (Obj.cells #[.int .i64 0, .int .i64 0] 36) := heap_new rfl
    refine hK _ _ (hC.alloc hC.size _) ?_
    clear hK K
    replace hC := hC.call hb rfl
    have hB6 := hB5.call hb rfl
    replace hT0 := blkb hT0 hb
    replace HR := HR.below hb
    replace H := H.below hb
    replace hbr := hbr.call hb rfl
    clear hb hB5
    generalize hWn : w5.alloc (Obj.cells #[.int .i64 0, .int .i64 0] 36) = w6 at hN hC hB6 hT0 HR H hbr ⊢
    clear hWn
    generalize hWn : w5.heap.size = bhN at hN ⊢
    clear hWn
    try simp only [Act.put, List.setIfInBounds_toArray, List.set_cons_zero, List.set_cons_succ]
    repeat (first | (refine wpPlanA_skip _ rfl (by rfl) ?_; simp only [Act.put, List.setIfInBounds_toArray, List.set_cons_zero, List.set_cons_succ]) | (refine wpPlanA_soft _ ?_ rfl (by rfl) ?_ ?_; rotate_left; (intro wq hq hcq; go_simp; first | exact rfl | exact ⟨rfl, rfl⟩); simp only [Act.put, List.setIfInBounds_toArray, List.set_cons_zero, List.set_cons_succ]))
    refine wpPlanA_hard _ rfl (by rfl) (fun w7 hS K hK => ?_)
    have hB7 := hB6.call hS rfl
    replace hC := hC.call hS rfl
    replace hT0 := blkb hT0 hS
    replace HR := HR.below hS
    replace H := H.below hS
    replace hbr := hbr.call hS rfl
    replace hN := blkb hN hS
    clear hS hB6
    go_simp
    refine (c29 _ 2 2 [0, 0] _ rfl (by omega) (RdS.of_block (cs := encI [0, 0]) hN rfl)).mono ?_
    rintro e w' ⟨rfl, rfl⟩
    refine hK _ _ hC ?_
    clear hK K
    try simp only [Act.put, List.setIfInBounds_toArray, List.set_cons_zero, List.set_cons_succ]
    rw [show Mo.first [0, 0] = 0 from rfl]
    repeat (first | (refine wpPlanA_skip _ rfl (by rfl) ?_; simp only [Act.put, List.setIfInBounds_toArray, List.set_cons_zero, List.set_cons_succ]) | (refine wpPlanA_soft _ ?_ rfl (by rfl) ?_ ?_; rotate_left; (intro wq hq hcq; go_simp; first | exact rfl | exact ⟨rfl, rfl⟩); simp only [Act.put, List.setIfInBounds_toArray, List.set_cons_zero, List.set_cons_succ]))
    clear hN
    clear qhT0_0 qhT0_1 qhT0_2 qhT0_3 qhT0_4 qhT0_5 qhT0_6 qhT0_7 qhT0_8 qhT0_9
    refine wpPlanA_nil (fun w8 hS => ?_)
    clear hC zhT0
    have hB8 := hB7.call hS rfl
    replace hT0 := blkb hT0 hS
    replace HR := HR.below hS
    replace H := H.below hS
    replace hbr := hbr.call hS rfl
    clear hS hB7
    have qhT0_0 : w8.cell? ⟨w.heap.size, 0, none⟩ = some (.int .i64 0) := cell_at hT0 rfl
    have qhT0_1 : w8.cell? ⟨w.heap.size, 1, none⟩ = some (.int .i64 0) := cell_at hT0 rfl
    have qhT0_2 : w8.cell? ⟨w.heap.size, 2, none⟩ = some (.int .i64 0) := cell_at hT0 rfl
    have qhT0_3 : w8.cell? ⟨w.heap.size, 3, none⟩ = some (.int .i64 0) := cell_at hT0 rfl
    have qhT0_4 : w8.cell? ⟨w.heap.size, 4, none⟩ = some (.int .i64 d) := cell_at hT0 rfl
    have qhT0_5 : w8.cell? ⟨w.heap.size, 5, none⟩ = some (.int .i64 0) := cell_at hT0 rfl
    have qhT0_6 : w8.cell? ⟨w.heap.size, 6, none⟩ = some (.int .i64 0) := cell_at hT0 rfl
    have qhT0_7 : w8.cell? ⟨w.heap.size, 7, none⟩ = some (.int .i64 0) := cell_at hT0 rfl
    have qhT0_8 : w8.cell? ⟨w.heap.size, 8, none⟩ = some (.bool false) := cell_at hT0 rfl
    have qhT0_9 : w8.cell? ⟨w.heap.size, 9, none⟩ = some (.slice A n cap) := cell_at hT0 rfl
    go_wp2
    go_ret
    exact ⟨rfl, hB8⟩
  obtain rfl | rfl | rfl | rfl | rfl | rfl | rfl | rfl : k = 0 ∨ k = 1 ∨ k = 2 ∨ k = 3 ∨ k = 4 ∨ k = 5 ∨ k = 6 ∨ k = 7 := by omega
  ·
    have g0 : w1.cell? ⟨0, 0, none⟩ = some (.int .i64 (-100000)) := HR.at 0 (by omega)
    have g1 : w1.cell? ⟨0, 1, none⟩ = some (.int .i64 (100000)) := HR.at 1 (by omega)
    have gp := HR.pos
    clear hlt hk
    have ix := idx46_0 d w1
    rw [show ((0 : Nat) : Int) = 0 from rfl]
    go_wp2_with fail
    clear ix
    refine wp_region_plan [(0, true), (1, true), (2, true), (3, true), (4, true), (5, true), (6, true), (7, true), (8, true), (9, false), (10, true)] w1.heap.size (by kernel_rfl) (by kernel_rfl) (Nat.le_refl _) (fun _ _ d _ _ h => by cases d <;> exact h) ?_
    have hC : Below w1.heap.size w1 w1 := Below.refl _ _
    have zhT0 : w.heap.size < w1.heap.size := (Array.getElem?_eq_some_iff.1 hT0).1
    have zg : 0 < w1.heap.size := gp
    repeat (first | (refine wpPlanA_skip _ rfl (by rfl) ?_; simp only [Act.put, List.setIfInBounds_toArray, List.set_cons_zero, List.set_cons_succ]) | (refine wpPlanA_soft _ ?_ rfl (by rfl) ?_ ?_; rotate_left; (intro wq hq hcq; go_simp; first | exact rfl | exact ⟨rfl, rfl⟩); simp only [Act.put, List.setIfInBounds_toArray, List.set_cons_zero, List.set_cons_succ]))
    refine wpPlanA_hard _ rfl (by rfl) (fun w2 hS K hK => ?_)
    have hB2 := hB1.call hS rfl
    replace hC := hC.call hS rfl
    replace hT0 := blkb hT0 hS
    replace HR := HR.below hS
    replace H := H.below hS
    replace hbr := hbr.call hS rfl
    clear hS hB1
    go_simp
    refine (c66 0 (-100000) 100000 _).mono ?_
    rintro e w' ⟨rfl, rfl⟩
    refine hK _ _ hC ?_
    clear hK K
    try simp only [Act.put, List.setIfInBounds_toArray, List.set_cons_zero, List.set_cons_succ]
    rw [show Mo.range 0 (-100000) 100000 = 0 from rfl]
    repeat (first | (refine wpPlanA_skip _ rfl (by rfl) ?_; simp only [Act.put, List.setIfInBounds_toArray, List.set_cons_zero, List.set_cons_succ]) | (refine wpPlanA_soft _ ?_ rfl (by rfl) ?_ ?_; rotate_left; (intro wq hq hcq; go_simp; first | exact rfl | exact ⟨rfl, rfl⟩); simp only [Act.put, List.setIfInBounds_toArray, List.set_cons_zero, List.set_cons_succ]))
    clear g0 g1 gp zg
    clear qhT0_0 qhT0_1 qhT0_2 qhT0_3 qhT0_4 qhT0_5 qhT0_6 qhT0_7 qhT0_8 qhT0_9
    refine wpPlanA_nil (fun w3 hS => ?_)
    clear hC zhT0
    have hB3 := hB2.call hS rfl
    replace hT0 := blkb hT0 hS
    replace HR := HR.below hS
    replace H := H.below hS
    replace hbr := hbr.call hS rfl
    clear hS hB2
    have qhT0_0 : w3.cell? ⟨w.heap.size, 0, none⟩ = some (.int .i64 0) := cell_at hT0 rfl
    have qhT0_1 : w3.cell? ⟨w.heap.size, 1, none⟩ = some (.int .i64 0) := cell_at hT0 rfl
    have qhT0_2 : w3.cell? ⟨w.heap.size, 2, none⟩ = some (.int .i64 0) := cell_at hT0 rfl
    have qhT0_3 : w3.cell? ⟨w.heap.size, 3, none⟩ = some (.int .i64 0) := cell_at hT0 rfl
    have qhT0_4 : w3.cell? ⟨w.heap.size, 4, none⟩ = some (.int .i64 d) := cell_at hT0 rfl
    have qhT0_5 : w3.cell? ⟨w.heap.size, 5, none⟩ = some (.int .i64 0) := cell_at hT0 rfl
    have qhT0_6 : w3.cell? ⟨w.heap.size, 6, none⟩ = some (.int .i64 0) := cell_at hT0 rfl
    have qhT0_7 : w3.cell? ⟨w.heap.size, 7, none⟩ = some (.int .i64 0) := cell_at hT0 rfl
    have qhT0_8 : w3.cell? ⟨w.heap.size, 8, none⟩ = some (.bool false) := cell_at hT0 rfl
    have qhT0_9 : w3.cell? ⟨w.heap.size, 9, none⟩ = some (.slice A n cap) := cell_at hT0 rfl
    go_wp2
    go_roundw
    case rel => exact ⟨1, by omega, by go_num, hbr⟩
    case measure => simp [intOf]
  ·
    have g0 : w1.cell? ⟨0, 2, none⟩ = some (.int .i64 (-100000)) := HR.at 2 (by omega)
    have g1 : w1.cell? ⟨0, 3, none⟩ = some (.int .i64 (100000)) := HR.at 3 (by omega)
    have gp := HR.pos
    clear hlt hk
    have ix := idx46_1 d w1
    rw [show ((1 : Nat) : Int) = 1 from rfl]
    go_wp2_with fail
    clear ix
    refine wp_region_plan [(0, true), (1, true), (2, true), (3, true), (4, true), (5, true), (6, true), (7, true), (8, true), (9, false), (10, true)] w1.heap.size (by kernel_rfl) (by kernel_rfl) (Nat.le_refl _) (fun _ _ d _ _ h => by cases d <;> exact h) ?_
    have hC : Below w1.heap.size w1 w1 := Below.refl _ _
    have zhT0 : w.heap.size < w1.heap.size := (Array.getElem?_eq_some_iff.1 hT0).1
    have zg : 0 < w1.heap.size := gp
    repeat (first | (refine wpPlanA_skip _ rfl (by rfl) ?_; simp only [Act.put, List.setIfInBounds_toArray, List.set_cons_zero, List.set_cons_succ]) | (refine wpPlanA_soft _ ?_ rfl (by rfl) ?_ ?_; rotate_left; (intro wq hq hcq; go_simp; first | exact rfl | exact ⟨rfl, rfl⟩); simp only [Act.put, List.setIfInBounds_toArray, List.set_cons_zero, List.set_cons_succ]))
    refine wpPlanA_hard _ rfl (by rfl) (fun w2 hS K hK => ?_)
    have hB2 := hB1.call hS rfl
    replace hC := hC.call hS rfl
    replace hT0 := blkb hT0 hS
    replace HR := HR.below hS
    replace H := H.below hS
    replace hbr := hbr.call hS rfl
    clear hS hB1
    go_simp
    refine (c66 0 (-100000) 100000 _).mono ?_
    rintro e w' ⟨rfl, rfl⟩
    refine hK _ _ hC ?_
    clear hK K
    try simp only [Act.put, List.setIfInBounds_toArray, List.set_cons_zero, List.set_cons_succ]
    rw [show Mo.range 0 (-100000) 100000 = 0 from rfl]
    repeat (first | (refine wpPlanA_skip _ rfl (by rfl) ?_; simp only [Act.put, List.setIfInBounds_toArray, List.set_cons_zero, List.set_cons_succ]) | (refine wpPlanA_soft _ ?_ rfl (by rfl) ?_ ?_; rotate_left; (intro wq hq hcq; go_simp; first | exact rfl | exact ⟨rfl, rfl⟩); simp only [Act.put, List.setIfInBounds_toArray, List.set_cons_zero, List.set_cons_succ]))
    clear g0 g1 gp zg
    clear qhT0_0 qhT0_1 qhT0_2 qhT0_3 qhT0_4 qhT0_5 qhT0_6 qhT0_7 qhT0_8 qhT0_9
    refine wpPlanA_nil (fun w3 hS => ?_)
    clear hC zhT0
    have hB3 := hB2.call hS rfl
    replace hT0 := blkb hT0 hS
    replace HR := HR.below hS
    replace H := H.below hS
    replace hbr := hbr.call hS rfl
    clear hS hB2
    have qhT0_0 : w3.cell? ⟨w.heap.size, 0, none⟩ = some (.int .i64 0) := cell_at hT0 rfl
    have qhT0_1 : w3.cell? ⟨w.heap.size, 1, none⟩ = some (.int .i64 0) := cell_at hT0 rfl
    have qhT0_2 : w3.cell? ⟨w.heap.size, 2, none⟩ = some (.int .i64 0) := cell_at hT0 rfl
    have qhT0_3 : w3.cell? ⟨w.heap.size, 3, none⟩ = some (.int .i64 0) := cell_at hT0 rfl
    have qhT0_4 : w3.cell? ⟨w.heap.size, 4, none⟩ = some (.int .i64 d) := cell_at hT0 rfl
    have qhT0_5 : w3.cell? ⟨w.heap.size, 5, none⟩ = some (.int .i64 0) := cell_at hT0 rfl
    have qhT0_6 : w3.cell? ⟨w.heap.size, 6, none⟩ = some (.int .i64 0) := cell_at hT0 rfl
    have qhT0_7 : w3.cell? ⟨w.heap.size, 7, none⟩ = some (.int .i64 0) := cell_at hT0 rfl
    have qhT0_8 : w3.cell? ⟨w.heap.size, 8, none⟩ = some (.bool false) := cell_at hT0 rfl
    have qhT0_9 : w3.cell? ⟨w.heap.size, 9, none⟩ = some (.slice A n cap) := cell_at hT0 rfl
    go_wp2
    go_roundw
    case rel => exact ⟨2, by omega, by go_num, hbr⟩
    case measure => simp [intOf]
  ·
    have g0 : w1.cell? ⟨0, 4, none⟩ = some (.int .i64 (-100000)) := HR.at 4 (by omega)
    have g1 : w1.cell? ⟨0, 5, none⟩ = some (.int .i64 (100000)) := HR.at 5 (by omega)
    have gp := HR.pos
    clear hlt hk
    have ix := idx46_2 d w1
    rw [show ((2 : Nat) : Int) = 2 from rfl]
    go_wp2_with fail
    clear ix
    refine wp_region_plan [(0, true), (1, true), (2, true), (3, true), (4, true), (5, true), (6, true), (7, true), (8, true), (9, false), (10, true)] w1.heap.size (by kernel_rfl) (by kernel_rfl) (Nat.le_refl _) (fun _ _ d _ _ h => by cases d <;> exact h) ?_
    have hC : Below w1.heap.size w1 w1 := Below.refl _ _
    have zhT0 : w.heap.size < w1.heap.size := (Array.getElem?_eq_some_iff.1 hT0).1
    have zg : 0 < w1.heap.size := gp
    repeat (first | (refine wpPlanA_skip _ rfl (by rfl) ?_; simp only [Act.put, List.setIfInBounds_toArray, List.set_cons_zero, List.set_cons_succ]) | (refine wpPlanA_soft _ ?_ rfl (by rfl) ?_ ?_; rotate_left; (intro wq hq hcq; go_simp; first | exact rfl | exact ⟨rfl, rfl⟩); simp only [Act.put, List.setIfInBounds_toArray, List.set_cons_zero, List.set_cons_succ]))
    refine wpPlanA_hard _ rfl (by rfl) (fun w2 hS K hK => ?_)
    have hB2 := hB1.call hS rfl
    replace hC := hC.call hS rfl
    replace hT0 := blkb hT0 hS
    replace HR := HR.below hS
    replace H := H.below hS
    replace hbr := hbr.call hS rfl
    clear hS hB1
    go_simp
    refine (c66 0 (-100000) 100000 _).mono ?_
    rintro e w' ⟨rfl, rfl⟩
    refine hK _ _ hC ?_
    clear hK K
    try simp only [Act.put, List.setIfInBounds_toArray, List.set_cons_zero, List.set_cons_succ]
    rw [show Mo.range 0 (-100000) 100000 = 0 from rfl]
    repeat (first | (refine wpPlanA_skip _ rfl (by rfl) ?_; simp only [Act.put, List.setIfInBounds_toArray, List.set_cons_zero, List.set_cons_succ]) | (refine wpPlanA_soft _ ?_ rfl (by rfl) ?_ ?_; rotate_left; (intro wq hq hcq; go_simp; first | exact rfl | exact ⟨rfl, rfl⟩); simp only [Act.put, List.setIfInBounds_toArray, List.set_cons_zero, List.set_cons_succ]))
    clear g0 g1 gp zg
    clear qhT0_0 qhT0_1 qhT0_2 qhT0_3 qhT0_4 qhT0_5 qhT0_6 qhT0_7 qhT0_8 qhT0_9
    refine wpPlanA_nil (fun w3 hS => ?_)
    clear hC zhT0
    have hB3 := hB2.call hS rfl
    replace hT0 := blkb hT0 hS
    replace HR := HR.below hS
    replace H := H.below hS
    replace hbr := hbr.call hS rfl
    clear hS hB2
    have qhT0_0 : w3.cell? ⟨w.heap.size, 0, none⟩ = some (.int .i64 0) := cell_at hT0 rfl
    have qhT0_1 : w3.cell? ⟨w.heap.size, 1, none⟩ = some (.int .i64 0) := cell_at hT0 rfl
    have qhT0_2 : w3.cell? ⟨w.heap.size, 2, none⟩ = some (.int .i64 0) := cell_at hT0 rfl
    have qhT0_3 : w3.cell? ⟨w.heap.size, 3, none⟩ = some (.int .i64 0) := cell_at hT0 rfl
    have qhT0_4 : w3.cell? ⟨w.heap.size, 4, none⟩ = some (.int .i64 d) := cell_at hT0 rfl
    have qhT0_5 : w3.cell? ⟨w.heap.size, 5, none⟩ = some (.int .i64 0) := cell_at hT0 rfl
    have qhT0_6 : w3.cell? ⟨w.heap.size, 6, none⟩ = some (.int .i64 0) := cell_at hT0 rfl
    have qhT0_7 : w3.cell? ⟨w.heap.size, 7, none⟩ = some (.int .i64 0) := cell_at hT0 rfl
    have qhT0_8 : w3.cell? ⟨w.heap.size, 8, none⟩ = some (.bool false) := cell_at hT0 rfl
    have qhT0_9 : w3.cell? ⟨w.heap.size, 9, none⟩ = some (.slice A n cap) := cell_at hT0 rfl
    go_wp2
    go_roundw
    case rel => exact ⟨3, by omega, by go_num, hbr⟩
    case measure => simp [intOf]
  ·
    have g0 : w1.cell? ⟨0, 6, none⟩ = some (.int .i64 (-100000)) := HR.at 6 (by omega)
    have g1 : w1.cell? ⟨0, 7, none⟩ = some (.int .i64 (100000)) := HR.at 7 (by omega)
    have gp := HR.pos
    clear hlt hk
    have ix := idx46_3 d w1
    rw [show ((3 : Nat) : Int) = 3 from rfl]
    go_wp2_with fail
    clear ix
    refine wp_region_plan [(0, true), (1, true), (2, true), (3, true), (4, true), (5, true), (6, true), (7, true), (8, true), (9, false), (10, true)] w1.heap.size (by kernel_rfl) (by kernel_rfl) (Nat.le_refl _) (fun _ _ d _ _ h => by cases d <;> exact h) ?_
    have hC : Below w1.heap.size w1 w1 := Below.refl _ _
    have zhT0 : w.heap.size < w1.heap.size := (Array.getElem?_eq_some_iff.1 hT0).1
    have zg : 0 < w1.heap.size := gp
    repeat (first | (refine wpPlanA_skip _ rfl (by rfl) ?_; simp only [Act.put, List.setIfInBounds_toArray, List.set_cons_zero, List.set_cons_succ]) | (refine wpPlanA_soft _ ?_ rfl (by rfl) ?_ ?_; rotate_left; (intro wq hq hcq; go_simp; first | exact rfl | exact ⟨rfl, rfl⟩); simp only [Act.put, List.setIfInBounds_toArray, List.set_cons_zero, List.set_cons_succ]))
    refine wpPlanA_hard _ rfl (by rfl) (fun w2 hS K hK => ?_)
    have hB2 := hB1.call hS rfl
    replace hC := hC.call hS rfl
    replace hT0 := blkb hT0 hS
    replace HR := HR.below hS
    replace H := H.below hS
    replace hbr := hbr.call hS rfl
    clear hS hB1
    go_simp
    refine (c66 0 (-100000) 100000 _).mono ?_
    rintro e w' ⟨rfl, rfl⟩
    refine hK _ _ hC ?_
    clear hK K
    try simp only [Act.put, List.setIfInBounds_toArray, List.set_cons_zero, List.set_cons_succ]
    rw [show Mo.range 0 (-100000) 100000 = 0 from rfl]
    repeat (first | (refine wpPlanA_skip _ rfl (by rfl) ?_; simp only [Act.put, List.setIfInBounds_toArray, List.set_cons_zero, List.set_cons_succ]) | (refine wpPlanA_soft _ ?_ rfl (by rfl) ?_ ?_; rotate_left; (intro wq hq hcq; go_simp; first | exact rfl | exact ⟨rfl, rfl⟩); simp only [Act.put, List.setIfInBounds_toArray, List.set_cons_zero, List.set_cons_succ]))
    clear g0 g1 gp zg
    clear qhT0_0 qhT0_1 qhT0_2 qhT0_3 qhT0_4 qhT0_5 qhT0_6 qhT0_7 qhT0_8 qhT0_9
    refine wpPlanA_nil (fun w3 hS => ?_)
    clear hC zhT0
    have hB3 := hB2.call hS rfl
    replace hT0 := blkb hT0 hS
    replace HR := HR.below hS
    replace H := H.below hS
    replace hbr := hbr.call hS rfl
    clear hS hB2
    have qhT0_0 : w3.cell? ⟨w.heap.size, 0, none⟩ = some (.int .i64 0) := cell_at hT0 rfl
    have qhT0_1 : w3.cell? ⟨w.heap.size, 1, none⟩ = some (.int .i64 0) := cell_at hT0 rfl
    have qhT0_2 : w3.cell? ⟨w.heap.size, 2, none⟩ = some (.int .i64 0) := cell_at hT0 rfl
    have qhT0_3 : w3.cell? ⟨w.heap.size, 3, none⟩ = some (.int .i64 0) := cell_at hT0 rfl
    have qhT0_4 : w3.cell? ⟨w.heap.size, 4, none⟩ = some (.int .i64 d) := cell_at hT0 rfl
    have qhT0_5 : w3.cell? ⟨w.heap.size, 5, none⟩ = some (.int .i64 0) := cell_at hT0 rfl
    have qhT0_6 : w3.cell? ⟨w.heap.size, 6, none⟩ = some (.int .i64 0) := cell_at hT0 rfl
    have qhT0_7 : w3.cell? ⟨w.heap.size, 7, none⟩ = some (.int .i64 0) := cell_at hT0 rfl
    have qhT0_8 : w3.cell? ⟨w.heap.size, 8, none⟩ = some (.bool false) := cell_at hT0 rfl
    have qhT0_9 : w3.cell? ⟨w.heap.size, 9, none⟩ = some (.slice A n cap) := cell_at hT0 rfl
    go_wp2
    go_roundw
    case rel => exact ⟨4, by omega, by go_num, hbr⟩
    case measure => simp [intOf]
  ·
    have g0 : w1.cell? ⟨0, 8, none⟩ = some (.int .i64 (0)) := HR.at 8 (by omega)
    have g1 : w1.cell? ⟨0, 9, none⟩ = some (.int .i64 (100000)) := HR.at 9 (by omega)
    have gp := HR.pos
    clear hlt hk
    have ix := idx46_4 d w1
    rw [show ((4 : Nat) : Int) = 4 from rfl]
    go_wp2_with fail
    clear ix
    refine wp_region_plan [(0, true), (1, true), (2, true), (3, true), (4, true), (5, true), (6, true), (7, true), (8, true), (9, false), (10, true)] w1.heap.size (by kernel_rfl) (by kernel_rfl) (Nat.le_refl _) (fun _ _ d _ _ h => by cases d <;> exact h) ?_
    have hC : Below w1.heap.size w1 w1 := Below.refl _ _
    have zhT0 : w.heap.size < w1.heap.size := (Array.getElem?_eq_some_iff.1 hT0).1
    have zg : 0 < w1.heap.size := gp
    repeat (first | (refine wpPlanA_skip _ rfl (by rfl) ?_; simp only [Act.put, List.setIfInBounds_toArray, List.set_cons_zero, List.set_cons_succ]) | (refine wpPlanA_soft _ ?_ rfl (by rfl) ?_ ?_; rotate_left; (intro wq hq hcq; go_simp; first | exact rfl | exact ⟨rfl, rfl⟩); simp only [Act.put, List.setIfInBounds_toArray, List.set_cons_zero, List.set_cons_succ]))
    refine wpPlanA_hard _ rfl (by rfl) (fun w2 hS K hK => ?_)
    have hB2 := hB1.call hS rfl
    replace hC := hC.call hS rfl
    replace hT0 := blkb hT0 hS
    replace HR := HR.below hS
    replace H := H.below hS
    replace hbr := hbr.call hS rfl
    clear hS hB1
    go_simp
    refine (c66 d (0) 100000 _).mono ?_
    rintro e w' ⟨rfl, rfl⟩
    refine hK _ _ hC ?_
    clear hK K
    try simp only [Act.put, List.setIfInBounds_toArray, List.set_cons_zero, List.set_cons_succ]
    rw [hr0.out]
    repeat (first | (refine wpPlanA_skip _ rfl (by rfl) ?_; simp only [Act.put, List.setIfInBounds_toArray, List.set_cons_zero, List.set_cons_succ]) | (refine wpPlanA_soft _ ?_ rfl (by rfl) ?_ ?_; rotate_left; (intro wq hq hcq; go_simp; first | exact rfl | exact ⟨rfl, rfl⟩); simp only [Act.put, List.setIfInBounds_toArray, List.set_cons_zero, List.set_cons_succ]))
    clear g0 g1 gp zg
    clear qhT0_0 qhT0_1 qhT0_2 qhT0_3 qhT0_4 qhT0_5 qhT0_6 qhT0_7 qhT0_8 qhT0_9
    refine wpPlanA_nil (fun w3 hS => ?_)
    clear hC zhT0
    have hB3 := hB2.call hS rfl
    replace hT0 := blkb hT0 hS
    replace HR := HR.below hS
    replace H := H.below hS
    replace hbr := hbr.call hS rfl
    clear hS hB2
    have qhT0_0 : w3.cell? ⟨w.heap.size, 0, none⟩ = some (.int .i64 0) := cell_at hT0 rfl
    have qhT0_1 : w3.cell? ⟨w.heap.size, 1, none⟩ = some (.int .i64 0) := cell_at hT0 rfl
    have qhT0_2 : w3.cell? ⟨w.heap.size, 2, none⟩ = some (.int .i64 0) := cell_at hT0 rfl
    have qhT0_3 : w3.cell? ⟨w.heap.size, 3, none⟩ = some (.int .i64 0) := cell_at hT0 rfl
    have qhT0_4 : w3.cell? ⟨w.heap.size, 4, none⟩ = some (.int .i64 d) := cell_at hT0 rfl
    have qhT0_5 : w3.cell? ⟨w.heap.size, 5, none⟩ = some (.int .i64 0) := cell_at hT0 rfl
    have qhT0_6 : w3.cell? ⟨w.heap.size, 6, none⟩ = some (.int .i64 0) := cell_at hT0 rfl
    have qhT0_7 : w3.cell? ⟨w.heap.size, 7, none⟩ = some (.int .i64 0) := cell_at hT0 rfl
    have qhT0_8 : w3.cell? ⟨w.heap.size, 8, none⟩ = some (.bool false) := cell_at hT0 rfl
    have qhT0_9 : w3.cell? ⟨w.heap.size, 9, none⟩ = some (.slice A n cap) := cell_at hT0 rfl
    go_wp2
    go_roundw
    case rel => exact ⟨5, by omega, by go_num, hbr⟩
    case measure => simp [intOf]
  ·
    have g0 : w1.cell? ⟨0, 10, none⟩ = some (.int .i64 (-999999999)) := HR.at 10 (by omega)
    have g1 : w1.cell? ⟨0, 11, none⟩ = some (.int .i64 (999999999)) := HR.at 11 (by omega)
    have gp := HR.pos
    clear hlt hk
    have ix := idx46_5 d w1
    rw [show ((5 : Nat) : Int) = 5 from rfl]
    go_wp2_with fail
    clear ix
    refine wp_region_plan [(0, true), (1, true), (2, true), (3, true), (4, true), (5, true), (6, true), (7, true), (8, true), (9, false), (10, true)] w1.heap.size (by kernel_rfl) (by kernel_rfl) (Nat.le_refl _) (fun _ _ d _ _ h => by cases d <;> exact h) ?_
    have hC : Below w1.heap.size w1 w1 := Below.refl _ _
    have zhT0 : w.heap.size < w1.heap.size := (Array.getElem?_eq_some_iff.1 hT0).1
    have zg : 0 < w1.heap.size := gp
    repeat (first | (refine wpPlanA_skip _ rfl (by rfl) ?_; simp only [Act.put, List.setIfInBounds_toArray, List.set_cons_zero, List.set_cons_succ]) | (refine wpPlanA_soft _ ?_ rfl (by rfl) ?_ ?_; rotate_left; (intro wq hq hcq; go_simp; first | exact rfl | exact ⟨rfl, rfl⟩); simp only [Act.put, List.setIfInBounds_toArray, List.set_cons_zero, List.set_cons_succ]))
    refine wpPlanA_hard _ rfl (by rfl) (fun w2 hS K hK => ?_)
    have hB2 := hB1.call hS rfl
    replace hC := hC.call hS rfl
    replace hT0 := blkb hT0 hS
    replace HR := HR.below hS
    replace H := H.below hS
    replace hbr := hbr.call hS rfl
    clear hS hB1
    go_simp
    refine (c66 0 (-999999999) 999999999 _).mono ?_
    rintro e w' ⟨rfl, rfl⟩
    refine hK _ _ hC ?_
    clear hK K
    try simp only [Act.put, List.setIfInBounds_toArray, List.set_cons_zero, List.set_cons_succ]
    rw [show Mo.range 0 (-999999999) 999999999 = 0 from rfl]
    repeat (first | (refine wpPlanA_skip _ rfl (by rfl) ?_; simp only [Act.put, List.setIfInBounds_toArray, List.set_cons_zero, List.set_cons_succ]) | (refine wpPlanA_soft _ ?_ rfl (by rfl) ?_ ?_; rotate_left; (intro wq hq hcq; go_simp; first | exact rfl | exact ⟨rfl, rfl⟩); simp only [Act.put, List.setIfInBounds_toArray, List.set_cons_zero, List.set_cons_succ]))
    clear g0 g1 gp zg
    clear qhT0_0 qhT0_1 qhT0_2 qhT0_3 qhT0_4 qhT0_5 qhT0_6 qhT0_7 qhT0_8 qhT0_9
    refine wpPlanA_nil (fun w3 hS => ?_)
    clear hC zhT0
    have hB3 := hB2.call hS rfl
    replace hT0 := blkb hT0 hS
    replace HR := HR.below hS
    replace H := H.below hS
    replace hbr := hbr.call hS rfl
    clear hS hB2
    have qhT0_0 : w3.cell? ⟨w.heap.size, 0, none⟩ = some (.int .i64 0) := cell_at hT0 rfl
    have qhT0_1 : w3.cell? ⟨w.heap.size, 1, none⟩ = some (.int .i64 0) := cell_at hT0 rfl
    have qhT0_2 : w3.cell? ⟨w.heap.size, 2, none⟩ = some (.int .i64 0) := cell_at hT0 rfl
    have qhT0_3 : w3.cell? ⟨w.heap.size, 3, none⟩ = some (.int .i64 0) := cell_at hT0 rfl
    have qhT0_4 : w3.cell? ⟨w.heap.size, 4, none⟩ = some (.int .i64 d) := cell_at hT0 rfl
    have qhT0_5 : w3.cell? ⟨w.heap.size, 5, none⟩ = some (.int .i64 0) := cell_at hT0 rfl
    have qhT0_6 : w3.cell? ⟨w.heap.size, 6, none⟩ = some (.int .i64 0) := cell_at hT0 rfl
    have qhT0_7 : w3.cell? ⟨w.heap.size, 7, none⟩ = some (.int .i64 0) := cell_at hT0 rfl
    have qhT0_8 : w3.cell? ⟨w.heap.size, 8, none⟩ = some (.bool false) := cell_at hT0 rfl
    have qhT0_9 : w3.cell? ⟨w.heap.size, 9, none⟩ = some (.slice A n cap) := cell_at hT0 rfl
    go_wp2
    go_roundw
    case rel => exact ⟨6, by omega, by go_num, hbr⟩
    case measure => simp [intOf]
  ·
    have g0 : w1.cell? ⟨0, 12, none⟩ = some (.int .i64 (-999999999)) := HR.at 12 (by omega)
    have g1 : w1.cell? ⟨0, 13, none⟩ = some (.int .i64 (999999999)) := HR.at 13 (by omega)
    have gp := HR.pos
    clear hlt hk
    have ix := idx46_6 d w1
    rw [show ((6 : Nat) : Int) = 6 from rfl]
    go_wp2_with fail
    clear ix
    refine wp_region_plan [(0, true), (1, true), (2, true), (3, true), (4, true), (5, true), (6, true), (7, true), (8, true), (9, false), (10, true)] w1.heap.size (by kernel_rfl) (by kernel_rfl) (Nat.le_refl _) (fun _ _ d _ _ h => by cases d <;> exact h) ?_
    have hC : Below w1.heap.size w1 w1 := Below.refl _ _
    have zhT0 : w.heap.size < w1.heap.size := (Array.getElem?_eq_some_iff.1 hT0).1
    have zg : 0 < w1.heap.size := gp
    repeat (first | (refine wpPlanA_skip _ rfl (by rfl) ?_; simp only [Act.put, List.setIfInBounds_toArray, List.set_cons_zero, List.set_cons_succ]) | (refine wpPlanA_soft _ ?_ rfl (by rfl) ?_ ?_; rotate_left; (intro wq hq hcq; go_simp; first | exact rfl | exact ⟨rfl, rfl⟩); simp only [Act.put, List.setIfInBounds_toArray, List.set_cons_zero, List.set_cons_succ]))
    refine wpPlanA_hard _ rfl (by rfl) (fun w2 hS K hK => ?_)
    have hB2 := hB1.call hS rfl
    replace hC := hC.call hS rfl
    replace hT0 := blkb hT0 hS
    replace HR := HR.below hS
    replace H := H.below hS
    replace hbr := hbr.call hS rfl
    clear hS hB1
    go_simp
    refine (c66 0 (-999999999) 999999999 _).mono ?_
    rintro e w' ⟨rfl, rfl⟩
    refine hK _ _ hC ?_
    clear hK K
    try simp only [Act.put, List.setIfInBounds_toArray, List.set_cons_zero, List.set_cons_succ]
    rw [show Mo.range 0 (-999999999) 999999999 = 0 from rfl]
    repeat (first | (refine wpPlanA_skip _ rfl (by rfl) ?_; simp only [Act.put, List.setIfInBounds_toArray, List.set_cons_zero, List.set_cons_succ]) | (refine wpPlanA_soft _ ?_ rfl (by rfl) ?_ ?_; rotate_left; (intro wq hq hcq; go_simp; first | exact rfl | exact ⟨rfl, rfl⟩); simp only [Act.put, List.setIfInBounds_toArray, List.set_cons_zero, List.set_cons_succ]))
    clear g0 g1 gp zg
    clear qhT0_0 qhT0_1 qhT0_2 qhT0_3 qhT0_4 qhT0_5 qhT0_6 qhT0_7 qhT0_8 qhT0_9
    refine wpPlanA_nil (fun w3 hS => ?_)
    clear hC zhT0
    have hB3 := hB2.call hS rfl
    replace hT0 := blkb hT0 hS
    replace HR := HR.below hS
    replace H := H.below hS
    replace hbr := hbr.call hS rfl
    clear hS hB2
    have qhT0_0 : w3.cell? ⟨w.heap.size, 0, none⟩ = some (.int .i64 0) := cell_at hT0 rfl
    have qhT0_1 : w3.cell? ⟨w.heap.size, 1, none⟩ = some (.int .i64 0) := cell_at hT0 rfl
    have qhT0_2 : w3.cell? ⟨w.heap.size, 2, none⟩ = some (.int .i64 0) := cell_at hT0 rfl
    have qhT0_3 : w3.cell? ⟨w.heap.size, 3, none⟩ = some (.int .i64 0) := cell_at hT0 rfl
    have qhT0_4 : w3.cell? ⟨w.heap.size, 4, none⟩ = some (.int .i64 d) := cell_at hT0 rfl
    have qhT0_5 : w3.cell? ⟨w.heap.size, 5, none⟩ = some (.int .i64 0) := cell_at hT0 rfl
    have qhT0_6 : w3.cell? ⟨w.heap.size, 6, none⟩ = some (.int .i64 0) := cell_at hT0 rfl
    have qhT0_7 : w3.cell? ⟨w.heap.size, 7, none⟩ = some (.int .i64 0) := cell_at hT0 rfl
    have qhT0_8 : w3.cell? ⟨w.heap.size, 8, none⟩ = some (.bool false) := cell_at hT0 rfl
    have qhT0_9 : w3.cell? ⟨w.heap.size, 9, none⟩ = some (.slice A n cap) := cell_at hT0 rfl
    go_wp2
    go_roundw
    case rel => exact ⟨7, by omega, by go_num, hbr⟩
    case measure => simp [intOf]
  ·
    have g0 : w1.cell? ⟨0, 14, none⟩ = some (.int .i64 (-999999999)) := HR.at 14 (by omega)
    have g1 : w1.cell? ⟨0, 15, none⟩ = some (.int .i64 (999999999)) := HR.at 15 (by omega)
    have gp := HR.pos
    clear hlt hk
    have ix := idx46_7 d w1
    rw [show ((7 : Nat) : Int) = 7 from rfl]
    go_wp2_with fail
    clear ix
    refine wp_region_plan [(0, true), (1, true), (2, true), (3, true), (4, true), (5, true), (6, true), (7, true), (8, true), (9, false), (10, true)] w1.heap.size (by kernel_rfl) (by kernel_rfl) (Nat.le_refl _) (fun _ _ d _ _ h => by cases d <;> exact h) ?_
    have hC : Below w1.heap.size w1 w1 := Below.refl _ _
    have zhT0 : w.heap.size < w1.heap.size := (Array.getElem?_eq_some_iff.1 hT0).1
    have zg : 0 < w1.heap.size := gp
    repeat (first | (refine wpPlanA_skip _ rfl (by rfl) ?_; simp only [Act.put, List.setIfInBounds_toArray, List.set_cons_zero, List.set_cons_succ]) | (refine wpPlanA_soft _ ?_ rfl (by rfl) ?_ ?_; rotate_left; (intro wq hq hcq; go_simp; first | exact rfl | exact ⟨rfl, rfl⟩); simp only [Act.put, List.setIfInBounds_toArray, List.set_cons_zero, List.set_cons_succ]))
    refine wpPlanA_hard _ rfl (by rfl) (fun w2 hS K hK => ?_)
    have hB2 := hB1.call hS rfl
    replace hC := hC.call hS rfl
    replace hT0 := blkb hT0 hS
    replace HR := HR.below hS
    replace H := H.below hS
    replace hbr := hbr.call hS rfl
    clear hS hB1
    go_simp
    refine (c66 0 (-999999999) 999999999 _).mono ?_
    rintro e w' ⟨rfl, rfl⟩
    refine hK _ _ hC ?_
    clear hK K
    try simp only [Act.put, List.setIfInBounds_toArray, List.set_cons_zero, List.set_cons_succ]
    rw [show Mo.range 0 (-999999999) 999999999 = 0 from rfl]
    repeat (first | (refine wpPlanA_skip _ rfl (by rfl) ?_; simp only [Act.put, List.setIfInBounds_toArray, List.set_cons_zero, List.set_cons_succ]) | (refine wpPlanA_soft _ ?_ rfl (by rfl) ?_ ?_; rotate_left; (intro wq hq hcq; go_simp; first | exact rfl | exact ⟨rfl, rfl⟩); simp only [Act.put, List.setIfInBounds_toArray, List.set_cons_zero, List.set_cons_succ]))
    clear g0 g1 gp zg
    clear qhT0_0 qhT0_1 qhT0_2 qhT0_3 qhT0_4 qhT0_5 qhT0_6 qhT0_7 qhT0_8 qhT0_9
    refine wpPlanA_nil (fun w3 hS => ?_)
    clear hC zhT0
    have hB3 := hB2.call hS rfl
    replace hT0 := blkb hT0 hS
    replace HR := HR.below hS
    replace H := H.below hS
    replace hbr := hbr.call hS rfl
    clear hS hB2
    have qhT0_0 : w3.cell? ⟨w.heap.size, 0, none⟩ = some (.int .i64 0) := cell_at hT0 rfl
    have qhT0_1 : w3.cell? ⟨w.heap.size, 1, none⟩ = some (.int .i64 0) := cell_at hT0 rfl
    have qhT0_2 : w3.cell? ⟨w.heap.size, 2, none⟩ = some (.int .i64 0) := cell_at hT0 rfl
    have qhT0_3 : w3.cell? ⟨w.heap.size, 3, none⟩ = some (.int .i64 0) := cell_at hT0 rfl
    have qhT0_4 : w3.cell? ⟨w.heap.size, 4, none⟩ = some (.int .i64 d) := cell_at hT0 rfl
    have qhT0_5 : w3.cell? ⟨w.heap.size, 5, none⟩ = some (.int .i64 0) := cell_at hT0 rfl
    have qhT0_6 : w3.cell? ⟨w.heap.size, 6, none⟩ = some (.int .i64 0) := cell_at hT0 rfl
    have qhT0_7 : w3.cell? ⟨w.heap.size, 7, none⟩ = some (.int .i64 0) := cell_at hT0 rfl
    have qhT0_8 : w3.cell? ⟨w.heap.size, 8, none⟩ = some (.bool false) := cell_at hT0 rfl
    have qhT0_9 : w3.cell? ⟨w.heap.size, 9, none⟩ = some (.slice A n cap) := cell_at hT0 rfl
    go_wp2
    go_roundw
    case rel => exact ⟨8, by omega, by go_num, hbr⟩
    case measure => simp [intOf]
end Go.Proofs.YtfmgibhffgkieaaDoor
namespace Go.Proofs.YtfmgibhffgkieaaDoor
open Go.RowKit Go.Shelf
set_option maxHeartbeats 8000000
set_option maxRecDepth 100000
attribute [local go_sem] Oper.semAt_some
theorem first_replicate (n : Nat) : Mo.first (List.replicate n 0) = 0 := first_zeros _ (fun x hx => (List.mem_replicate.1 hx).2)
theorem c46 (A : Option Addr) (n cap : Nat) (l : List Tc) (w : World) (hl : n ≤ 1000000) (HR : Rng w) (H : RdC w A n l) (M : Nat) (hM : M ≤ 1024) (hok : OkC w M l) :
  Calls Tryd.prog 46 #[.slice A n cap, .func (.func 47) #[] #[]] w fun en w' => ∃ A' cap', en = .returned (.slice A' n cap') ∧ RdS w' 1 A' n (encI (List.replicate n 0)) ∧ Below w.heap.size w w' := by
 have Hn : Hid (l.length = n) := Lib.hid H.len
 have HH := Lib.hid H
 have HHR := Lib.hid HR
 have HOK := Lib.hid hok
 have HMM := Lib.hid hM
 clear hok H HR hM
 obtain ⟨i0, hi, hz0, hz1, hz2⟩ := info_parts info36
 go_enter Tryd.func46, Tryd.ntmps46
 go_wp2
 go_loopw [5, 10] (fun x i wr => ∃ k : Nat, k ≤ n ∧ i = .int .i64 k ∧ wr.ownsRow w.heap.size 36 1 x k (encI (List.replicate k 0)) ∧ Below w.heap.size w wr) (fun _ i _ => n - (intOf i).toNat)
 case atStart => exact ⟨0, Nat.zero_le _, rfl, World.ownsRow_nil _ _ _ _, Below.refl _ _⟩
 case round =>
  obtain ⟨k, hk, rfl, hown, hB⟩ := hrel
  by_cases hlt : k < n
  ·obtain ⟨x, hx⟩ : ∃ x, l[k]? = some x := ⟨l[k]'(by rw [Hn.out]; exact hlt), List.getElem?_eq_getElem _⟩
   obtain ⟨b, off, rfl, hb, h0, h1, h2, h3, h4, h5, h6, h7, h8, h9⟩ := (HH.out.below hB).at hx
   have hox := HOK.out x (List.mem_of_getElem? hx)
   obtain ⟨d, hd⟩ : ∃ d, d = x.off := ⟨_, rfl⟩
   obtain ⟨xA, hxA⟩ : ∃ d, d = x.A := ⟨_, rfl⟩
   obtain ⟨xn, hxn⟩ : ∃ d, d = x.fs.length := ⟨_, rfl⟩
   obtain ⟨xc, hxc⟩ : ∃ d, d = x.cap := ⟨_, rfl⟩
   have K47 : Hid (∀ W, Below w.heap.size w W → Calls Tryd.prog 47 #[.agg #[.int .i64 0, .int .i64 0, .int .i64 0, .int .i64 0, .int .i64 d, .int .i64 0, .int .i64 0, .int .i64 0, .bool false, .slice xA xn xc]] W fun en w' => en = .returned (.int .i64 0) ∧ Below W.heap.size W w') := Lib.hid (fun W hW => by
    rw [hd, hxA, hxn, hxc]
    exact c47 x.off x.A x.fs.length x.cap x.fs W (by have := HMM.out; omega) (by omega) (HHR.out.below hW) (RdS.below hox.1 hW) hox.2.1)
   rw [← hxA, ← hxn, ← hxc] at h9
   rw [← hd] at h4
   have htk : encI (List.replicate (k + 1) 0) = encI (List.replicate k 0) ++ [.int .i64 0] := by rw [List.replicate_succ']; simp [encI]
   have HTK := Lib.hid htk
   clear hx htk hox hd hxA hxn hxc
   obtain ⟨wa, hwa⟩ : ∃ W, W = wr.alloc (Obj.cells #[.int .i64 0, .int .i64 0, .int .i64 0, .int .i64 0, .int .i64 d, .int .i64 0, .int .i64 0, .int .i64 0, .bool false, .slice xA xn xc] 48) := ⟨_, rfl⟩
   have hTa : wa.heap[wr.heap.size]? = some (.cells #[.int .i64 0, .int .i64 0, .int .i64 0, .int .i64 0, .int .i64 d, .int .i64 0, .int .i64 0, .int .i64 0, .bool false, .slice xA xn xc] 48 (0, 0)) := by rw [hwa]; exact heap_new rfl
   have hBa : Below wr.heap.size wr wa := by rw [hwa]; exact (Below.refl _ _).alloc (Nat.le_refl _) _
   go_wp2_with fail
   rw [← hwa]
   refine (K47.out _ (hB.call hBa rfl)).mono ?_
   rintro e w2 ⟨rfl, hb2⟩
   replace hown := own_below (own_below hown hBa) hb2
   replace hB := (hB.call hBa rfl).call hb2 rfl
   clear hb2 h0 h1 h2 h3 h4 h5 h6 h7 h8 h9 hb hBa hwa hTa
   have hsz := hB.size
   go_wp2_with (at_builtin; refine wpList_append_own _ rfl _ _ 97 rfl w.heap.size 36 i0 (.int .i64 0) 1 8 Tryd.underlying97 hi hz0 hz1 hz2 rfl (by decide) _ _ _ rfl (hown.alloc _) ⟨w2.heap.size, 0, none⟩ 1 1 [.int .i64 0] rfl rfl (news_one _ _ rfl) (fun x hx => by rw [List.mem_singleton.1 hx]; rfl) (by unfold maxLen; omega) (by omega) (by simp; omega) ?_)
   intro x' w3 hown3 hg3 _
   have hB3 : Below w.heap.size w w3 := (hB.alloc hsz _).grown hg3 (by simp; omega) (fun g hg => (hown.lt g hg).1)
   rw [← HTK.out] at hown3
   have HO := Lib.hid hown3
   clear hown3 hg3 hown
   go_wp2
   go_roundw
   case rel => exact ⟨k + 1, by omega, by go_num, HO.out, hB3⟩
   case measure => simp [intOf]; omega
  ·obtain rfl : n = k := by omega
   have HO := Lib.hid hown
   clear hown
   go_wp2
   go_ret
   obtain ⟨A', cap', h9, hr, _⟩ := own_form HO.out
   refine ⟨A', cap', by rw [← h9]; rfl, hr, hB⟩
end Go.Proofs.YtfmgibhffgkieaaDoor
namespace Go.Proofs.YtfmgibhffgkieaaDoor
open Go.RowKit Go.Shelf
set_option maxHeartbeats 8000000
set_option maxRecDepth 100000
attribute [local go_sem] Oper.semAt_some
/-- a shot in a block -/
def SBk (W : World) (p : Nat) (nm : ByteArray) (A : Option Addr) (n cap : Nat) : Prop := W.heap[p]? = some (.cells #[.string nm, .slice A n cap] 51 (0, 0))
theorem c49 (nm : ByteArray) (A : Option Addr) (n cap : Nat) (w : World) :
  Calls Tryd.prog 49 #[.agg #[.string nm, .slice A n cap]] w fun en w' => en = .returned (.func (.func 67) #[] #[.pointer (some ⟨w.heap.size, 0, none⟩)]) ∧ w' = w.alloc (Obj.cells #[.string nm, .slice A n cap] 51) := by
 go_enter Tryd.func49, Tryd.ntmps49
 go_wp2
 go_ret
 exact ⟨rfl, rfl⟩
def Tc.val (x : Tc) : Value := .agg #[.int .i64 0, .int .i64 0, .int .i64 0, .int .i64 0, .int .i64 x.off, .int .i64 0, .int .i64 0, .int .i64 0, .bool false, .slice x.A x.fs.length x.cap]
/-- the iterator over the live traces: all of them -/
theorem live_in (n : Nat) (hn : 1 ≤ n) (lr p m cap : Nat) (hm : m ≤ 1000000) (nm : ByteArray) (A : Option Addr) (l : List Tc) (J : Nat → World → Prop) (Jx : World → Prop)
  (hA : ∀ k W, J k W → SBk W p nm A m cap ∧ RdC W A m l)
  (hst : ∀ k W W1, J k W → Below W.heap.size W W1 → J k W1)
  (hY : ∀ k W x, k < m → l[k]? = some x → J k W → YieldAt Fence.wide (n - 1) Tryd.prog lr #[.int .i64 (k : Nat), x.val] W fun e W' => (e = .returned (.bool true) ∧ J (k + 1) W') ∨ (e = .returned (.bool false) ∧ Jx W'))
  (W : World) (h0 : J 0 W) :
  CallsIn Fence.wide n Tryd.prog 67 #[.func (.yield lr) #[] #[], .pointer (some ⟨p, 0, none⟩)] W fun e W' => (∃ v, e = .returned v) ∧ (J m W' ∨ Jx W') := by
 have HY := Lib.hid hY
 have HST := Lib.hid hst
 have HA := Lib.hid hA
 have HLN := Lib.hid (hA 0 W h0).2.len
 obtain ⟨ka, _⟩ := hA 0 W h0
 have a1 := cell_at ka (i := 1) rfl
 have la := cell_lt a1
 clear hY hst hA ka
 refine callsIn_of_wp Tryd.func67 rfl trivial ?_ rfl
 simp only [Tryd.ntmps67, List.size_toArray, List.length_cons, List.length_nil, Nat.reduceAdd, Nat.reduceSub, Array.replicate_succ, Array.replicate_zero, List.push_toArray, List.append_toArray, List.nil_append, List.cons_append]
 have H0 := Lib.hid h0
 clear h0
 gi_wp2
 clear a1 la
 gi_loopw [8] (fun x wr => ∃ k : Nat, k ≤ m ∧ x = .int .i64 (k : Nat) ∧ J k wr) (fun x _ => m - (intOf x).toNat)
 case atStart => exact ⟨0, by omega, rfl, H0.out⟩
 case round =>
  obtain ⟨k, hk, rfl, hJ⟩ := hrel
  by_cases hlt : k < m
  ·have hwk : IntKind.i64.wrap ((k : Int) + 1) = ((k + 1 : Nat) : Int) := by rw [wrapI (by omega)]; simp
   obtain ⟨x, hx⟩ : ∃ x, l[k]? = some x := ⟨l[k]'(by rw [HLN.out]; exact hlt), List.getElem?_eq_getElem _⟩
   obtain ⟨b, off, hAe, hb, h0, h1, h2, h3, h4, h5, h6, h7, h8, h9⟩ := (HA.out _ _ hJ).2.at hx
   subst hAe
   obtain ⟨d, hd⟩ : ∃ d, d = x.off := ⟨_, rfl⟩
   obtain ⟨xA, hxA⟩ : ∃ d, d = x.A := ⟨_, rfl⟩
   obtain ⟨xn, hxn⟩ : ∃ d, d = x.fs.length := ⟨_, rfl⟩
   obtain ⟨xc, hxc⟩ : ∃ d, d = x.cap := ⟨_, rfl⟩
   have hval : x.val = .agg #[.int .i64 0, .int .i64 0, .int .i64 0, .int .i64 0, .int .i64 d, .int .i64 0, .int .i64 0, .int .i64 0, .bool false, .slice xA xn xc] := by rw [hd, hxA, hxn, hxc]; rfl
   rw [← hxA, ← hxn, ← hxc] at h9
   rw [← hd] at h4
   have HJ := Lib.hid hJ
   have HX := Lib.hid hx
   have HVAL := Lib.hid hval
   clear hJ hx hval hd hxA hxn hxc
   have hlti : (k : Int) < (m : Int) := by omega
   have hJa := HST.out _ _ _ HJ.out ((Below.refl _ _).alloc (Nat.le_refl _) (Obj.cells #[.int .i64 0, .int .i64 0, .int .i64 0, .int .i64 0, .int .i64 d, .int .i64 0, .int .i64 0, .int .i64 0, .bool false, .slice xA xn xc] 48))
   obtain ⟨fn, tmps, assign, body, hy, hR⟩ := HY.out k _ x hlt HX.out hJa
   rw [HVAL.out] at hy
   clear hJa
   gi_wp2
   refine hR.mono ?_
   rintro e W3 (⟨rfl, hJ3⟩ | ⟨rfl, hJx3⟩)
   ·have HJ3 := Lib.hid hJ3
    clear hJ3 hy hR h0 h1 h2 h3 h4 h5 h6 h7 h8 h9 hb
    gi_wp2
    go_roundw
    case rel => exact ⟨k + 1, by omega, by go_num, HJ3.out⟩
    case measure => simp [intOf]; omega
   ·gi_wp2
    refine bodyPost_ret (results_none rfl _ _ _) rfl ?_
    exact ⟨⟨_, rfl⟩, .inr hJx3⟩
  ·obtain rfl : k = m := by omega
   have HJ := Lib.hid hJ
   clear hJ
   gi_wp2
   go_end0
   exact ⟨⟨_, rfl⟩, .inl HJ.out⟩
/-- 'for _, t := range shot.live()': an invariant of the traces that are done, and one walk of the body -/
theorem wpIn_live {ps : Array Tmp} {assign body : Code} {Q : Exit → Act → World → Prop} {a : Act} {w : World} {n : Nat} (hn : 2 ≤ n) {g : Operand} {p m cap : Nat} (hm : m ≤ 1000000) {nm : ByteArray} {A : Option Addr} {l : List Tc}
  (hg : a.eval g = .func (.func 67) #[] #[.pointer (some ⟨p, 0, none⟩)])
  (I : Nat → World → Prop) (Ix : World → Prop) (R : Nat → Tc → Act → World → Prop)
  (hI : ∀ k, OwnFrom w.heap.size (fun (_ : Unit) => I k)) (hIx : OwnFrom w.heap.size (fun (_ : Unit) => Ix)) (hR : ∀ k x a', OwnFrom w.heap.size (fun (_ : Unit) => R k x a'))
  (hA : ∀ k W, I k W → SBk W p nm A m cap ∧ RdC W A m l)
  (h0 : I 0 w) (hps1 : ps.size = 2)
  (hassign : ∀ (lr : Nat) (k : Nat) (x : Tc) (W : World) (K : Act → World → Prop), k < m → l[k]? = some x → w.heap.size ≤ W.heap.size → I k W → (∀ a' W', Below W.heap.size W W' → R k x a' W' → K a' W') →
   assign.wpIn (Fence.wide.inRound lr) (n - 1 - 1) Tryd.prog (Exit.then K (fun _ _ _ => False)) { tmps := (ps.zip #[.int .i64 (k : Nat), x.val]).foldl (fun t (p, v) => t.setIfInBounds p v) a.tmps, defers := [] } W)
  (hbody : ∀ (lr : Nat) (k : Nat) (x : Tc) (a' : Act) (W : World), k < m → l[k]? = some x → w.heap.size ≤ W.heap.size → R k x a' W → body.wpIn (Fence.wide.inRound lr) (n - 1 - 1) Tryd.prog (LinePost w.heap.size (I (k + 1)) Ix W) a' W)
  (hdone : ∀ (D : Nat) (W : World), w.heap.size ≤ D → I m W → W.heap[D]? = some (.deferred (some [])) → Q .normal { a with defers := { target := .collected D, args := #[] } :: a.defers } W)
  (hstop : ∀ (D : Nat) (W : World), w.heap.size ≤ D → Ix W → W.heap[D]? = some (.deferred (some [])) → Code.ret.wpIn Fence.wide n Tryd.prog Q { a with defers := { target := .collected D, args := #[] } :: a.defers } W) :
  (Code.rangeFunc g ps assign body).wpIn Fence.wide n Tryd.prog Q a w := by
 refine wpIn_rangeFunc fun fn hfn => ?_
 obtain ⟨rc, hrc⟩ : ∃ rc : LoopState → Option Code → Loop, rc = fun st pe => { state := st, pending := pe, fn, tmps := a.tmps, params := ps, assign, body, defers := w.heap.size } := ⟨_, rfl⟩
 obtain ⟨W1, hW1⟩ : ∃ W1, W1 = (w.alloc (.deferred (some []))).alloc (.loop (rc .ready none)) := ⟨_, rfl⟩
 have hb1 : Below w.heap.size w W1 := by rw [hW1]; exact below2 _ _ _
 have hrec : LineRec w W1 (rc .ready none) := by
  rw [hW1]
  exact ⟨heap_new (by simp), heap_old (by simp) (heap_new rfl)⟩
 have hgo := live_in (n - 1) (by omega) (w.heap.size + 1) p m cap hm nm A l (fun k W => I k W ∧ LineRec w W (rc .ready none)) (fun W => Ix W ∧ LineRec w W (rc .done (some .ret)))
  (fun k W h => hA k W h.1)
  (fun k W W2 h hb => ⟨own_grow (hI k) h.1 hb, h.2.grow hb⟩)
  ?hY W1 ⟨own_grow (hI 0) h0 hb1, hrec⟩
 case hY =>
  rintro k W x hk hx ⟨hi1, hr1⟩
  have hy := run_yield (P := Tryd.prog) (args := #[.int .i64 (k : Nat), x.val]) hr1.lp (by rw [hrc]; simpa using hps1.symm)
  rw [hrc] at hy
  have hszW : w.heap.size ≤ W.heap.size := by
   have := (Array.getElem?_eq_some_iff.1 hr1.lp).1
   omega
  refine ⟨fn, _, assign, body, hy, roundIn_of_wpIn hfn (hassign _ k x W _ hk hx hszW hi1 (fun a' W' hb hRW => ⟨_, run_beginRound (hr1.grow hb).lp (by rw [hrc]), ?_⟩))⟩
  have hr1' := hr1.grow hb
  have hr2 := hr1'.put { rc .ready none with state := .busy }
  have hsz : w.heap.size ≤ (W'.putObj (w.heap.size + 1) (.loop { rc .ready none with state := .busy })).heap.size := by
   have := (Array.getElem?_eq_some_iff.1 hr2.lp).1
   omega
  refine wpIn_mono (hbody (w.heap.size + 1) k x a' _ hk hx hsz (own_put (hR k x a') hRW hr1')) ?_
  rintro e a3 W3 hp
  have fin : ∀ (jump : Option Code), KeepsFrom w.heap.size (W'.putObj (w.heap.size + 1) (.loop { rc .ready none with state := .busy })) W3 →
    (Instr.endRound (w.heap.size + 1) jump).run Tryd.prog W3 = .ok (.bool jump.isNone) (W3.putObj (w.heap.size + 1) (.loop (rc (if jump.isNone then .ready else .done) jump))) := fun jump hk => by
   have hl3 := (hr2.kept hk).lp
   rw [hrc] at hl3
   have := run_endRound (P := Tryd.prog) jump hl3
   rw [hrc]
   exact this
  cases e with
  | normal =>
   obtain ⟨hk, hi3⟩ := hp
   exact ⟨_, _, fin none hk, .inl ⟨rfl, own_put (hI _) hi3 (hr2.kept hk), (hr2.kept hk).put _⟩⟩
  | ret =>
   obtain ⟨hk, hi3⟩ := hp
   exact ⟨_, _, fin (some .ret) hk, .inr ⟨rfl, own_put hIx hi3 (hr2.kept hk), (hr2.kept hk).put _⟩⟩
  | exit id => exact hp.elim
  | goto t => exact hp.elim
  | panic ch => exact hp.elim
  | outgrown => exact hp.elim
 have hen : (Instr.enterLoop fn a.tmps ps assign body Fence.wide.round).run Tryd.prog w = .ok (w.heap.size + 1, [{ target := .collected w.heap.size, args := #[] }]) W1 := by
  rw [hW1, hrc]; exact run_enterLoop_outer _ _ _ _ _
 refine ⟨w.heap.size + 1, [{ target := .collected w.heap.size, args := #[] }], W1, { target := .fn (.func 67) #[.pointer (some ⟨p, 0, none⟩)], args := #[.func (.yield (w.heap.size + 1)) #[] #[]] }, W1, 67,
  #[.func (.yield (w.heap.size + 1)) #[] #[]] ++ #[.pointer (some ⟨p, 0, none⟩)], W1, hen, ?_, fun _ _ => trivial, ?_, fun _ => by omega, ?_⟩
 ·simp only [resolve, hg]
  simp [go_sem]
 ·simp [invoke, go_sem, enters_of Tryd.func67 (by kernel_rfl) rfl]
 refine hgo.mono ?_
 rintro e W2 ⟨⟨v, rfl⟩, (⟨hi2, hr2⟩ | ⟨hx, hr2⟩)⟩
 ·exact ⟨none, _, by have := run_endLoop (P := Tryd.prog) hr2.lp (by rw [hrc]; simp); rw [hrc] at this; exact this, hdone _ _ (Nat.le_refl _) (own_put (hI _) hi2 hr2) (hr2.put _).defd⟩
 ·exact ⟨some .ret, _, by have := run_endLoop (P := Tryd.prog) hr2.lp (by rw [hrc]; simp); rw [hrc] at this; exact this, hstop _ _ (Nat.le_refl _) (own_put hIx hx hr2) (hr2.put _).defd⟩
end Go.Proofs.YtfmgibhffgkieaaDoor
namespace Go.Proofs.YtfmgibhffgkieaaDoor
open Go.RowKit Go.Shelf
set_option maxHeartbeats 8000000
set_option maxRecDepth 100000
attribute [local go_sem] Oper.semAt_some
theorem c48 (nm : ByteArray) (A : Option Addr) (n cap : Nat) (l : List Tc) (w : World) (hn : 1 ≤ n ∧ n ≤ 1000000) (H : RdC w A n l) (M : Nat) (hok : OkC w M l) :
  Calls Tryd.prog 48 #[.agg #[.string nm, .slice A n cap]] w fun en w' => en = .returned (.tuple #[.int .i64 (M : Nat), .bool true]) ∧ Below w.heap.size w w' := by
 have HOK := Lib.hid hok
 have HN := Lib.hid hn
 have HH := Lib.hid H
 clear hok hn H
 obtain ⟨w0, hW⟩ : ∃ W, W = ((w.alloc (Obj.cells #[.string nm, .slice A n cap] 51)).alloc (Obj.cells #[.int .i64 0] 3)).alloc (Obj.cells #[.bool false] 4) := ⟨_, rfl⟩
 have k1 : w0.heap[w.heap.size]? = some (.cells #[.string nm, .slice A n cap] 51 (0, 0)) := by rw [hW]; exact heap_old (by simp; omega) (heap_old (by simp) (heap_new rfl))
 have k2 : w0.heap[w.heap.size + 1]? = some (.cells #[.int .i64 0] 3 (0, 0)) := by rw [hW]; exact heap_old (by simp) (heap_new (by simp))
 have k3 : w0.heap[w.heap.size + 1 + 1]? = some (.cells #[.bool false] 4 (0, 0)) := by rw [hW]; exact heap_new (by simp)
 have hz0 : w0.heap.size = w.heap.size + 1 + 1 + 1 := by rw [hW]; simp
 have hB0 : Below w.heap.size w w0 := by rw [hW]; exact (((Below.refl _ _).alloc (Nat.le_refl _) _).alloc (by simp) _).alloc (by simp; omega) _
 have q0 : w0.cell? ⟨w.heap.size, 0, none⟩ = some (.string nm) := cell_at k1 rfl
 have q1 : w0.cell? ⟨w.heap.size, 1, none⟩ = some (.slice A n cap) := cell_at k1 rfl
 have z0 := cell_lt q0
 have HZ0 := Lib.hid hz0
 clear hz0
 refine (callsIn_wide (n := 6)).1 ?_
 refine callsIn_of_wp_marks Tryd.func48 rfl trivial ?_ rfl
 refine wpIn_wide.2 ?_
 simp only [Tryd.ntmps48, List.size_toArray, List.length_cons, List.length_nil, Nat.reduceAdd, Nat.reduceSub, Array.replicate_succ, Array.replicate_zero, List.push_toArray, List.append_toArray, List.nil_append, List.cons_append]
 go_wp2_with fail
 rw [← hW]
 clear hW
 go_wp2_with fail
 refine (c49 _ _ _ _ _).mono ?_
 rintro e w1 ⟨rfl, hw1⟩
 obtain ⟨p, hp⟩ : ∃ p, p = w0.heap.size := ⟨_, rfl⟩
 obtain ⟨r2, hr2⟩ : ∃ p, p = w.heap.size + 1 := ⟨_, rfl⟩
 obtain ⟨r3, hr3⟩ : ∃ p, p = w.heap.size + 1 + 1 := ⟨_, rfl⟩
 have hb1 : Below w0.heap.size w0 w1 := by rw [hw1]; exact (Below.refl _ _).alloc (Nat.le_refl _) _
 have hz1 : w1.heap.size = p + 1 := by rw [hw1, hp]; simp
 have kp : SBk w1 p nm A n cap := by unfold SBk; rw [hw1, hp]; exact heap_new rfl
 have hB1 := hB0.call hb1 rfl
 have k2' := blkb k2 hb1
 have k3' := blkb k3 hb1
 have hz0 := HZ0.out
 rw [← hr2] at k2'
 rw [← hr3] at k3'
 obtain ⟨bs, hbs⟩ : ∃ bs : Int → Bool → List (Nat × Array Value × TypeId), bs = fun i b => [(p, #[.string nm, .slice A n cap], 51), (r2, #[.int .i64 i], 3), (r3, #[.bool b], 4)] := ⟨_, rfl⟩
 have I0 : BI w [] (bs 0 false) True w1 := by
  refine ⟨Marks.nil _ _, fun x hx => ?_, hB1, trivial⟩
  rw [hbs] at hx
  simp only [List.mem_cons, List.not_mem_nil, or_false] at hx
  rcases hx with rfl | rfl | rfl
  ·exact kp
  ·exact k2'
  ·exact k3'
 have HBS := Lib.hid hbs
 have HI0 := Lib.hid I0
 have HO : Hid (w.heap.size ≤ r2 ∧ r2 < r3 ∧ r3 < p ∧ p < w1.heap.size) := Lib.hid (by omega)
 rw [← hp, ← hr3, ← hr2]
 clear hw1 hp hr2 hr3 kp hB1 hb1 k1 k2 k3 k2' k3' hB0 q0 q1 z0 hbs hz0 hz1 I0 HZ0
 go_wp2
 refine (wpIn_wide (n := 6)).1 ?_
 refine wpIn_live (n := 6) (by omega) (p := p) (m := n) (cap := cap) HN.out.2 (nm := nm) (A := A) (l := l) rfl
  (fun k W => k = 0 ∧ BI w [] (bs 0 false) True W) (fun W => BI w [] (bs (M : Nat) true) True W)
  (fun k x a' W => k = 0 ∧ ∃ bb, a' = { tmps := #[.agg #[.string nm, .slice A n cap], .pointer (some ⟨w.heap.size, 0, none⟩), .pointer (some ⟨r2, 0, none⟩), .pointer (some ⟨r3, 0, none⟩), undef, .pointer (some ⟨bb, 0, none⟩), .agg #[.string nm, .slice A n cap], .func (.func 67) #[] #[.pointer (some ⟨p, 0, none⟩)], .int .i64 (k : Nat), x.val, undef, undef, undef], defers := [] } ∧ w1.heap.size ≤ bb ∧ BI w [] ((bb, #[.int .i64 0, .int .i64 0, .int .i64 0, .int .i64 0, .int .i64 x.off, .int .i64 0, .int .i64 0, .int .i64 0, .bool false, .slice x.A x.fs.length x.cap], 48) :: bs 0 false) True W)
  (fun k => ?own) (BI.own (by have := HO.out; omega) (fun _ h => by cases h)) (fun k x a' => ?ownR)
  (fun k W h => ⟨h.2.blk (p, _, 51) (by rw [HBS.out]; simp), HH.out.below h.2.bel⟩)
  ⟨rfl, HI0.out⟩ rfl ?assign ?body ?done ?stop
 case own =>
  intro u W W' row h hg hr
  exact ⟨h.1, BI.own (by have := HO.out; omega) (fun _ h => by cases h) u W W' row h.2 hg hr⟩
 case ownR =>
  intro u W W' row h hg hr
  obtain ⟨h0, bb, ha, hbb, h⟩ := h
  exact ⟨h0, bb, ha, hbb, BI.own (by have := HO.out; omega) (fun _ h => by cases h) u W W' row h hg hr⟩
 case assign =>
  intro lr k x W K hk hx hsz hI hK
  obtain ⟨rfl, hI⟩ := hI
  have hba : Below W.heap.size W (W.alloc (Obj.cells #[.int .i64 0, .int .i64 0, .int .i64 0, .int .i64 0, .int .i64 x.off, .int .i64 0, .int .i64 0, .int .i64 0, .bool false, .slice x.A x.fs.length x.cap] 48)) := (Below.refl _ _).alloc (Nat.le_refl _) _
  have HK := Lib.hid (hK { tmps := #[.agg #[.string nm, .slice A n cap], .pointer (some ⟨w.heap.size, 0, none⟩), .pointer (some ⟨r2, 0, none⟩), .pointer (some ⟨r3, 0, none⟩), undef, .pointer (some ⟨W.heap.size, 0, none⟩), .agg #[.string nm, .slice A n cap], .func (.func 67) #[] #[.pointer (some ⟨p, 0, none⟩)], .int .i64 ((0 : Nat) : Int), x.val, undef, undef, undef], defers := [] } _ hba ⟨rfl, W.heap.size, rfl, hsz, ⟨Marks.nil _ _, fun y hy => by
   rcases List.mem_cons.1 hy with rfl | hy
   ·exact heap_new rfl
   ·exact blkb (hI.blk y hy) hba, hI.bel.call hba rfl, trivial⟩⟩)
  clear hK hI hba
  unfold Tc.val at HK ⊢
  gi_wp2
  go_simp
  exact HK.out
 case body =>
  intro lr k x a' W hk hx hsz hR
  obtain ⟨rfl, bb, rfl, hbb, hI⟩ := hR
  have kb : W.heap[bb]? = some (.cells #[.int .i64 0, .int .i64 0, .int .i64 0, .int .i64 0, .int .i64 x.off, .int .i64 0, .int .i64 0, .int .i64 0, .bool false, .slice x.A x.fs.length x.cap] 48 (0, 0)) := hI.blk (bb, _, _) (List.mem_cons_self ..)
  have hlen := (HOK.out x (List.mem_of_getElem? hx)).2.2.1
  rw [hlen] at kb
  have c9 : W.cell? ⟨bb, 9, none⟩ = some (.slice x.A M x.cap) := cell_at kb rfl
  have l9 := cell_lt c9
  have k2 : W.heap[r2]? = some (.cells #[.int .i64 0] 3 (0, 0)) := hI.blk (r2, _, _) (by rw [HBS.out]; simp)
  have k3 : W.heap[r3]? = some (.cells #[.bool false] 4 (0, 0)) := hI.blk (r3, _, _) (by rw [HBS.out]; simp)
  have ho := HO.out
  have c2 := cell_at k2 (i := 0) rfl
  have f2 := free_at k2 (i := 0)
  have l2 := cell_lt c2
  have c3 := cell_at k3 (i := 0) rfl
  have f3 := free_at k3 (i := 0)
  have l3 := cell_lt c3
  have h2 := hI.set (b := r2) (bs' := (bb, #[.int .i64 0, .int .i64 0, .int .i64 0, .int .i64 0, .int .i64 x.off, .int .i64 0, .int .i64 0, .int .i64 0, .bool false, .slice x.A x.fs.length x.cap], 48) :: bs (M : Nat) false) (.int .i64 (M : Nat)) (by omega) k2 (fun y hy => by
   rw [HBS.out] at hy ⊢
   simp only [List.mem_cons, List.not_mem_nil, or_false] at hy
   rcases hy with rfl | rfl | rfl | rfl
   ·exact .inr ⟨by simp only; omega, by simp⟩
   ·exact .inr ⟨by simp only; omega, by simp⟩
   ·exact .inl ⟨rfl, rfl, rfl⟩
   ·exact .inr ⟨by simp only; omega, by simp⟩)
  have k3' : (W.setCell ⟨r2, 0, none⟩ (.int .i64 (M : Nat))).heap[r3]? = some (.cells #[.bool false] 4 (0, 0)) := h2.blk (r3, _, _) (by rw [HBS.out]; simp)
  have h3 := h2.set (b := r3) (bs' := bs (M : Nat) true) (.bool true) (by omega) k3' (fun y hy => by
   rw [HBS.out] at hy ⊢
   simp only [List.mem_cons, List.not_mem_nil, or_false] at hy
   rcases hy with rfl | rfl | rfl
   ·exact .inr ⟨by simp only; omega, by simp⟩
   ·exact .inr ⟨by simp only; omega, by simp⟩
   ·exact .inl ⟨rfl, rfl, rfl⟩)
  have HF : Hid (KeepsFrom w1.heap.size W ((W.setCell ⟨r2, 0, none⟩ (.int .i64 (M : Nat))).setCell ⟨r3, 0, none⟩ (.bool true)) ∧ BI w [] (bs (M : Nat) true) True ((W.setCell ⟨r2, 0, none⟩ (.int .i64 (M : Nat))).setCell ⟨r3, 0, none⟩ (.bool true))) := Lib.hid ⟨(keepsF_set _ k2).trans (keepsF_set _ k3'), h3⟩
  have hne : r2 ≠ r3 := by omega
  clear kb hlen h2 h3 hI k2 k3 k3' hx ho
  gi_wp2
  exact HF.out
 case done =>
  intro D W hD hI hK
  exact absurd hI.1 (by have := HN.out; omega)
 case stop =>
  intro D W hD hX hK
  have k2 : W.heap[r2]? = some (.cells #[.int .i64 (M : Nat)] 3 (0, 0)) := hX.blk (r2, _, _) (by rw [HBS.out]; simp)
  have k3 : W.heap[r3]? = some (.cells #[.bool true] 4 (0, 0)) := hX.blk (r3, _, _) (by rw [HBS.out]; simp)
  have ne2 : r2 ≠ D := fun e => by rw [e, hK] at k2; cases k2
  have ne3 : r3 ≠ D := fun e => by rw [e, hK] at k3; cases k3
  have c1 : (W.putObj D (.deferred none)).cell? ⟨r2, 0, none⟩ = some (.int .i64 (M : Nat)) := cell_at ((World.putObj_heap_other ne2).trans k2) rfl
  have c2 : (W.putObj D (.deferred none)).cell? ⟨r3, 0, none⟩ = some (.bool true) := cell_at ((World.putObj_heap_other ne3).trans k3) rfl
  have HBf := Lib.hid (hX.bel.grown (grownBy_putObj' W D (.deferred none)) hX.bel.size (fun j hj => by cases hj; have := HO.out; omega))
  have HK := Lib.hid hK
  clear hX k2 k3 hK
  gi_wp2
  refine ⟨by simp, .inl ⟨_, _, rfl, run_takeDeferred HK.out, ?_⟩⟩
  exact ⟨.tuple #[.int .i64 (M : Nat), .bool true], by simp [results, Tryd.results48, go_sem, c1, c2], rfl, HBf.out⟩
end Go.Proofs.YtfmgibhffgkieaaDoor
namespace Go.Proofs.YtfmgibhffgkieaaDoor
open Go.RowKit Go.Shelf
set_option maxHeartbeats 8000000
set_option maxRecDepth 100000
attribute [local go_sem] Oper.semAt_some
theorem c19 (nm : ByteArray) (A : Option Addr) (n cap : Nat) (l : List Tc) (w : World) (hnm : Nm nm) (hn : 1 ≤ n ∧ n ≤ 64) (HR : Rng w) (H : RdC w A n l) (M : Nat) (hM : M ≤ 1024) (hok : OkC w M l) :
  Calls Tryd.prog 19 #[.agg #[.string nm, .slice A n cap]] w fun en w' => en = .returned (.int .i64 0) ∧ Below w.heap.size w w' := by
 have HNM := Lib.hid hnm
 have HN := Lib.hid hn
 have HOK := hok
 have HMM := Lib.hid hM
 have HH := Lib.hid H
 have HK0 := Lib.hid hok
 have hz : ((n : Int) == 0) = false := by simp; omega
 have hg : decide ((64 : Int) < (n : Int)) = false := by simp; omega
 have hg2 : decide (64 < n) = false := by simp; omega
 clear hnm hn hok hM
 obtain ⟨w0, hW⟩ : ∃ W, W = (w.alloc (Obj.cells #[.string nm, .slice A n cap] 51)).alloc (Obj.cells #[.int .i64 0] 36) := ⟨_, rfl⟩
 have hT0 : w0.heap[w.heap.size]? = some (.cells #[.string nm, .slice A n cap] 51 (0, 0)) := by rw [hW]; exact heap_old (by simp <;> omega) (heap_new (by simp))
 have hT1 : w0.heap[w.heap.size + 1]? = some (.cells #[.int .i64 0] 36 (0, 0)) := by rw [hW]; exact heap_new (by simp)
 have hB0 : Below w.heap.size w w0 := by rw [hW]; exact (((Below.refl _ _).alloc (by first | omega | (simp <;> omega)) _).alloc (by first | omega | (simp <;> omega)) _)
 replace HR := HR.below hB0
 replace H := H.below hB0
 replace HOK := HOK.below hB0
 refine (callsIn_wide (n := 6)).1 ?_
 refine callsIn_of_wp_marks Tryd.func19 rfl trivial ?_ rfl
 refine wpIn_wide.2 ?_
 simp only [Tryd.ntmps19, List.size_toArray, List.length_cons, List.length_nil, Nat.reduceAdd, Nat.reduceSub, Array.replicate_succ, Array.replicate_zero, List.push_toArray, List.append_toArray, List.nil_append, List.cons_append]
 go_wp2_with fail
 rw [← hW]
 clear hW
 have qhT0_0 : w0.cell? ⟨w.heap.size, 0, none⟩ = some (.string nm) := cell_at hT0 rfl
 have qhT0_1 : w0.cell? ⟨w.heap.size, 1, none⟩ = some (.slice A n cap) := cell_at hT0 rfl
 have qhT1_0 : w0.cell? ⟨w.heap.size + 1, 0, none⟩ = some (.int .i64 0) := cell_at hT1 rfl
 refine Code.wp_mono nopan_le ?_
 refine wp_region_plan [(0, true), (1, true), (5, true), (6, true), (7, true), (8, true), (10, true), (11, true), (12, true), (13, true), (2, false), (3, true), (4, false), (9, false), (14, false), (15, false), (16, false), (17, true)] w0.heap.size (by kernel_rfl) (by kernel_rfl) (Nat.le_refl _) nopan_pan ?_
 have hC : Below w0.heap.size w0 w0 := Below.refl _ _
 have zhT0 : w.heap.size < w0.heap.size := (Array.getElem?_eq_some_iff.1 hT0).1
 have zhT1 : w.heap.size + 1 < w0.heap.size := (Array.getElem?_eq_some_iff.1 hT1).1
 repeat (first | (refine wpPlanA_skip _ rfl (by rfl) ?_; simp only [Act.put, List.setIfInBounds_toArray, List.set_cons_zero, List.set_cons_succ]) | (refine wpPlanA_soft _ ?_ rfl (by rfl) ?_ ?_; rotate_left; (intro wq hq hcq; go_simp; first | exact rfl | exact ⟨rfl, rfl⟩); simp only [Act.put, List.setIfInBounds_toArray, List.set_cons_zero, List.set_cons_succ]))
 refine wpPlanA_hard _ rfl (by rfl) (fun w1 hS K hK => ?_)
 have hB1 := hB0.call hS rfl
 replace hC := hC.call hS rfl
 replace hT0 := blkb hT0 hS
 replace hT1 := blkb hT1 hS
 replace HR := HR.below hS
 replace H := H.below hS
 replace HOK := HOK.below hS
 clear hS hB0
 go_simp
 refine (c45 nm _ HNM.out.1 HNM.out.2).mono ?_
 rintro e w2 ⟨rfl, hb⟩
 have hB2 := hB1.call hb rfl
 replace hC := hC.call hb rfl
 replace hT0 := blkb hT0 hb
 replace hT1 := blkb hT1 hb
 replace HR := HR.below hb
 replace H := H.below hb
 replace HOK := HOK.below hb
 clear hb hB1
 refine hK _ _ hC ?_
 clear hK K
 try simp only [Act.put, List.setIfInBounds_toArray, List.set_cons_zero, List.set_cons_succ]
 repeat (first | (refine wpPlanA_skip _ rfl (by rfl) ?_; simp only [Act.put, List.setIfInBounds_toArray, List.set_cons_zero, List.set_cons_succ]) | (refine wpPlanA_soft _ ?_ rfl (by rfl) ?_ ?_; rotate_left; (intro wq hq hcq; go_simp; first | exact rfl | exact ⟨rfl, rfl⟩); simp only [Act.put, List.setIfInBounds_toArray, List.set_cons_zero, List.set_cons_succ]))
 refine wpPlanA_hard _ rfl (by rfl) (fun w3 hS K hK => ?_)
 have hB3 := hB2.call hS rfl
 replace hC := hC.call hS rfl
 replace hT0 := blkb hT0 hS
 replace hT1 := blkb hT1 hS
 replace HR := HR.below hS
 replace H := H.below hS
 replace HOK := HOK.below hS
 clear hS hB2
 go_simp
 refine (c31 false 8 _).mono ?_
 rintro e w' ⟨rfl, rfl⟩
 refine hK _ _ hC ?_
 clear hK K
 try simp only [Act.put, List.setIfInBounds_toArray, List.set_cons_zero, List.set_cons_succ]
 repeat (first | (refine wpPlanA_skip _ rfl (by rfl) ?_; simp only [Act.put, List.setIfInBounds_toArray, List.set_cons_zero, List.set_cons_succ]) | (refine wpPlanA_soft _ ?_ rfl (by rfl) ?_ ?_; rotate_left; (intro wq hq hcq; go_simp; first | exact rfl | exact ⟨rfl, rfl⟩); simp only [Act.put, List.setIfInBounds_toArray, List.set_cons_zero, List.set_cons_succ]))
 refine wpPlanA_hard _ rfl (by rfl) (fun w4 hS K hK => ?_)
 have hB4 := hB3.call hS rfl
 replace hC := hC.call hS rfl
 replace hT0 := blkb hT0 hS
 replace hT1 := blkb hT1 hS
 replace HR := HR.below hS
 replace H := H.below hS
 replace HOK := HOK.below hS
 clear hS hB3
 go_simp
 refine (c31 false 12 _).mono ?_
 rintro e w' ⟨rfl, rfl⟩
 refine hK _ _ hC ?_
 clear hK K
 try simp only [Act.put, List.setIfInBounds_toArray, List.set_cons_zero, List.set_cons_succ]
 repeat (first | (refine wpPlanA_skip _ rfl (by rfl) ?_; simp only [Act.put, List.setIfInBounds_toArray, List.set_cons_zero, List.set_cons_succ]) | (refine wpPlanA_soft _ ?_ rfl (by rfl) ?_ ?_; rotate_left; (intro wq hq hcq; go_simp; first | exact rfl | exact ⟨rfl, rfl⟩); simp only [Act.put, List.setIfInBounds_toArray, List.set_cons_zero, List.set_cons_succ]))
 refine wpPlanA_hard _ rfl (by rfl) (fun w5 hS K hK => ?_)
 have hB5 := hB4.call hS rfl
 replace hC := hC.call hS rfl
 replace hT0 := blkb hT0 hS
 replace hT1 := blkb hT1 hS
 replace HR := HR.below hS
 replace H := H.below hS
 replace HOK := HOK.below hS
 clear hS hB4
 go_simp
 refine (c31 false 5 _).mono ?_
 rintro e w' ⟨rfl, rfl⟩
 refine hK _ _ hC ?_
 clear hK K
 try simp only [Act.put, List.setIfInBounds_toArray, List.set_cons_zero, List.set_cons_succ]
 rw [show Mo.when false 8 = 0 from rfl, show Mo.when false 12 = 0 from rfl, show Mo.when false 5 = 0 from rfl]
 repeat (first | (refine wpPlanA_skip _ rfl (by rfl) ?_; simp only [Act.put, List.setIfInBounds_toArray, List.set_cons_zero, List.set_cons_succ]) | (refine wpPlanA_soft _ ?_ rfl (by rfl) ?_ ?_; rotate_left; (intro wq hq hcq; go_simp; first | exact rfl | exact ⟨rfl, rfl⟩); simp only [Act.put, List.setIfInBounds_toArray, List.set_cons_zero, List.set_cons_succ]))
 refine wpPlanA_hard _ rfl (by rfl) (fun w6 hS K hK => ?_)
 have hB6 := hB5.call hS rfl
 replace hC := hC.call hS rfl
 replace hT0 := blkb hT0 hS
 replace hT1 := blkb hT1 hS
 replace HR := HR.below hS
 replace H := H.below hS
 replace HOK := HOK.below hS
 clear hS hB5
 go_simp
 have hb : Below w6.heap.size w6 (w6.alloc (Obj.cells #[.int .i64 0, .int .i64 0, .int .i64 0] 36)) := (Below.refl _ _).alloc (Nat.le_refl _) _
 have hN : (w6.alloc (Obj.cells #[.int .i64 0, .int .i64 0, .int .i64 0] 36)).heap[w6.heap.size]? = some (Obj.cells #[.int .i64 0, .int .i64 0, .int .i64 0] 36) := heap_new rfl
 refine hK _ _ (hC.alloc hC.size _) ?_
 clear hK K
 replace hC := hC.call hb rfl
 have hB7 := hB6.call hb rfl
 replace hT0 := blkb hT0 hb
 replace hT1 := blkb hT1 hb
 replace HR := HR.below hb
 replace H := H.below hb
 replace HOK := HOK.below hb
 clear hb hB6
 generalize hWn : w6.alloc (Obj.cells #[.int .i64 0, .int .i64 0, .int .i64 0] 36) = w7 at hN hC hB7 hT0 hT1 HR H HOK ⊢
 clear hWn
 generalize hWn : w6.heap.size = bhN at hN ⊢
 clear hWn
 try simp only [Act.put, List.setIfInBounds_toArray, List.set_cons_zero, List.set_cons_succ]
 repeat (first | (refine wpPlanA_skip _ rfl (by rfl) ?_; simp only [Act.put, List.setIfInBounds_toArray, List.set_cons_zero, List.set_cons_succ]) | (refine wpPlanA_soft _ ?_ rfl (by rfl) ?_ ?_; rotate_left; (intro wq hq hcq; go_simp; first | exact rfl | exact ⟨rfl, rfl⟩); simp only [Act.put, List.setIfInBounds_toArray, List.set_cons_zero, List.set_cons_succ]))
 refine wpPlanA_hard _ rfl (by rfl) (fun w8 hS K hK => ?_)
 have hB8 := hB7.call hS rfl
 replace hC := hC.call hS rfl
 replace hT0 := blkb hT0 hS
 replace hT1 := blkb hT1 hS
 replace HR := HR.below hS
 replace H := H.below hS
 replace HOK := HOK.below hS
 replace hN := blkb hN hS
 clear hS hB7
 go_simp
 refine (c29 _ 3 3 [0, 0, 0] _ rfl (by omega) (RdS.of_block (cs := encI [0, 0, 0]) hN rfl)).mono ?_
 rintro e w' ⟨rfl, rfl⟩
 refine hK _ _ hC ?_
 clear hK K
 try simp only [Act.put, List.setIfInBounds_toArray, List.set_cons_zero, List.set_cons_succ]
 rw [show Mo.first [0, 0, 0] = 0 from rfl]
 repeat (first | (refine wpPlanA_skip _ rfl (by rfl) ?_; simp only [Act.put, List.setIfInBounds_toArray, List.set_cons_zero, List.set_cons_succ]) | (refine wpPlanA_soft _ ?_ rfl (by rfl) ?_ ?_; rotate_left; (intro wq hq hcq; go_simp; first | exact rfl | exact ⟨rfl, rfl⟩); simp only [Act.put, List.setIfInBounds_toArray, List.set_cons_zero, List.set_cons_succ]))
 clear hN
 clear qhT0_0 qhT0_1 qhT1_0
 refine wpPlanA_nil (fun w9 hS => ?_)
 clear hC zhT0 zhT1
 have hB9 := hB8.call hS rfl
 replace hT0 := blkb hT0 hS
 replace hT1 := blkb hT1 hS
 replace HR := HR.below hS
 replace H := H.below hS
 replace HOK := HOK.below hS
 clear hS hB8
 have qhT0_0 : w9.cell? ⟨w.heap.size, 0, none⟩ = some (.string nm) := cell_at hT0 rfl
 have qhT0_1 : w9.cell? ⟨w.heap.size, 1, none⟩ = some (.slice A n cap) := cell_at hT0 rfl
 have qhT1_0 : w9.cell? ⟨w.heap.size + 1, 0, none⟩ = some (.int .i64 0) := cell_at hT1 rfl
 refine nopan_norm ?_
 go_wp2_with fail
 refine (c46 A n cap l _ (by have := HN.out; omega) HR H M HMM.out HOK).mono ?_
 rintro e w10 ⟨A1, c1, rfl, hA1, hb⟩
 clear qhT0_0 qhT0_1 qhT1_0
 have hS := hb
 have hB10 := hB9.call hS rfl
 replace hT0 := blkb hT0 hS
 replace hT1 := blkb hT1 hS
 replace HR := HR.below hS
 replace H := H.below hS
 replace HOK := HOK.below hS
 clear hS hB9
 have qhT0_0 : w10.cell? ⟨w.heap.size, 0, none⟩ = some (.string nm) := cell_at hT0 rfl
 have qhT0_1 : w10.cell? ⟨w.heap.size, 1, none⟩ = some (.slice A n cap) := cell_at hT0 rfl
 have qhT1_0 : w10.cell? ⟨w.heap.size + 1, 0, none⟩ = some (.int .i64 0) := cell_at hT1 rfl
 clear hb
 go_wp2_with fail
 refine (c29 A1 n c1 (List.replicate n 0) _ (by simp) (by have := HN.out; omega) hA1).mono ?_
 rintro e w' ⟨rfl, rfl⟩
 rw [first_replicate]
 clear hA1
 go_wp2_with fail
 refine (c48 nm A n cap l _ (by have := HN.out; omega) H M HOK).mono ?_
 rintro e w11 ⟨rfl, hb⟩
 clear qhT0_0 qhT0_1 qhT1_0
 have hS := hb
 have hB11 := hB10.call hS rfl
 replace hT0 := blkb hT0 hS
 replace hT1 := blkb hT1 hS
 replace HR := HR.below hS
 replace H := H.below hS
 replace HOK := HOK.below hS
 clear hS hB10
 have qhT0_0 : w11.cell? ⟨w.heap.size, 0, none⟩ = some (.string nm) := cell_at hT0 rfl
 have qhT0_1 : w11.cell? ⟨w.heap.size, 1, none⟩ = some (.slice A n cap) := cell_at hT0 rfl
 have qhT1_0 : w11.cell? ⟨w.heap.size + 1, 0, none⟩ = some (.int .i64 0) := cell_at hT1 rfl
 clear hb
 have hb5 : Below w11.heap.size w11 (w11.alloc (Obj.cells #[.int .i64 (M : Nat)] 3)) := (Below.refl _ _).alloc (Nat.le_refl _) _
 have h5 : (w11.alloc (Obj.cells #[.int .i64 (M : Nat)] 3)).heap[w11.heap.size]? = some (.cells #[.int .i64 (M : Nat)] 3 (0, 0)) := heap_new rfl
 have z0 := cell_lt qhT0_0
 go_wp2_with fail
 clear qhT0_0 qhT0_1 qhT1_0 z0
 obtain ⟨wa, hwa⟩ : ∃ W, W = w11.alloc (Obj.cells #[.int .i64 (M : Nat)] 3) := ⟨_, rfl⟩
 obtain ⟨p5, hp5⟩ : ∃ p, p = w11.heap.size := ⟨_, rfl⟩
 obtain ⟨r2, hr2⟩ : ∃ p, p = w.heap.size + 1 := ⟨_, rfl⟩
 have hza : wa.heap.size = p5 + 1 := by rw [hwa, hp5]; simp
 rw [← hwa] at hb5 h5 ⊢
 rw [← hp5] at h5 ⊢
 have hl1 := (Array.getElem?_eq_some_iff.1 hT1).1
 refine (c49 _ _ _ _ _).mono ?_
 rintro e w1 ⟨rfl, hw1⟩
 obtain ⟨p, hp⟩ : ∃ p, p = wa.heap.size := ⟨_, rfl⟩
 have hb1 : Below wa.heap.size wa w1 := by rw [hw1]; exact (Below.refl _ _).alloc (Nat.le_refl _) _
 have hz1 : w1.heap.size = p + 1 := by rw [hw1, hp]; simp
 have kp : SBk w1 p nm A n cap := by unfold SBk; rw [hw1, hp]; exact heap_new rfl
 have hB1 := (hB11.call hb5 rfl).call hb1 rfl
 have k5 := blkb h5 hb1
 have k2 := blkb (blkb hT1 hb5) hb1
 rw [← hr2] at k2
 obtain ⟨bs, hbs⟩ : ∃ bs : List (Nat × Array Value × TypeId), bs = [(p, #[.string nm, .slice A n cap], 51), (p5, #[.int .i64 (M : Nat)], 3), (r2, #[.int .i64 0], 36)] := ⟨_, rfl⟩
 have I0 : BI w [] bs True w1 := by
  refine ⟨Marks.nil _ _, fun x hx => ?_, hB1, trivial⟩
  rw [hbs] at hx
  simp only [List.mem_cons, List.not_mem_nil, or_false] at hx
  rcases hx with rfl | rfl | rfl
  ·exact kp
  ·exact k5
  ·exact k2
 have HBS := Lib.hid hbs
 have HI0 := Lib.hid I0
 have HO : Hid (w.heap.size ≤ r2 ∧ r2 < p5 ∧ p5 < p ∧ p < w1.heap.size) := Lib.hid (by omega)
 rw [← hp, ← hr2]
 clear hw1 hp hr2 kp hB1 hb1 k2 k5 hbs hz1 I0 hwa hp5 hza hb5 h5 hl1 hT0 hT1 hB11 HR H HOK
 go_wp2
 refine (wpIn_wide (n := 6)).1 ?_
 refine wpIn_live (n := 6) (by omega) (p := p) (m := n) (cap := cap) (by have := HN.out; omega) (nm := nm) (A := A) (l := l) rfl
  (fun k W => BI w [] bs True W) (fun W => False)
  (fun k x a' W => ∃ bb, a' = { tmps := #[.agg #[.string nm, .slice A n cap], .pointer (some ⟨w.heap.size, 0, none⟩), .pointer (some ⟨r2, 0, none⟩), .int IntKind.i64 0, .int IntKind.i64 0, .pointer (some ⟨p5, 0, none⟩), .bool true, undef, .pointer (some ⟨bb, 0, none⟩), .pointer (some ⟨w.heap.size, 0, none⟩), .string nm, .bool true, .bool false, .int IntKind.i64 0, .pointer (some ⟨w.heap.size, 1, none⟩), .slice A n cap, .int IntKind.i64 (n : Int), .bool false, .int IntKind.i64 0, .pointer (some ⟨w.heap.size, 1, none⟩), .slice A n cap, .int IntKind.i64 (n : Int), .bool false, .int IntKind.i64 0, .slice (some ⟨bhN, 0, none⟩) 3 3, .int IntKind.i64 0, .int IntKind.i64 0, .bool false, undef, .pointer (some ⟨w.heap.size, 1, none⟩), .slice A n cap, .slice A1 n c1, .int IntKind.i64 0, .int IntKind.i64 0, .bool false, undef, .tuple #[.int IntKind.i64 (M : Nat), .bool true], .agg #[.string nm, .slice A n cap], .tuple #[.int IntKind.i64 (M : Nat), .bool true], .int IntKind.i64 (M : Nat), .bool true, .agg #[.string nm, .slice A n cap], .func (Fn.func 67) #[] #[.pointer (some ⟨p, 0, none⟩)], .int .i64 (k : Nat), x.val, undef, undef, undef, undef, undef], defers := [] } ∧ w1.heap.size ≤ bb ∧ BI w [] ((bb, #[.int .i64 0, .int .i64 0, .int .i64 0, .int .i64 0, .int .i64 x.off, .int .i64 0, .int .i64 0, .int .i64 0, .bool false, .slice x.A x.fs.length x.cap], 48) :: bs) True W)
  (fun k => ?own) (fun u W W' row h => h.elim) (fun k x a' => ?ownR)
  (fun k W h => ⟨h.blk (p, _, 51) (by rw [HBS.out]; simp), HH.out.below h.bel⟩)
  HI0.out rfl ?assign ?body ?done ?stop
 case own =>
  exact BI.own (by have := HO.out; omega) (fun _ h => by cases h)
 case ownR =>
  intro u W W' row h hg hr
  obtain ⟨bb, ha, hbb, h⟩ := h
  exact ⟨bb, ha, hbb, BI.own (by have := HO.out; omega) (fun _ h => by cases h) u W W' row h hg hr⟩
 case assign =>
  intro lr k x W K hk hx hsz hI hK
  have hba : Below W.heap.size W (W.alloc (Obj.cells #[.int .i64 0, .int .i64 0, .int .i64 0, .int .i64 0, .int .i64 x.off, .int .i64 0, .int .i64 0, .int .i64 0, .bool false, .slice x.A x.fs.length x.cap] 48)) := (Below.refl _ _).alloc (Nat.le_refl _) _
  have HK := Lib.hid (hK _ _ hba ⟨W.heap.size, rfl, hsz, ⟨Marks.nil _ _, fun y hy => by
   rcases List.mem_cons.1 hy with rfl | hy
   ·exact heap_new rfl
   ·exact blkb (hI.blk y hy) hba, hI.bel.call hba rfl, trivial⟩⟩)
  clear hK hI hba
  unfold Tc.val at HK ⊢
  gi_wp2
  go_simp
  exact HK.out
 case body =>
  intro lr k x a' W hk hx hsz hR
  obtain ⟨bb, rfl, hbb, hI⟩ := hR
  have kb : W.heap[bb]? = some (.cells #[.int .i64 0, .int .i64 0, .int .i64 0, .int .i64 0, .int .i64 x.off, .int .i64 0, .int .i64 0, .int .i64 0, .bool false, .slice x.A x.fs.length x.cap] 48 (0, 0)) := hI.blk (bb, _, _) (List.mem_cons_self ..)
  have hlen := (HK0.out x (List.mem_of_getElem? hx)).2.2.1
  rw [hlen] at kb
  have c9 : W.cell? ⟨bb, 9, none⟩ = some (.slice x.A M x.cap) := cell_at kb rfl
  have l9 := cell_lt c9
  have k2 : W.heap[p5]? = some (.cells #[.int .i64 (M : Nat)] 3 (0, 0)) := hI.blk (p5, _, _) (by rw [HBS.out]; simp)
  have c2 := cell_at k2 (i := 0) rfl
  have l2 := cell_lt c2
  have HF : Hid (KeepsFrom w1.heap.size W W ∧ BI w [] bs True W) := Lib.hid ⟨KeepsFrom.refl _ _, hI.mks, fun y hy => hI.blk y (List.mem_cons_of_mem _ hy), hI.bel, trivial⟩
  clear kb hlen hI k2 hx
  gi_wp2
  exact HF.out
 case done =>
  intro D W hD hI hK
  have k2 : W.heap[r2]? = some (.cells #[.int .i64 0] 36 (0, 0)) := hI.blk (r2, _, _) (by rw [HBS.out]; simp)
  have ne2 : r2 ≠ D := fun e => by rw [e, hK] at k2; cases k2
  have c2 := cell_at k2 (i := 0) rfl
  have f2 := free_at k2 (i := 0)
  have l2 := cell_lt c2
  have h2 := hI.set (b := r2) (bs' := bs) (.int .i64 0) (by have := HO.out; omega) k2 (fun y hy => by
   rw [HBS.out] at hy ⊢
   simp only [List.mem_cons, List.not_mem_nil, or_false] at hy
   have := HO.out
   rcases hy with rfl | rfl | rfl
   ·exact .inr ⟨by simp only; omega, by simp⟩
   ·exact .inr ⟨by simp only; omega, by simp⟩
   ·exact .inl ⟨rfl, rfl, rfl⟩)
  have k2' : (W.setCell ⟨r2, 0, none⟩ (.int .i64 0)).heap[r2]? = some (.cells #[.int .i64 0] 36 (0, 0)) := h2.blk (r2, _, _) (by rw [HBS.out]; simp)
  have hK' : (W.setCell ⟨r2, 0, none⟩ (.int .i64 0)).heap[D]? = some (.deferred (some [])) := (set_far (p := ⟨r2, 0, none⟩) _ (fun e => ne2 e.symm)).trans hK
  have c1 : ((W.setCell ⟨r2, 0, none⟩ (.int .i64 0)).putObj D (.deferred none)).cell? ⟨r2, 0, none⟩ = some (.int .i64 0) := cell_at ((World.putObj_heap_other ne2).trans k2') rfl
  have HBf := Lib.hid (h2.bel.grown (grownBy_putObj' _ D (.deferred none)) h2.bel.size (fun j hj => by cases hj; have := HO.out; omega))
  have HC1 := Lib.hid c1
  have HK := Lib.hid hK'
  clear hI k2 hK h2 k2' hK' c1
  gi_wp2
  go_wp2
  refine ⟨by simp, .inl ⟨_, _, rfl, run_takeDeferred HK.out, ?_⟩⟩
  have c1 := HC1.out
  exact ⟨.int .i64 0, by simp [results, Tryd.results19, go_sem, c1], rfl, HBf.out⟩
 case stop =>
  intro D W hD hX hK
  exact hX.elim
end Go.Proofs.YtfmgibhffgkieaaDoor
