/- A part of the proofs about chapter 7 (image): contracts of functions and plain laws (V21, V22, V23, V24, V25). -/
import Derived.Scope
import Derived.Test.YtdimmlljjmmdbaaGreatDoorZ09d
set_option linter.all false
namespace Go.Proofs.YtdimmlljjmmdbaaGreatDoor
open Go.RowKit Go.Shelf
set_option maxHeartbeats 8000000
set_option maxRecDepth 100000
attribute [local go_sem] Oper.semAt_some
def encN (row : List Nat) : List Value := row.map (fun x => Value.int .i64 (x : Nat))
theorem encN_len (row : List Nat) : (encN row).length = row.length := by simp [encN]
/-- own memory of 'Path' -/
structure PW (w : World) (Ds : List Nat) (gb b10 og b11 b12 base : Nat) (c r : Nat) (A : Option Addr) (n cap : Nat) (left : List Int) (row : List Nat) (at_ : Nat) (W : World) : Prop where
 mks : Marks w.heap.size Ds W
 bel : Below w.heap.size w W
 gg : W.heap[gb]? = some (.cells #[.int .i64 c, .int .i64 r, .slice A n cap] 35 (0, 0))
 k10 : W.heap[b10]? = some (.cells #[.slice (some ⟨og, 0, none⟩) n n] 22 (0, 0))
 ko : W.heap[og]? = some (.cells (encI left).toArray 3 (0, 0))
 k12 : W.heap[b12]? = some (.cells #[.int .i64 (at_ : Nat)] 3 (0, 0))
 k11 : ∃ g cw cs, W.heap[b11]? = some (.cells #[.slice (some ⟨g, 0, none⟩) row.length cw] 22 (0, 0)) ∧ W.heap[g]? = some (.cells cs 3 (0, 0)) ∧ row.length ≤ cw ∧ cw ≤ maxLen ∧ cs.size = cw * 1 ∧ cs.toList.take (row.length * 1) = encN row ∧ base ≤ g ∧ g ≠ b12 ∧ g ≠ b11
section
variable {w W W' : World} {Ds : List Nat} {gb b10 og b11 b12 base c r : Nat} {A : Option Addr} {n cap : Nat} {left : List Int} {row : List Nat} {at_ : Nat}
theorem PW.below (h : PW w Ds gb b10 og b11 b12 base c r A n cap left row at_ W) (hb : Below W.heap.size W W') : PW w Ds gb b10 og b11 b12 base c r A n cap left row at_ W' := by
 obtain ⟨g, cw, cs, h1, h2, h3⟩ := h.k11
 exact ⟨h.mks.below hb, h.bel.call hb rfl |> fun q => q, blkb h.gg hb, blkb h.k10 hb, blkb h.ko hb, blkb h.k12 hb, g, cw, cs, blkb h1 hb, blkb h2 hb, h3⟩
theorem PW.own {B : Nat} (hB : w.heap.size ≤ B) (hD : ∀ D ∈ Ds, D < B) {row' : Option Nat} (h : PW w Ds gb b10 og b11 b12 base c r A n cap left row at_ W) (hg : W.grownBy W' row') (hr : ∀ k, row' = some k → B ≤ k ∧ ∃ o : Obj, W.heap[k]? = some o ∧ o.isCells = false) :
  PW w Ds gb b10 og b11 b12 base c r A n cap left row at_ W' := by
 have key : ∀ {k : Nat} {cs : Array Value} {t : TypeId} {f : Nat × Nat}, W.heap[k]? = some (.cells cs t f) → W'.heap[k]? = some (.cells cs t f) := fun {k cs t f} hk => by
  refine (hg.block k (Array.getElem?_eq_some_iff.1 hk).1 (fun e => ?_)).trans hk
  obtain ⟨_, o, ho, hc⟩ := hr k e.symm
  rw [hk] at ho
  cases ho
  cases hc
 obtain ⟨g, cw, cs, h1, h2, h3⟩ := h.k11
 refine ⟨⟨h.mks.1, fun D hDs => ⟨(h.mks.2 D hDs).1, ?_⟩⟩, h.bel.grown hg h.bel.size (fun j hj => by have := (hr j hj).1; omega), key h.gg, key h.k10, key h.ko, key h.k12, g, cw, cs, key h1, key h2, h3⟩
 refine (hg.block D (h.mks.lt D hDs) (fun e => ?_)).trans (h.mks.2 D hDs).2
 have := (hr D e.symm).1
 have := hD D hDs
 omega
end
theorem PW.push {w W W10 : World} {Ds : List Nat} {gb b10 og b11 b12 base c r : Nat} {A : Option Addr} {n cap : Nat} {left : List Int} {row : List Nat} {at_ : Nat} (h : PW w Ds gb b10 og b11 b12 base c r A n cap left row at_ W)
  (hO : gb < og ∧ w.heap.size ≤ gb ∧ og < b10 ∧ base = b10 + 1 ∧ b11 = b10 + 2 ∧ b12 = b10 + 3) {gr cw : Nat} (k11 : W.heap[b11]? = some (.cells #[.slice (some ⟨gr, 0, none⟩) row.length cw] 22 (0, 0))) (hr0 : 0 < row.length) (b : Nat) {x' : Value}
  (hown : W10.ownsRow base 3 1 x' (row.length + 1) (encN row ++ [.int .i64 (b : Nat)])) (hg : W.grownBy W10 (some gr)) :
  ∃ g' cap', x' = .slice (some ⟨g', 0, none⟩) (row.length + 1) cap' ∧ W10.heap[b11]? = W.heap[b11]? ∧ W10.heap[b12]? = W.heap[b12]? ∧
   PW w Ds gb b10 og b11 b12 base c r A n cap left (row ++ [b]) b ((W10.setCell ⟨b11, 0, none⟩ (.slice (some ⟨g', 0, none⟩) (row.length + 1) cap')).setCell ⟨b12, 0, none⟩ (.int .i64 (b : Nat))) ∧
   ∀ (k : Nat) (o : Obj), W.heap[k]? = some o → o.isCells = false → ((W10.setCell ⟨b11, 0, none⟩ (.slice (some ⟨g', 0, none⟩) (row.length + 1) cap')).setCell ⟨b12, 0, none⟩ (.int .i64 (b : Nat))).heap[k]? = some o := by
 obtain ⟨gr', cw', cs, k11', kr, r1, r2, r3, r4, r5, r6, r7⟩ := h.k11
 have hgg : gr' = gr := by
  rw [k11] at k11'
  simp only [Option.some.injEq, Obj.cells.injEq] at k11'
  have := k11'.1
  simp at this
  exact this.1.symm
 subst hgg
 obtain ⟨o1, o2, o3, o4, o5, o6⟩ := hO
 obtain ⟨hx0, ⟨_, h0⟩ | ⟨g', cap', cur', rfl, hgb', hh', hn', hc', hs', ht'⟩⟩ := hown
 ·omega
 have kp : ∀ (k : Nat) (o : Obj), W.heap[k]? = some o → k ≠ gr' → W10.heap[k]? = some o := fun k o hk hne => (hg.block k (Array.getElem?_eq_some_iff.1 hk).1 (fun e => hne (by simpa using e))).trans hk
 have e11 := kp _ _ k11 (Ne.symm r7)
 have e12 := kp _ _ h.k12 (Ne.symm r6)
 have hne11 : g' ≠ b11 := fun e => by
  rw [e, e11] at hh'
  simp at hh'
 have hne12 : g' ≠ b12 := fun e => by
  rw [e, e12] at hh'
  simp only [Option.some.injEq, Obj.cells.injEq] at hh'
  have : cur'.size = 1 := by rw [← hh'.1]; rfl
  omega
 have st : ∀ (k : Nat) (o : Obj), W10.heap[k]? = some o → k ≠ b11 → k ≠ b12 → ((W10.setCell ⟨b11, 0, none⟩ (.slice (some ⟨g', 0, none⟩) (row.length + 1) cap')).setCell ⟨b12, 0, none⟩ (.int .i64 (b : Nat))).heap[k]? = some o := fun k o hk h1 h2 => (set_far _ h2).trans ((set_far _ h1).trans hk)
 have nc : ∀ (k : Nat) (o : Obj), W.heap[k]? = some o → o.isCells = false → ((W10.setCell ⟨b11, 0, none⟩ (.slice (some ⟨g', 0, none⟩) (row.length + 1) cap')).setCell ⟨b12, 0, none⟩ (.int .i64 (b : Nat))).heap[k]? = some o := fun k o hk hc =>
  st k o (kp k o hk (fun e => by subst e; rw [kr] at hk; cases hk; cases hc)) (fun e => by subst e; rw [k11] at hk; cases hk; cases hc) (fun e => by subst e; have := h.k12; rw [hk] at this; cases this; cases hc)
 refine ⟨g', cap', rfl, e11.trans k11.symm, e12.trans h.k12.symm, ⟨h.mks.keep nc, ?_, st _ _ (kp _ _ h.gg (by omega)) (by omega) (by omega), st _ _ (kp _ _ h.k10 (by omega)) (by omega) (by omega), st _ _ (kp _ _ h.ko (by omega)) (by omega) (by omega), ?_, g', cap', cur', ?_, st _ _ hh' hne11 hne12, by simpa using hn', hc', hs', ?_, hgb', hne12, hne11⟩, nc⟩
 ·refine (((h.bel.grown hg h.bel.size (fun j hj => by cases hj; omega)).setCell (p := ⟨b11, 0, none⟩) (by show _ ≤ b11; omega) _).setCell (p := ⟨b12, 0, none⟩) (by show _ ≤ b12; omega) _)
 ·exact set_blk (i := 0) ((set_far _ (by show b12 ≠ b11; omega)).trans e12) _
 ·rw [List.length_append]
  exact (set_far _ (by show b11 ≠ b12; omega)).trans (set_blk (i := 0) e11 _)
 ·rw [List.length_append]
  simp only [List.length_cons, List.length_nil]
  rw [ht']
  simp [encN]
def StopQ (P : Prop) : Prop := P
theorem stopq {P : Prop} (h : StopQ P) : P := h
def noPanic (Q : Exit → Act → World → Prop) : Exit → Act → World → Prop
 | .panic _, _, _ => False
 | e, a, w => Q e a w
theorem wp_nopanic {P : Program} {c : Code} {Q : Exit → Act → World → Prop} {a : Act} {w : World} (h : c.wp P (noPanic Q) a w) : c.wp P Q a w :=
 wp_mono h (fun e a w h => by cases e <;> first | exact h | exact h.elim)
/-- where the walk stands, read off the world -/
def pmeas (b12 : Nat) (left : List Int) (w : World) : Nat := match w.cell? ⟨b12, 0, none⟩ with | some (.int _ x) => (Im.at0 left x.toNat).toNat | _ => 0
theorem c59_ok (c r : Nat) (A : Option Addr) (n cap : Nat) (l : List Int) (s d : Nat) (w : World) (g : Im.Gr c r l) (hc : c ≤ 16) (hr : r ≤ 16) (H : RdI w A n l) (hst : Steps w) (hs : s < n) (hd : d < n) :
  Calls Tryz.prog 59 #[.agg #[.int .i64 c, .int .i64 r, .slice A n cap], .int .i64 s, .int .i64 d] w fun en w' => ∃ g cw left, en = .returned (.tuple #[.slice (some ⟨g, 0, none⟩) (Im.way c l left d s).length cw, .int .i64 (Im.at0 left s), .int .i64 0]) ∧ Im.IsT c l d left ∧ RdI w' (some ⟨g, 0, none⟩) (Im.way c l left d s).length ((Im.way c l left d s).map (fun x : Nat => (x : Int))) ∧ Below w.heap.size w w' := by
 have hl : n ≤ 1000000 := by have := H.len; have := g.len; have : c * r ≤ 256 := Nat.mul_le_mul hc hr; omega
 have hF : Mo.first [Mo.ground c r l, Mo.cell n s, Mo.cell n d] = 0 := first3 (Mo.ground_of g hc hr) (Mo.cell_ok.2 (by omega)) (Mo.cell_ok.2 (by omega))
 have HRD := Lib.hid H
 have HST := Lib.hid hst
 obtain ⟨w0, hW⟩ : ∃ W, W = w.alloc (Obj.cells #[.int .i64 c, .int .i64 r, .slice A n cap] 35) := ⟨_, rfl⟩
 have hT0 : w0.heap[w.heap.size]? = some (.cells #[.int .i64 c, .int .i64 r, .slice A n cap] 35 (0, 0)) := by rw [hW]; exact heap_new (by simp)
 have hB0 : Below w.heap.size w w0 := by rw [hW]; exact ((Below.refl _ _).alloc (by first | omega | (simp <;> omega)) _)
 replace H := H.below hB0
 replace hst := hst.below hB0
 refine (callsIn_wide (n := 6)).1 ?_
 refine callsIn_of_wp_marks Tryz.func59 rfl trivial ?_ rfl
 refine wpIn_wide.2 (wp_nopanic ?_)
 simp only [Tryz.ntmps59, List.size_toArray, List.length_cons, List.length_nil, Nat.reduceAdd, Nat.reduceSub, Array.replicate_succ, Array.replicate_zero, List.push_toArray, List.append_toArray, List.nil_append, List.cons_append]
 go_wp2_with fail
 rw [← hW]
 clear hW
 refine wp_scope_straight ?_
 go_wp2_with fail
 have qhT0_0 : w0.cell? ⟨w.heap.size, 0, none⟩ = some (.int .i64 c) := cell_at hT0 rfl
 have qhT0_1 : w0.cell? ⟨w.heap.size, 1, none⟩ = some (.int .i64 r) := cell_at hT0 rfl
 have qhT0_2 : w0.cell? ⟨w.heap.size, 2, none⟩ = some (.slice A n cap) := cell_at hT0 rfl
 refine wp_region_plan [(0, true), (2, true), (3, true), (5, true), (6, true), (1, false), (4, false), (7, false), (8, false), (9, false), (10, true)] w0.heap.size (by kernel_rfl) (by kernel_rfl) (Nat.le_refl _) (fun _ _ d _ _ h => by cases d <;> exact h) ?_
 have hC : Below w0.heap.size w0 w0 := Below.refl _ _
 have zhT0 : w.heap.size < w0.heap.size := (Array.getElem?_eq_some_iff.1 hT0).1
 repeat (first | (refine wpPlanA_skip _ rfl (by rfl) ?_; simp only [Act.put, List.setIfInBounds_toArray, List.set_cons_zero, List.set_cons_succ]) | (refine wpPlanA_soft _ ?_ rfl (by rfl) ?_ ?_; rotate_left; (intro wq hq hcq; go_simp; first | exact rfl | exact ⟨rfl, rfl⟩); simp only [Act.put, List.setIfInBounds_toArray, List.set_cons_zero, List.set_cons_succ]))
 refine wpPlanA_hard _ rfl (by rfl) (fun w1 hS K hK => ?_)
 have hB1 := hB0.call hS rfl
 replace hC := hC.call hS rfl
 replace hT0 := blkb hT0 hS
 replace H := H.below hS
 replace hst := hst.below hS
 clear hS hB0
 go_simp
 refine (c64 c r A n cap l _ hl H).mono ?_
 rintro e w2 ⟨rfl, hb⟩
 have hB2 := hB1.call hb rfl
 replace hC := hC.call hb rfl
 replace hT0 := blkb hT0 hb
 replace H := H.below hb
 replace hst := hst.below hb
 clear hb hB1
 refine hK _ _ hC ?_
 clear hK K
 try simp only [Act.put, List.setIfInBounds_toArray, List.set_cons_zero, List.set_cons_succ]
 refine wpPlanA_hard _ rfl (by rfl) (fun w3 hS K hK => ?_)
 have hB3 := hB2.call hS rfl
 replace hC := hC.call hS rfl
 replace hT0 := blkb hT0 hS
 replace H := H.below hS
 replace hst := hst.below hS
 clear hS hB2
 go_simp
 refine (c97 c r A n cap s _).mono ?_
 rintro e w4 ⟨rfl, hb⟩
 have hB4 := hB3.call hb rfl
 replace hC := hC.call hb rfl
 replace hT0 := blkb hT0 hb
 replace H := H.below hb
 replace hst := hst.below hb
 clear hb hB3
 refine hK _ _ hC ?_
 clear hK K
 try simp only [Act.put, List.setIfInBounds_toArray, List.set_cons_zero, List.set_cons_succ]
 refine wpPlanA_hard _ rfl (by rfl) (fun w5 hS K hK => ?_)
 have hB5 := hB4.call hS rfl
 replace hC := hC.call hS rfl
 replace hT0 := blkb hT0 hS
 replace H := H.below hS
 replace hst := hst.below hS
 clear hS hB4
 go_simp
 refine (c97 c r A n cap d _).mono ?_
 rintro e w6 ⟨rfl, hb⟩
 have hB6 := hB5.call hb rfl
 replace hC := hC.call hb rfl
 replace hT0 := blkb hT0 hb
 replace H := H.below hb
 replace hst := hst.below hb
 clear hb hB5
 refine hK _ _ hC ?_
 clear hK K
 try simp only [Act.put, List.setIfInBounds_toArray, List.set_cons_zero, List.set_cons_succ]
 refine wpPlanA_hard _ rfl (by rfl) (fun w7 hS K hK => ?_)
 have hB7 := hB6.call hS rfl
 replace hC := hC.call hS rfl
 replace hT0 := blkb hT0 hS
 replace H := H.below hS
 replace hst := hst.below hS
 clear hS hB6
 go_simp
 have hb : Below w7.heap.size w7 (w7.alloc (Obj.cells #[.int .i64 (Mo.ground c r l), .int .i64 (Mo.cell n s), .int .i64 (Mo.cell n d)] 32)) := (Below.refl _ _).alloc (Nat.le_refl _) _
 have k1 : (w7.alloc (Obj.cells #[.int .i64 (Mo.ground c r l), .int .i64 (Mo.cell n s), .int .i64 (Mo.cell n d)] 32)).heap[w7.heap.size]? = some (Obj.cells #[.int .i64 (Mo.ground c r l), .int .i64 (Mo.cell n s), .int .i64 (Mo.cell n d)] 32) := heap_new rfl
 refine hK _ _ (hC.alloc hC.size _) ?_
 clear hK K
 replace hC := hC.call hb rfl
 have hB8 := hB7.call hb rfl
 replace hT0 := blkb hT0 hb
 replace H := H.below hb
 replace hst := hst.below hb
 clear hb hB7
 generalize hWn : w7.alloc (Obj.cells #[.int .i64 (Mo.ground c r l), .int .i64 (Mo.cell n s), .int .i64 (Mo.cell n d)] 32) = w8 at k1 hC hB8 hT0 H hst ⊢
 clear hWn
 generalize hWn : w7.heap.size = bk1 at k1 ⊢
 clear hWn
 try simp only [Act.put, List.setIfInBounds_toArray, List.set_cons_zero, List.set_cons_succ]
 refine wpPlanA_hard _ rfl (by rfl) (fun w9 hS K hK => ?_)
 have hB9 := hB8.call hS rfl
 replace hC := hC.call hS rfl
 replace hT0 := blkb hT0 hS
 replace H := H.below hS
 replace hst := hst.below hS
 replace k1 := blkb k1 hS
 clear hS hB8
 go_simp
 refine (c89 _ 3 3 [Mo.ground c r l, Mo.cell n s, Mo.cell n d] _ rfl (by omega) (RdS.of_block (cs := encI [Mo.ground c r l, Mo.cell n s, Mo.cell n d]) k1 rfl)).mono ?_
 rintro e w' ⟨rfl, rfl⟩
 refine hK _ _ hC ?_
 clear hK K
 try simp only [Act.put, List.setIfInBounds_toArray, List.set_cons_zero, List.set_cons_succ]
 repeat (first | (refine wpPlanA_skip _ rfl (by rfl) ?_; simp only [Act.put, List.setIfInBounds_toArray, List.set_cons_zero, List.set_cons_succ]) | (refine wpPlanA_soft _ ?_ rfl (by rfl) ?_ ?_; rotate_left; (intro wq hq hcq; go_simp; first | exact rfl | exact ⟨rfl, rfl⟩); simp only [Act.put, List.setIfInBounds_toArray, List.set_cons_zero, List.set_cons_succ]))
 clear k1
 clear qhT0_0 qhT0_1 qhT0_2
 refine wpPlanA_nil (fun w10 hS => ?_)
 clear hC zhT0
 have hB10 := hB9.call hS rfl
 replace hT0 := blkb hT0 hS
 replace H := H.below hS
 replace hst := hst.below hS
 clear hS hB9
 have qhT0_0 : w10.cell? ⟨w.heap.size, 0, none⟩ = some (.int .i64 c) := cell_at hT0 rfl
 have qhT0_1 : w10.cell? ⟨w.heap.size, 1, none⟩ = some (.int .i64 r) := cell_at hT0 rfl
 have qhT0_2 : w10.cell? ⟨w.heap.size, 2, none⟩ = some (.slice A n cap) := cell_at hT0 rfl
 rw [hF]
 clear hF
 go_wp2_with fail
 refine (c127 c r A n cap l d _ g hc hr hd H hst).mono ?_
 rintro e w11 ⟨og, left, rfl, ho, ht, hT, hb⟩
 have HOG := ho
 have GLT : w.heap.size < w10.heap.size := (Array.getElem?_eq_some_iff.1 hT0).1
 clear ho
 clear qhT0_0 qhT0_1 qhT0_2
 have hS := hb
 have hB11 := hB10.call hS rfl
 replace hT0 := blkb hT0 hS
 replace H := H.below hS
 replace hst := hst.below hS
 clear hS hB10
 have qhT0_0 : w11.cell? ⟨w.heap.size, 0, none⟩ = some (.int .i64 c) := cell_at hT0 rfl
 have qhT0_1 : w11.cell? ⟨w.heap.size, 1, none⟩ = some (.int .i64 r) := cell_at hT0 rfl
 have qhT0_2 : w11.cell? ⟨w.heap.size, 2, none⟩ = some (.slice A n cap) := cell_at hT0 rfl
 clear hb
 go_wp2_with fail
 refine wp_label ?_
 obtain ⟨gb, hgb⟩ : ∃ b, b = w.heap.size := ⟨_, rfl⟩
 obtain ⟨b10, hb10⟩ : ∃ b, b = w11.heap.size := ⟨_, rfl⟩
 obtain ⟨w2, hw2⟩ : ∃ W, W = (((w11.alloc (Obj.cells #[.slice (some ⟨og, 0, none⟩) n n] 22)).alloc (Obj.cells #[.int .i64 s] 3)).alloc (Obj.cells #[.slice (some ⟨b10 + 1, 0, none⟩) 1 1] 22)).alloc (Obj.cells #[.int .i64 s] 3) := ⟨_, rfl⟩
 have hsz11 := hB11.size
 have hogl : og < w11.heap.size := (Array.getElem?_eq_some_iff.1 ht).1
 have hord : gb < og ∧ w.heap.size ≤ gb ∧ og < b10 := by
  have hgl : gb < w10.heap.size := by rw [hgb]; exact GLT
  omega
 have hpw : PW w [] gb b10 og (b10 + 1 + 1) (b10 + 1 + 1 + 1) (b10 + 1) c r A n cap left [s] s w2 := by
  have h1 : w2.heap[b10]? = some (.cells #[.slice (some ⟨og, 0, none⟩) n n] 22 (0, 0)) := by rw [hw2]; exact heap_old (by simp; omega) (heap_old (by simp; omega) (heap_old (by simp; omega) (heap_new hb10)))
  have h2 : w2.heap[b10 + 1]? = some (.cells #[.int .i64 s] 3 (0, 0)) := by rw [hw2]; exact heap_old (by simp; omega) (heap_old (by simp; omega) (heap_new (by simp; omega)))
  have h3 : w2.heap[b10 + 1 + 1]? = some (.cells #[.slice (some ⟨b10 + 1, 0, none⟩) 1 1] 22 (0, 0)) := by rw [hw2]; exact heap_old (by simp; omega) (heap_new (by simp; omega))
  have h4 : w2.heap[b10 + 1 + 1 + 1]? = some (.cells #[.int .i64 s] 3 (0, 0)) := by rw [hw2]; exact heap_new (by simp; omega)
  have hbb : Below w11.heap.size w11 w2 := by rw [hw2]; exact ((below2 _ _ _).alloc (by simp; omega) _).alloc (by simp; omega) _
  refine ⟨Marks.nil _ _, hB11.call hbb rfl, by rw [hgb]; exact blkb hT0 hbb, h1, blkb ht hbb, h4, b10 + 1, 1, _, h3, h2, by simp, by unfold maxLen; omega, by simp, by simp [encN], Nat.le_refl _, by omega, by omega⟩
 go_wp2_with fail
 rw [← hgb, ← hb10, ← hw2]
 obtain ⟨b11, hb11⟩ : ∃ b, b = b10 + 1 + 1 := ⟨_, rfl⟩
 obtain ⟨b12, hb12⟩ : ∃ b, b = b11 + 1 := ⟨_, rfl⟩
 obtain ⟨base, hbase⟩ : ∃ b, b = b10 + 1 := ⟨_, rfl⟩
 rw [← hb11, ← hb12, ← hbase] at hpw
 rw [← hb11, ← hb12, ← hbase]
 have HO := Lib.hid (show gb < og ∧ w.heap.size ≤ gb ∧ og < b10 ∧ base = b10 + 1 ∧ b11 = b10 + 2 ∧ b12 = b10 + 3 by omega)
 have hln := Lib.hid g.len
 have HLN : Hid (l.length = n) := Lib.hid H.len
 have HTL := Lib.hid hT
 have hn256 : Hid (n ≤ 256) := Lib.hid (by have := H.len; have := g.len; have : c * r ≤ 256 := Nat.mul_le_mul hc hr; omega)
 have HW := Lib.hid (fun a (h : a < l.length) => Im.way_len hT (a := a) h)
 clear hw2 hb10 hb11 hb12 hbase hgb hord hogl hsz11 ht hT H hst hB11 hT0 GLT qhT0_0 qhT0_1 qhT0_2 HOG
 refine wp_loop (fun a' wr => ∃ (Ds : List Nat) (row : List Nat) (a : Nat), (∃ dn, row = dn ++ [a] ∧ dn ++ Im.way c l left d a = Im.way c l left d s ∧ a < n ∧ PW w Ds gb b10 og b11 b12 base c r A n cap left row a wr) ∧ a' = { tmps := #[.agg #[.int .i64 c, .int .i64 r, .slice A n cap], .int .i64 s, .int .i64 d, .pointer (some ⟨gb, 0, none⟩), undef, undef, .slice none 0 0, .int .i64 0, .int .i64 0, .int .i64 0, .pointer (some ⟨b10, 0, none⟩), .pointer (some ⟨b11, 0, none⟩), .pointer (some ⟨b12, 0, none⟩), a'.tmps.getD 13 undef, a'.tmps.getD 14 undef, .agg #[.int .i64 c, .int .i64 r, .slice A n cap], .int .i64 (Mo.ground c r l), .agg #[.int .i64 c, .int .i64 r, .slice A n cap], .int .i64 s, .int .i64 (Mo.cell n s), .agg #[.int .i64 c, .int .i64 r, .slice A n cap], .int .i64 d, .int .i64 (Mo.cell n d), .slice (some ⟨bk1, 0, none⟩) 3 3, .int .i64 0, .int .i64 0, .bool false, undef, .agg #[.int .i64 c, .int .i64 r, .slice A n cap], .int .i64 d, .slice (some ⟨og, 0, none⟩) n n, .int .i64 s, .slice (some ⟨base, 0, none⟩) 1 1, .int .i64 s, a'.tmps.getD 34 undef, a'.tmps.getD 35 undef, a'.tmps.getD 36 undef, a'.tmps.getD 37 undef, a'.tmps.getD 38 undef, a'.tmps.getD 39 undef, a'.tmps.getD 40 undef, a'.tmps.getD 41 undef, a'.tmps.getD 42 undef, a'.tmps.getD 43 undef, a'.tmps.getD 44 undef, a'.tmps.getD 45 undef, a'.tmps.getD 46 undef, a'.tmps.getD 47 undef, a'.tmps.getD 48 undef, a'.tmps.getD 49 undef, a'.tmps.getD 50 undef, a'.tmps.getD 51 undef, a'.tmps.getD 52 undef, a'.tmps.getD 53 undef, a'.tmps.getD 54 undef, a'.tmps.getD 55 undef, a'.tmps.getD 56 undef, a'.tmps.getD 57 undef, undef, undef, undef, undef, undef], defers := MarkL Ds }) (fun _ wr => pmeas b12 left wr) ?atStart ?round
 case atStart => exact ⟨[], [s], s, ⟨[], rfl, rfl, hs, hpw⟩, rfl⟩
 case round =>
  clear hpw
  rintro a0 wr ⟨Ds, row, a, ⟨dn, hrow, hdn, han, hP⟩, ha0⟩
  obtain ⟨u, hu⟩ : ∃ u : Nat → Value, u = fun k => a0.tmps.getD k undef := ⟨_, rfl⟩
  have ha1 : a0 = { tmps := #[.agg #[.int .i64 c, .int .i64 r, .slice A n cap], .int .i64 s, .int .i64 d, .pointer (some ⟨gb, 0, none⟩), undef, undef, .slice none 0 0, .int .i64 0, .int .i64 0, .int .i64 0, .pointer (some ⟨b10, 0, none⟩), .pointer (some ⟨b11, 0, none⟩), .pointer (some ⟨b12, 0, none⟩), u 13, u 14, .agg #[.int .i64 c, .int .i64 r, .slice A n cap], .int .i64 (Mo.ground c r l), .agg #[.int .i64 c, .int .i64 r, .slice A n cap], .int .i64 s, .int .i64 (Mo.cell n s), .agg #[.int .i64 c, .int .i64 r, .slice A n cap], .int .i64 d, .int .i64 (Mo.cell n d), .slice (some ⟨bk1, 0, none⟩) 3 3, .int .i64 0, .int .i64 0, .bool false, undef, .agg #[.int .i64 c, .int .i64 r, .slice A n cap], .int .i64 d, .slice (some ⟨og, 0, none⟩) n n, .int .i64 s, .slice (some ⟨base, 0, none⟩) 1 1, .int .i64 s, u 34, u 35, u 36, u 37, u 38, u 39, u 40, u 41, u 42, u 43, u 44, u 45, u 46, u 47, u 48, u 49, u 50, u 51, u 52, u 53, u 54, u 55, u 56, u 57, undef, undef, undef, undef, undef], defers := MarkL Ds } := by rw [hu]; exact ha0
  clear ha0 hu
  subst ha1
  dsimp only
  obtain ⟨gr, cw, cs, k11, kr, r1, r2, r3, r4, r5, r6, r7⟩ := hP.k11
  have c12 : wr.cell? ⟨b12, 0, none⟩ = some (.int .i64 a) := cell_at hP.k12 rfl
  have c11 : wr.cell? ⟨b11, 0, none⟩ = some (.slice (some ⟨gr, 0, none⟩) row.length cw) := cell_at k11 rfl
  have c10 : wr.cell? ⟨b10, 0, none⟩ = some (.slice (some ⟨og, 0, none⟩) n n) := cell_at hP.k10 rfl
  have g0 : wr.cell? ⟨gb, 0, none⟩ = some (.int .i64 c) := cell_at hP.gg rfl
  have g1 : wr.cell? ⟨gb, 1, none⟩ = some (.int .i64 r) := cell_at hP.gg rfl
  have g2 : wr.cell? ⟨gb, 2, none⟩ = some (.slice A n cap) := cell_at hP.gg rfl
  have l12 := cell_lt c12
  have l11 := cell_lt c11
  have l10 := cell_lt c10
  have lg := cell_lt g0
  have HPW := Lib.hid hP
  have HDN := Lib.hid hdn
  have HRW := Lib.hid hrow
  have hpm : Hid (pmeas b12 left wr = (Im.at0 left a).toNat) := Lib.hid (by unfold pmeas; rw [c12]; simp)
  by_cases had : a = d
  ·have hdd : ((a : Int) != (d : Int)) = false := by simp; omega
   have hos : wr.cell? ⟨og, s, none⟩ = some (.int .i64 (Im.at0 left s)) := by
    refine cell_at hP.ko ?_
    have hll : left.length = n := by rw [HTL.out.len, HLN.out]
    simp [encI, Im.at0, List.getD_eq_getElem?_getD, hll, hs]
   have los := cell_lt hos
   have hrd : ∀ V : World, V.heap[gr]? = some (.cells cs 3 (0, 0)) → RdI V (some ⟨gr, 0, none⟩) row.length (row.map (fun x : Nat => (x : Int))) := by
    intro V kr
    refine ⟨by simp [encI], fun _ => ⟨gr, 0, rfl, (Array.getElem?_eq_some_iff.1 kr).1, fun j hj => ?_⟩⟩
    have hj2 : j < row.length := by simpa [encI] using hj
    have hh : encI (row.map (fun x : Nat => (x : Int))) = encN row := by simp [encI, encN]
    rw [hh, ← r4, List.getElem?_take, if_pos (by omega), Nat.zero_add]
    simp [World.cell?, kr]
   have HR := Lib.hid hrd
   have HKR := Lib.hid kr
   have hfin : row = Im.way c l left d s := by rw [hrow, ← hdn, had, Im.way_end]
   have HFN := Lib.hid hfin
   clear hP hdn hrow k11 kr r1 r2 r3 r4 r5 r6 r7 hrd hfin had
   go_wp2
   refine wp_region_growG (by kernel_rfl) (by kernel_rfl) ?_
   repeat (go_big_quiet_step ((first | fail)))
   refine wpQuiet_nil (gw_out ?_)
   intro w3 hw3
   have HW3 := Lib.hid hw3
   clear hw3
   go_wp2
   rw [Exit.noGoto_ret]
   refine leaves_marks Ds w3 w3 (HPW.out.mks.below HW3.out) (Aft.refl _ _) rfl (fun w' ha => ?_)
   refine ⟨.tuple #[.slice (some ⟨gr, 0, none⟩) row.length cw, .int .i64 (Im.at0 left s), .int .i64 0], by simp [results, Tryz.results59, go_sem], ?_⟩
   rw [HFN.out]
   have hkr := ha.1 _ _ (blkb HKR.out HW3.out) rfl
   have hb3 := (HPW.out.below HW3.out).bel
   exact ⟨gr, cw, left, rfl, HTL.out, by rw [← HFN.out]; exact HR.out _ hkr, ha.2 w hb3.size hb3⟩
  ·have hdd : ((a : Int) != (d : Int)) = true := by simp; omega
   have HAD : Hid (a ≠ d) := Lib.hid had
   have HAL : Hid (a < l.length) := Lib.hid (by rw [HLN.out]; exact han)
   clear hP hdn hrow k11 kr r1 r2 r3 r4 r5 r6 r7 had
   go_wp2_with fail
   refine (c128 c r A n cap (a : Nat) wr).mono ?_
   rintro e w2 ⟨rfl, hw2⟩
   have hB2 : Below wr.heap.size wr w2 := by rw [hw2]; exact below2 _ _ _
   obtain ⟨pg, hpg⟩ : ∃ p, p = wr.heap.size := ⟨_, rfl⟩
   have KG : w2.heap[pg]? = some (.cells #[.int .i64 c, .int .i64 r, .slice A n cap] 35 (0, 0)) := by rw [hw2]; exact heap_old (by simp; omega) (heap_new hpg)
   have KI : w2.heap[pg + 1]? = some (.cells #[.int .i64 a] 3 (0, 0)) := by rw [hw2]; exact heap_new (by simp; omega)
   have hP2 := HPW.out.below hB2
   have HP2 := Lib.hid hP2
   have hsz := hP2.bel.size
   have HSZ := Lib.hid hsz
   rw [← hpg]
   have HKG := Lib.hid KG
   have HKI := Lib.hid KI
   clear hw2 hB2 hpg hP2 hsz KG KI c12 c11 c10 g0 g1 g2 l12 l11 l10 lg
   go_wp2
   refine (wpIn_wide (n := 6)).1 ?_
   refine wpIn_nbs (n := 6) (by omega) (pi := pg + 1) (pg := pg) g hc hr (A := A) (N := n) (cap := cap) (i := a) HAL.out rfl rfl (.exit 1) (fun pre W => (W.heap[pg]? = some (.cells #[.int .i64 c, .int .i64 r, .slice A n cap] 35 (0, 0)) ∧ W.heap[pg + 1]? = some (.cells #[.int .i64 a] 3 (0, 0))) ∧ PW w Ds gb b10 og b11 b12 base c r A n cap left row a W ∧ ∀ e ∈ pre, Im.at0 left a ≠ e.2 + Im.at0 left e.1) (fun W => ∃ b, PW w Ds gb b10 og b11 b12 base c r A n cap left (row ++ [b]) b W ∧ Im.nxt c l left a = some b)
    (fun pre _ W W' row' h hg hr' => ?hI) (fun _ W W' row' h hg hr' => ?hIx)
    (fun pre W h => ⟨h.1.2, h.1.1, HRD.out.below h.2.1.bel, HST.out.below h.2.1.bel⟩) ⟨⟨HKG.out, HKI.out⟩, HP2.out, fun e he => by cases he⟩ ?a1 ?assign ?body ?done ?stop
   case hI =>
    have key : ∀ {k : Nat} {cs : Array Value} {t : TypeId} {f : Nat × Nat}, W.heap[k]? = some (.cells cs t f) → W'.heap[k]? = some (.cells cs t f) := fun {k cs t f} hk => by
     refine (hg.block k (Array.getElem?_eq_some_iff.1 hk).1 (fun e => ?_)).trans hk
     obtain ⟨_, o, ho, hc⟩ := hr' k e.symm
     rw [hk] at ho
     cases ho
     cases hc
    exact ⟨⟨key h.1.1, key h.1.2⟩, h.2.1.own HSZ.out HP2.out.mks.lt hg hr', h.2.2⟩
   case hIx =>
    obtain ⟨b, h1, h2⟩ := h
    exact ⟨b, h1.own HSZ.out HP2.out.mks.lt hg hr', h2⟩
   case assign =>
    intro lr y W K hK
    have HK := Lib.hid hK
    clear hK
    gi_wp2
    exact HK.out
   case done =>
    intro D W hD hI hK
    exact (Im.nbs_never g HAL.out HTL.out HAD.out hI.2.2).elim
   case stop =>
    intro D W hD hX hK
    obtain ⟨b, hX, hnx⟩ := hX
    have hM : Marks w.heap.size (D :: Ds) W := HP2.out.mks.push hX.mks HSZ.out hD hK
    have HM := Lib.hid hM
    have HX := Lib.hid hX
    have HNX := Lib.hid hnx
    clear hX hnx hM hK
    gi_wp2
    obtain ⟨b1, b2, b3, _⟩ := Im.nxt_some HNX.out
    refine ⟨⟨D :: Ds, row ++ [b], b, ⟨row, rfl, ?_, by rw [← HLN.out]; exact b1, ⟨HM.out, HX.out.bel, HX.out.gg, HX.out.k10, HX.out.ko, HX.out.k12, HX.out.k11⟩⟩, by rfl⟩, ?_⟩
    ·rw [← HDN.out, Im.way_step HTL.out HAL.out HAD.out HNX.out, HRW.out]
     simp
    ·show pmeas _ _ _ < pmeas _ _ _
     rw [hpm.out]
     have : pmeas b12 left W = (Im.at0 left b).toNat := by unfold pmeas; rw [cell_at HX.out.k12 (v := .int .i64 (b : Nat)) rfl]; simp
     rw [this]
     have := HTL.out.nn b b1
     omega
   case body =>
    intro lr pre y suf W hnb hsz2 hI
    obtain ⟨⟨i1, i2⟩, hP3, hpre⟩ := hI
    have hym : y ∈ Im.nbs c r l a := by rw [hnb]; simp
    obtain ⟨hy1, hy2, hy3⟩ := (Im.nbs_mem g HAL.out (k := y.1) (n := y.2)).1 hym
    have hyn : y.1 < n := by rw [← HLN.out]; exact hy1
    have hll : left.length = n := by rw [HTL.out.len, HLN.out]
    obtain ⟨gr, cw, cs, k11, kr, r1, r2, r3, r4, r5, r6, r7⟩ := hP3.k11
    have c12 : W.cell? ⟨b12, 0, none⟩ = some (.int .i64 a) := cell_at hP3.k12 rfl
    have c11 : W.cell? ⟨b11, 0, none⟩ = some (.slice (some ⟨gr, 0, none⟩) row.length cw) := cell_at k11 rfl
    have c10 : W.cell? ⟨b10, 0, none⟩ = some (.slice (some ⟨og, 0, none⟩) n n) := cell_at hP3.k10 rfl
    have oa : W.cell? ⟨og, a, none⟩ = some (.int .i64 (Im.at0 left a)) := cell_at hP3.ko (by simp [encI, Im.at0, List.getD_eq_getElem?_getD, hll, han])
    have oy : W.cell? ⟨og, y.1, none⟩ = some (.int .i64 (Im.at0 left y.1)) := cell_at hP3.ko (by simp [encI, Im.at0, List.getD_eq_getElem?_getD, hll, hyn])
    have f11 : W.frozen? ⟨b11, 0, none⟩ = false := free_at k11
    have f12 : W.frozen? ⟨b12, 0, none⟩ = false := free_at hP3.k12
    have l12 := cell_lt c12
    have l11 := cell_lt c11
    have l10 := cell_lt c10
    have lo := cell_lt oa
    have hn0 := HTL.out.nn a HAL.out
    have hn1 := HTL.out.nn y.1 hy1
    have hub : Im.at0 left y.1 ≤ 20000 := by
     have h1 := Im.feas_bound g HTL.out.feas (s := d) (by rw [HLN.out]; exact hd) _ y.1 hy1 rfl
     have h2 := Im.gap_lt g hy1 (b := d) (by rw [HLN.out]; exact hd)
     rw [HTL.out.src] at h1
     omega
    have hcy := Im.cost_le g HAL.out hy1
    rw [← hy2] at hcy hy3
    have HPA := Lib.hid hP3
    have HPR := Lib.hid hpre
    have HYM := Lib.hid hnb
    have HK11 := Lib.hid k11
    have HI12 := Lib.hid (⟨i1, i2⟩ : _ ∧ _)
    have hown : W.ownsRow base 3 1 (.slice (some ⟨gr, 0, none⟩) row.length cw) row.length (encN row) := ⟨by rw [encN_len, Nat.mul_one], .inr ⟨gr, cw, cs, rfl, r5, kr, r1, r2, r3, r4⟩⟩
    have HOWN := Lib.hid hown
    have hrl : row.length ≤ 256 := by
     have h1 := HW.out s (by rw [HLN.out]; exact hs)
     rw [← HDN.out, List.length_append] at h1
     have h2 : 1 ≤ (Im.way c l left d a).length := by
      cases hw : Im.way c l left d a with
      | nil =>
       obtain ⟨b, hb⟩ := Im.nxt_ex HTL.out HAL.out HAD.out
       rw [Im.way_step HTL.out HAL.out HAD.out hb] at hw
       cases hw
      | cons x t => simp
     rw [HRW.out, List.length_append]
     have := HLN.out
     have := hn256.out
     simp only [List.length_cons, List.length_nil]
     omega
    obtain ⟨xa, hxa⟩ : ∃ x, x = Im.at0 left a := ⟨_, rfl⟩
    obtain ⟨xy, hxy⟩ : ∃ x, x = Im.at0 left y.1 := ⟨_, rfl⟩
    rw [← hxa] at oa hn0
    rw [← hxy] at oy hn1 hub
    have HXA := Lib.hid hxa
    have HXY := Lib.hid hxy
    have hws : IntKind.i64.wrap (y.2 + xy) = y.2 + xy := wrapI (by omega)
    clear hP3 k11 kr hpre hym hnb hsz2 hy1 hy2 hown i1 i2 hxa hxy r1 r2 r3 r4 r5 r6 r7 hll
    gi_wp2
    refine wpIn_region_splitG 10 (by kernel_rfl) (by kernel_rfl) (by kernel_rfl) (fun ⟨_, _, h⟩ => h) ?_
    simp only [List.take_succ_cons, List.take_zero, List.drop_succ_cons, List.drop_zero]
    repeat (go_big_quiet_step ((first | fail)))
    refine wpQuiet_nil (gw_out ?_)
    intro W3 hb3
    have HB3 := Lib.hid hb3
    have c11 := (hb3.cell (p := ⟨b11, 0, none⟩) l11).trans c11
    have c12 := (hb3.cell (p := ⟨b12, 0, none⟩) l12).trans c12
    have f11 := (hb3.frozen (p := ⟨b11, 0, none⟩) l11).trans f11
    have f12 := (hb3.frozen (p := ⟨b12, 0, none⟩) l12).trans f12
    have l11 := cell_lt c11
    have l12 := cell_lt c12
    by_cases heq : xa = y.2 + xy
    ·have hdq : (xa == y.2 + xy) = true := by simpa using heq
     have hnx := Im.nbs_first (left := left) g HAL.out (b := y.1) (n := y.2) HYM.out HPR.out (by rw [← HXA.out, ← HXY.out]; exact heq)
     have HNX := Lib.hid hnx
     have hown3 := own_below HOWN.out HB3.out
     have HOW3 := Lib.hid hown3
     have hbs3 : base ≤ W3.heap.size := by
      have h1 := HO.out
      have h2 := HB3.out.size
      omega
     obtain ⟨i0, hi, hz0, hz1, hz2⟩ := info_parts info3
     clear heq hnx hb3 hown3
     go_wp2
     gi_wp2_with (gi_at_builtin; refine stopq ?_)
     unfold StopQ
     refine wpListIn_append_own _ rfl _ _ 22 rfl base 3 i0 (.int .i64 0) 1 8 Tryz.underlying22 hi hz0 hz1 hz2 rfl (by decide) _ _ _ rfl (HOW3.out.alloc _) ⟨W3.heap.size, 0, none⟩ 1 1 [.int .i64 (y.1 : Nat)] rfl rfl (news_one _ _ rfl) (by intro x hx; simp at hx; subst hx; rfl) (by unfold maxLen; omega) (by omega) (by simp; omega) ?_
     intro x' W10 hown10 hg10 hat10
     have hbA : Below W.heap.size W (W3.alloc (Obj.cells #[.int .i64 (y.1 : Nat)] 3)) := HB3.out.alloc HB3.out.size _
     have hPB := HPA.out.below hbA
     have hr0 : 0 < row.length := by rw [HRW.out]; simp
     obtain ⟨g', cap', rfl, hq11, hq12, hpw10, hnc⟩ := hPB.push HO.out (blkb HK11.out hbA) hr0 y.1 hown10 hg10
     have hF : Hid (NbPost w2.heap.size (fun _ => False) (fun W => ∃ b, PW w Ds gb b10 og b11 b12 base c r A n cap left (row ++ [b]) b W ∧ Im.nxt c l left a = some b) (.exit 1) W (.exit 1) { tmps := #[], defers := [] } ((W10.setCell ⟨b11, 0, none⟩ (.slice (some ⟨g', 0, none⟩) (row.length + 1) cap')).setCell ⟨b12, 0, none⟩ (.int .i64 (y.1 : Nat)))) := Lib.hid
      ⟨rfl, ⟨by have h1 := hbA.size; have h2 := hg10.size; simp [World.setCell] at h1 h2 ⊢; omega, fun k o _ hk hcc => hnc k o (blkb hk hbA) hcc⟩, y.1, hpw10, HNX.out⟩
     have m11 : W10.cell? ⟨b11, 0, none⟩ = some (.slice (some ⟨gr, 0, none⟩) row.length cw) := cell_at (hq11.trans (blkb HK11.out hbA)) rfl
     have m12 : W10.cell? ⟨b12, 0, none⟩ = some (.int .i64 a) := cell_at (hq12.trans hPB.k12) rfl
     have v11 : W10.frozen? ⟨b11, 0, none⟩ = false := free_at (hq11.trans (blkb HK11.out hbA))
     have v12 : W10.frozen? ⟨b12, 0, none⟩ = false := free_at (hq12.trans hPB.k12)
     have n11 := cell_lt m11
     have n12 := cell_lt m12
     have hne : b11 ≠ b12 := by have := HO.out; omega
     clear hown10 hg10 hat10 hbA hPB hq11 hq12 hpw10 hnc c11 c12 f11 f12 l11 l12
     gi_wp2
     exact hF.out
    ·have hdq : (xa == y.2 + xy) = false := by simpa using heq
     have HNE := Lib.hid heq
     clear heq hb3
     go_wp2
     gi_wp2
     refine ⟨keepsF_below HB3.out, ⟨blkb HI12.out.1 HB3.out, blkb HI12.out.2 HB3.out⟩, HPA.out.below HB3.out, fun e he => ?_⟩
     rcases List.mem_append.1 he with he | he
     ·exact HPR.out e he
     ·obtain rfl := List.mem_singleton.1 he
      rw [← HXA.out, ← HXY.out]
      exact HNE.out
end Go.Proofs.YtdimmlljjmmdbaaGreatDoor
namespace Go.Proofs.YtdimmlljjmmdbaaGreatDoor
open Go.RowKit
set_option maxHeartbeats 8000000
set_option maxRecDepth 20000
open Classical in
/-- what is wrong with potentials of a valid ground -/
noncomputable def potE (c : Nat) (l u : List Int) : Int := Mo.first [Mo.first [Mo.when ((u.length : Int) != (l.length : Int)) 2, Mo.allw u (-999999999) 999999999], Mo.when (!decide (Im.Feas c l u)) 19]
noncomputable def potV (c : Nat) (l u : List Int) (s d : Nat) : Int := if potE c l u = 0 then Im.at0 u d - Im.at0 u s else 0
theorem potE_a {c : Nat} {l u : List Int} {e : Int} (he : Mo.first [Mo.when ((u.length : Int) != (l.length : Int)) 2, Mo.allw u (-999999999) 999999999] = e) (h : e ≠ 0) : potE c l u = e := by unfold potE; rw [he, Mo.first_nz h]
theorem potE_b {c : Nat} {l u : List Int} (he : Mo.first [Mo.when ((u.length : Int) != (l.length : Int)) 2, Mo.allw u (-999999999) 999999999] = 0) (h : ¬ Im.Feas c l u) : potE c l u = 19 := by unfold potE; rw [he, Mo.first_z rfl]; simp [h, Mo.when, Mo.first]
theorem potE_c {c : Nat} {l u : List Int} (he : Mo.first [Mo.when ((u.length : Int) != (l.length : Int)) 2, Mo.allw u (-999999999) 999999999] = 0) (h : Im.Feas c l u) : potE c l u = 0 := by unfold potE; rw [he, Mo.first_z rfl]; simp [h, Mo.when, Mo.first]
theorem c74_ok (c r : Nat) (A : Option Addr) (n cap : Nat) (l : List Int) (s d : Nat) (U : Option Addr) (m capu : Nat) (u : List Int) (w : World) (g : Im.Gr c r l) (hc : c ≤ 16) (hr : r ≤ 16) (H : RdI w A n l) (hst : Steps w) (hs : s < n) (hd : d < n) (hm : m ≤ 1000000) (HU : RdI w U m u) :
  Calls Tryz.prog 74 #[.agg #[.int .i64 c, .int .i64 r, .slice A n cap], .int .i64 s, .int .i64 d, .slice U m capu] w fun en w' => en = .returned (.tuple #[.int .i64 (potV c l u s d), .int .i64 (potE c l u)]) ∧ Below w.heap.size w w' := by
 have hl : n ≤ 1000000 := by have := H.len; have := g.len; have : c * r ≤ 256 := Nat.mul_le_mul hc hr; omega
 have hF : Mo.first [Mo.ground c r l, Mo.cell n s, Mo.cell n d] = 0 := first3 (Mo.ground_of g hc hr) (Mo.cell_ok.2 (by omega)) (Mo.cell_ok.2 (by omega))
 have HUL := Lib.hid HU.len
 have HLN := Lib.hid H.len
 obtain ⟨E, hE⟩ : ∃ E, E = Mo.first [Mo.when ((m : Int) != (n : Int)) 2, Mo.allw u (-999999999) 999999999] := ⟨_, rfl⟩
 have hE2 : Mo.first [Mo.when ((u.length : Int) != (l.length : Int)) 2, Mo.allw u (-999999999) 999999999] = E := by rw [HUL.out, HLN.out, hE]
 obtain ⟨V, hV⟩ : ∃ V, V = potE c l u := ⟨_, rfl⟩
 have HA : Hid (E ≠ 0 → V = E) := Lib.hid (fun h => by rw [hV, potE_a hE2 h])
 have HB : Hid (E = 0 → ¬ Im.Feas c l u → V = 19) := Lib.hid (fun h hf => by rw [hV, potE_b (by rw [hE2, h]) hf])
 have HC : Hid (E = 0 → Im.Feas c l u → V = 0) := Lib.hid (fun h hf => by rw [hV, potE_c (by rw [hE2, h]) hf])
 have HE := Lib.hid hE
 obtain ⟨X, hX⟩ : ∃ X, X = potV c l u s d := ⟨_, rfl⟩
 have HXA : Hid (V ≠ 0 → X = 0) := Lib.hid (fun h => by rw [hX]; unfold potV; rw [← hV, if_neg h])
 have HXC : Hid (V = 0 → X = Im.at0 u d - Im.at0 u s) := Lib.hid (fun h => by rw [hX]; unfold potV; rw [← hV, if_pos h])
 rw [← hV, ← hX]
 clear hE hE2 hV hX
 obtain ⟨w0, hW⟩ : ∃ W, W = w.alloc (Obj.cells #[.int .i64 c, .int .i64 r, .slice A n cap] 35) := ⟨_, rfl⟩
 have hT0 : w0.heap[w.heap.size]? = some (.cells #[.int .i64 c, .int .i64 r, .slice A n cap] 35 (0, 0)) := by rw [hW]; exact heap_new (by simp)
 have hB0 : Below w.heap.size w w0 := by rw [hW]; exact ((Below.refl _ _).alloc (by first | omega | (simp <;> omega)) _)
 replace H := H.below hB0
 replace hst := hst.below hB0
 replace HU := HU.below hB0
 go_enter Tryz.func74, Tryz.ntmps74
 go_wp2_with fail
 rw [← hW]
 clear hW
 have qhT0_0 : w0.cell? ⟨w.heap.size, 0, none⟩ = some (.int .i64 c) := cell_at hT0 rfl
 have qhT0_1 : w0.cell? ⟨w.heap.size, 1, none⟩ = some (.int .i64 r) := cell_at hT0 rfl
 have qhT0_2 : w0.cell? ⟨w.heap.size, 2, none⟩ = some (.slice A n cap) := cell_at hT0 rfl
 refine wp_region_plan [(0, true), (2, true), (3, true), (5, true), (6, true), (1, false), (4, false), (7, false), (8, false), (9, false), (10, true)] w0.heap.size (by kernel_rfl) (by kernel_rfl) (Nat.le_refl _) (fun _ _ d _ _ h => by cases d <;> exact h) ?_
 have hC : Below w0.heap.size w0 w0 := Below.refl _ _
 have zhT0 : w.heap.size < w0.heap.size := (Array.getElem?_eq_some_iff.1 hT0).1
 repeat (first | (refine wpPlanA_skip _ rfl (by rfl) ?_; simp only [Act.put, List.setIfInBounds_toArray, List.set_cons_zero, List.set_cons_succ]) | (refine wpPlanA_soft _ ?_ rfl (by rfl) ?_ ?_; rotate_left; (intro wq hq hcq; go_simp; first | exact rfl | exact ⟨rfl, rfl⟩); simp only [Act.put, List.setIfInBounds_toArray, List.set_cons_zero, List.set_cons_succ]))
 refine wpPlanA_hard _ rfl (by rfl) (fun w1 hS K hK => ?_)
 have hB1 := hB0.call hS rfl
 replace hC := hC.call hS rfl
 replace hT0 := blkb hT0 hS
 replace H := H.below hS
 replace hst := hst.below hS
 replace HU := HU.below hS
 clear hS hB0
 go_simp
 refine (c64 c r A n cap l _ hl H).mono ?_
 rintro e w2 ⟨rfl, hb⟩
 have hB2 := hB1.call hb rfl
 replace hC := hC.call hb rfl
 replace hT0 := blkb hT0 hb
 replace H := H.below hb
 replace hst := hst.below hb
 replace HU := HU.below hb
 clear hb hB1
 refine hK _ _ hC ?_
 clear hK K
 try simp only [Act.put, List.setIfInBounds_toArray, List.set_cons_zero, List.set_cons_succ]
 refine wpPlanA_hard _ rfl (by rfl) (fun w3 hS K hK => ?_)
 have hB3 := hB2.call hS rfl
 replace hC := hC.call hS rfl
 replace hT0 := blkb hT0 hS
 replace H := H.below hS
 replace hst := hst.below hS
 replace HU := HU.below hS
 clear hS hB2
 go_simp
 refine (c97 c r A n cap s _).mono ?_
 rintro e w4 ⟨rfl, hb⟩
 have hB4 := hB3.call hb rfl
 replace hC := hC.call hb rfl
 replace hT0 := blkb hT0 hb
 replace H := H.below hb
 replace hst := hst.below hb
 replace HU := HU.below hb
 clear hb hB3
 refine hK _ _ hC ?_
 clear hK K
 try simp only [Act.put, List.setIfInBounds_toArray, List.set_cons_zero, List.set_cons_succ]
 refine wpPlanA_hard _ rfl (by rfl) (fun w5 hS K hK => ?_)
 have hB5 := hB4.call hS rfl
 replace hC := hC.call hS rfl
 replace hT0 := blkb hT0 hS
 replace H := H.below hS
 replace hst := hst.below hS
 replace HU := HU.below hS
 clear hS hB4
 go_simp
 refine (c97 c r A n cap d _).mono ?_
 rintro e w6 ⟨rfl, hb⟩
 have hB6 := hB5.call hb rfl
 replace hC := hC.call hb rfl
 replace hT0 := blkb hT0 hb
 replace H := H.below hb
 replace hst := hst.below hb
 replace HU := HU.below hb
 clear hb hB5
 refine hK _ _ hC ?_
 clear hK K
 try simp only [Act.put, List.setIfInBounds_toArray, List.set_cons_zero, List.set_cons_succ]
 refine wpPlanA_hard _ rfl (by rfl) (fun w7 hS K hK => ?_)
 have hB7 := hB6.call hS rfl
 replace hC := hC.call hS rfl
 replace hT0 := blkb hT0 hS
 replace H := H.below hS
 replace hst := hst.below hS
 replace HU := HU.below hS
 clear hS hB6
 go_simp
 have hb : Below w7.heap.size w7 (w7.alloc (Obj.cells #[.int .i64 (Mo.ground c r l), .int .i64 (Mo.cell n s), .int .i64 (Mo.cell n d)] 32)) := (Below.refl _ _).alloc (Nat.le_refl _) _
 have k1 : (w7.alloc (Obj.cells #[.int .i64 (Mo.ground c r l), .int .i64 (Mo.cell n s), .int .i64 (Mo.cell n d)] 32)).heap[w7.heap.size]? = some (Obj.cells #[.int .i64 (Mo.ground c r l), .int .i64 (Mo.cell n s), .int .i64 (Mo.cell n d)] 32) := heap_new rfl
 refine hK _ _ (hC.alloc hC.size _) ?_
 clear hK K
 replace hC := hC.call hb rfl
 have hB8 := hB7.call hb rfl
 replace hT0 := blkb hT0 hb
 replace H := H.below hb
 replace hst := hst.below hb
 replace HU := HU.below hb
 clear hb hB7
 generalize hWn : w7.alloc (Obj.cells #[.int .i64 (Mo.ground c r l), .int .i64 (Mo.cell n s), .int .i64 (Mo.cell n d)] 32) = w8 at k1 hC hB8 hT0 H hst HU ⊢
 clear hWn
 generalize hWn : w7.heap.size = bk1 at k1 ⊢
 clear hWn
 try simp only [Act.put, List.setIfInBounds_toArray, List.set_cons_zero, List.set_cons_succ]
 refine wpPlanA_hard _ rfl (by rfl) (fun w9 hS K hK => ?_)
 have hB9 := hB8.call hS rfl
 replace hC := hC.call hS rfl
 replace hT0 := blkb hT0 hS
 replace H := H.below hS
 replace hst := hst.below hS
 replace HU := HU.below hS
 replace k1 := blkb k1 hS
 clear hS hB8
 go_simp
 refine (c89 _ 3 3 [Mo.ground c r l, Mo.cell n s, Mo.cell n d] _ rfl (by omega) (RdS.of_block (cs := encI [Mo.ground c r l, Mo.cell n s, Mo.cell n d]) k1 rfl)).mono ?_
 rintro e w' ⟨rfl, rfl⟩
 refine hK _ _ hC ?_
 clear hK K
 try simp only [Act.put, List.setIfInBounds_toArray, List.set_cons_zero, List.set_cons_succ]
 repeat (first | (refine wpPlanA_skip _ rfl (by rfl) ?_; simp only [Act.put, List.setIfInBounds_toArray, List.set_cons_zero, List.set_cons_succ]) | (refine wpPlanA_soft _ ?_ rfl (by rfl) ?_ ?_; rotate_left; (intro wq hq hcq; go_simp; first | exact rfl | exact ⟨rfl, rfl⟩); simp only [Act.put, List.setIfInBounds_toArray, List.set_cons_zero, List.set_cons_succ]))
 clear k1
 clear qhT0_0 qhT0_1 qhT0_2
 refine wpPlanA_nil (fun w10 hS => ?_)
 clear hC zhT0
 have hB10 := hB9.call hS rfl
 replace hT0 := blkb hT0 hS
 replace H := H.below hS
 replace hst := hst.below hS
 replace HU := HU.below hS
 clear hS hB9
 have qhT0_0 : w10.cell? ⟨w.heap.size, 0, none⟩ = some (.int .i64 c) := cell_at hT0 rfl
 have qhT0_1 : w10.cell? ⟨w.heap.size, 1, none⟩ = some (.int .i64 r) := cell_at hT0 rfl
 have qhT0_2 : w10.cell? ⟨w.heap.size, 2, none⟩ = some (.slice A n cap) := cell_at hT0 rfl
 rw [hF]
 clear hF
 go_wp2_with fail
 refine (c94 ((m : Int) != (n : Int)) 2 _).mono ?_
 rintro e w' ⟨rfl, rfl⟩
 go_wp2_with fail
 refine (c113 U m capu u _ _ _ hm HU).mono ?_
 rintro e w11 ⟨rfl, hb⟩
 clear qhT0_0 qhT0_1 qhT0_2
 have hS := hb
 have hB11 := hB10.call hS rfl
 replace hT0 := blkb hT0 hS
 replace H := H.below hS
 replace hst := hst.below hS
 replace HU := HU.below hS
 clear hS hB10
 have qhT0_0 : w11.cell? ⟨w.heap.size, 0, none⟩ = some (.int .i64 c) := cell_at hT0 rfl
 have qhT0_1 : w11.cell? ⟨w.heap.size, 1, none⟩ = some (.int .i64 r) := cell_at hT0 rfl
 have qhT0_2 : w11.cell? ⟨w.heap.size, 2, none⟩ = some (.slice A n cap) := cell_at hT0 rfl
 clear hb
 go_wp2_with fail
 refine (c89 _ 2 2 [Mo.when ((m : Int) != (n : Int)) 2, Mo.allw u (-999999999) 999999999] _ rfl (by omega) (RdS.of_new (cs := encI [Mo.when ((m : Int) != (n : Int)) 2, Mo.allw u (-999999999) 999999999]) rfl rfl)).mono ?_
 rintro e w' ⟨rfl, rfl⟩
 rw [← HE.out]
 obtain ⟨w12, hwn⟩ : ∃ V, V = w11.alloc (Obj.cells (encI [Mo.when ((m : Int) != (n : Int)) 2, Mo.allw u (-999999999) 999999999]).toArray 32) := ⟨_, rfl⟩
 have hbn : Below w11.heap.size w11 w12 := by rw [hwn]; exact (Below.refl _ _).alloc (Nat.le_refl _) _
 rw [← hwn]
 clear hwn
 clear qhT0_0 qhT0_1 qhT0_2
 have hS := hbn
 have hB12 := hB11.call hS rfl
 replace hT0 := blkb hT0 hS
 replace H := H.below hS
 replace hst := hst.below hS
 replace HU := HU.below hS
 clear hS hB11
 have qhT0_0 : w12.cell? ⟨w.heap.size, 0, none⟩ = some (.int .i64 c) := cell_at hT0 rfl
 have qhT0_1 : w12.cell? ⟨w.heap.size, 1, none⟩ = some (.int .i64 r) := cell_at hT0 rfl
 have qhT0_2 : w12.cell? ⟨w.heap.size, 2, none⟩ = some (.slice A n cap) := cell_at hT0 rfl
 clear hbn
 by_cases hE0 : E = 0
 rotate_left
 ·
   have hef : (E != 0) = true := by simpa using hE0
   go_wp2
   go_ret2
   exact ⟨by have h := HA.out hE0; rw [HXA.out (by rw [h]; exact hE0), h]; rfl, hB12⟩
 have hef : (E != 0) = false := by simp [hE0]
 have hz := Mo.first_zero (HE.out ▸ hE0 : Mo.first [Mo.when ((m : Int) != (n : Int)) 2, Mo.allw u (-999999999) 999999999] = 0)
 have hmn : n = m := by
  have := (Mo.when_zero (by decide)).1 (hz _ (by simp : Mo.when ((m : Int) != (n : Int)) 2 ∈ _))
  have h2 : (m : Int) = n := by simpa using this
  omega
 have hbu := Mo.allw_ok.1 (hz (Mo.allw u (-999999999) 999999999) (by simp))
 subst hmn
 have hub : Hid (∀ k, k < n → -1000000000 ≤ Im.at0 u k ∧ Im.at0 u k ≤ 1000000000) := Lib.hid (fun k hk => by
  have hk2 : k < u.length := by rw [HUL.out]; exact hk
  have := hbu (Im.at0 u k) (by simp [Im.at0, List.getD_eq_getElem?_getD, hk2])
  omega)
 clear hz hbu
 go_wp2_with fail
 refine (c132 c r A n cap l U capu u _ g hc hr H HU hub.out hst).mono ?_
 rintro e w13 ⟨bf, rfl, hbf, hb⟩
 clear qhT0_0 qhT0_1 qhT0_2
 have hS := hb
 have hB13 := hB12.call hS rfl
 replace hT0 := blkb hT0 hS
 replace H := H.below hS
 replace hst := hst.below hS
 replace HU := HU.below hS
 clear hS hB12
 have qhT0_0 : w13.cell? ⟨w.heap.size, 0, none⟩ = some (.int .i64 c) := cell_at hT0 rfl
 have qhT0_1 : w13.cell? ⟨w.heap.size, 1, none⟩ = some (.int .i64 r) := cell_at hT0 rfl
 have qhT0_2 : w13.cell? ⟨w.heap.size, 2, none⟩ = some (.slice A n cap) := cell_at hT0 rfl
 clear hb
 have HBF := Lib.hid hbf
 clear hbf
 cases bf
 ·
   have HV19 := Lib.hid (HB.out hE0 (fun hf => by have := HBF.out.2 hf; cases this))
   go_wp2
   go_ret2
   exact ⟨by rw [HXA.out (by rw [HV19.out]; decide), HV19.out]; rfl, hB13⟩
 ·
   have HV0 := Lib.hid (HC.out hE0 (HBF.out.1 rfl))
   obtain ⟨ub, uoff, rfl, HCU⟩ := HU.cellA (by omega)
   obtain ⟨hub1, hcu⟩ := HCU w13 (Below.refl _ _)
   have us := hcu s hs
   have ud := hcu d hd
   have v1 := hub.out s hs
   have v2 := hub.out d hd
   clear hcu HCU
   obtain ⟨xs, hxs⟩ : ∃ x, x = Im.at0 u s := ⟨_, rfl⟩
   obtain ⟨xd, hxd⟩ : ∃ x, x = Im.at0 u d := ⟨_, rfl⟩
   rw [← hxs] at us v1
   rw [← hxd] at ud v2
   have HXS := Lib.hid hxs
   have HXD := Lib.hid hxd
   have hwd : IntKind.i64.wrap (xd - xs) = xd - xs := wrapI (by omega)
   clear hxs hxd
   go_wp2
   refine wp_region_growG (by kernel_rfl) (by kernel_rfl) ?_
   repeat (go_big_quiet_step ((first | fail)))
   refine wpQuiet_nil (gw_out ?_)
   intro wq hwq
   have hBq := hB13.call hwq rfl
   clear hwq
   go_wp2
   go_ret2
   exact ⟨by rw [HXC.out HV0.out, HV0.out, ← HXS.out, ← HXD.out]; rfl, hBq⟩
end Go.Proofs.YtdimmlljjmmdbaaGreatDoor
namespace Go.Proofs.YtdimmlljjmmdbaaGreatDoor
open Go.RowKit
set_option maxHeartbeats 8000000
set_option maxRecDepth 20000
namespace Mo
theorem first_one (a : Int) : first [a] = a := by
 rw [first_cons]
 split
 ·rfl
 ·rename_i h
  have : a = 0 := by simpa using h
  rw [this]; rfl
def pair (n : Int) (p : Pr) : Int := first [cell n p.s, cell n p.r]
def surv0 (c r : Int) (l : List Int) (un len most np : Int) : Int := first [ground c r l, range un 1 1000, range len 1 256, range most 0 256, when (decide (16 < np)) 5]
def surv (c r : Int) (l : List Int) (un len most : Int) (ps : List Pr) : Int := first [surv0 c r l un len most ps.length, first (ps.map (pair l.length))]
end Mo
theorem c96 (c r : Int) (A : Option Addr) (n cap : Nat) (p : Pr) (gb : Nat) (w : World) (hg : w.heap[gb]? = some (.cells #[.int .i64 c, .int .i64 r, .slice A n cap] 35 (0, 0))) :
  Calls Tryz.prog 96 #[.agg #[.int .i64 p.s, .int .i64 p.r, .bool p.h], .pointer (some ⟨gb, 0, none⟩)] w fun en w' => en = .returned (.int .i64 (Mo.pair n p)) ∧ Below w.heap.size w w' := by
 obtain ⟨w0, hW⟩ : ∃ W, W = w.alloc (Obj.cells #[.int .i64 p.s, .int .i64 p.r, .bool p.h] 148) := ⟨_, rfl⟩
 have hT0 : w0.heap[w.heap.size]? = some (.cells #[.int .i64 p.s, .int .i64 p.r, .bool p.h] 148 (0, 0)) := by rw [hW]; exact heap_new (by simp)
 have hB0 : Below w.heap.size w w0 := by rw [hW]; exact ((Below.refl _ _).alloc (by first | omega | (simp <;> omega)) _)
 replace hg := blkb hg hB0
 go_enter Tryz.func96, Tryz.ntmps96
 go_wp2_with fail
 rw [← hW]
 clear hW
 have qhT0_0 : w0.cell? ⟨w.heap.size, 0, none⟩ = some (.int .i64 p.s) := cell_at hT0 rfl
 have qhT0_1 : w0.cell? ⟨w.heap.size, 1, none⟩ = some (.int .i64 p.r) := cell_at hT0 rfl
 have qhT0_2 : w0.cell? ⟨w.heap.size, 2, none⟩ = some (.bool p.h) := cell_at hT0 rfl
 have qhg_0 : w0.cell? ⟨gb, 0, none⟩ = some (.int .i64 c) := cell_at hg rfl
 have qhg_1 : w0.cell? ⟨gb, 1, none⟩ = some (.int .i64 r) := cell_at hg rfl
 have qhg_2 : w0.cell? ⟨gb, 2, none⟩ = some (.slice A n cap) := cell_at hg rfl
 refine wp_region_plan [(0, true), (1, true), (2, true), (4, true), (5, true), (6, true), (3, false), (7, false), (8, false), (9, false), (10, true)] w0.heap.size (by kernel_rfl) (by kernel_rfl) (Nat.le_refl _) (fun _ _ d _ _ h => by cases d <;> exact h) ?_
 have hC : Below w0.heap.size w0 w0 := Below.refl _ _
 have zhT0 : w.heap.size < w0.heap.size := (Array.getElem?_eq_some_iff.1 hT0).1
 have zhg : gb < w0.heap.size := (Array.getElem?_eq_some_iff.1 hg).1
 repeat (first | (refine wpPlanA_skip _ rfl (by rfl) ?_; simp only [Act.put, List.setIfInBounds_toArray, List.set_cons_zero, List.set_cons_succ]) | (refine wpPlanA_soft _ ?_ rfl (by rfl) ?_ ?_; rotate_left; (intro wq hq hcq; go_simp; first | exact rfl | exact ⟨rfl, rfl⟩); simp only [Act.put, List.setIfInBounds_toArray, List.set_cons_zero, List.set_cons_succ]))
 refine wpPlanA_hard _ rfl (by rfl) (fun w1 hS K hK => ?_)
 have hB1 := hB0.call hS rfl
 replace hC := hC.call hS rfl
 replace hT0 := blkb hT0 hS
 replace hg := blkb hg hS
 clear hS hB0
 go_simp
 refine (c97 c r A n cap p.s _).mono ?_
 rintro e w2 ⟨rfl, hb⟩
 have hB2 := hB1.call hb rfl
 replace hC := hC.call hb rfl
 replace hT0 := blkb hT0 hb
 replace hg := blkb hg hb
 clear hb hB1
 refine hK _ _ hC ?_
 clear hK K
 try simp only [Act.put, List.setIfInBounds_toArray, List.set_cons_zero, List.set_cons_succ]
 refine wpPlanA_hard _ rfl (by rfl) (fun w3 hS K hK => ?_)
 have hB3 := hB2.call hS rfl
 replace hC := hC.call hS rfl
 replace hT0 := blkb hT0 hS
 replace hg := blkb hg hS
 clear hS hB2
 go_simp
 refine (c97 c r A n cap p.r _).mono ?_
 rintro e w4 ⟨rfl, hb⟩
 have hB4 := hB3.call hb rfl
 replace hC := hC.call hb rfl
 replace hT0 := blkb hT0 hb
 replace hg := blkb hg hb
 clear hb hB3
 refine hK _ _ hC ?_
 clear hK K
 try simp only [Act.put, List.setIfInBounds_toArray, List.set_cons_zero, List.set_cons_succ]
 refine wpPlanA_hard _ rfl (by rfl) (fun w5 hS K hK => ?_)
 have hB5 := hB4.call hS rfl
 replace hC := hC.call hS rfl
 replace hT0 := blkb hT0 hS
 replace hg := blkb hg hS
 clear hS hB4
 go_simp
 have hb : Below w5.heap.size w5 (w5.alloc (Obj.cells #[.int .i64 (Mo.cell n p.s), .int .i64 (Mo.cell n p.r)] 32)) := (Below.refl _ _).alloc (Nat.le_refl _) _
 have k1 : (w5.alloc (Obj.cells #[.int .i64 (Mo.cell n p.s), .int .i64 (Mo.cell n p.r)] 32)).heap[w5.heap.size]? = some (Obj.cells #[.int .i64 (Mo.cell n p.s), .int .i64 (Mo.cell n p.r)] 32) := heap_new rfl
 refine hK _ _ (hC.alloc hC.size _) ?_
 clear hK K
 replace hC := hC.call hb rfl
 have hB6 := hB5.call hb rfl
 replace hT0 := blkb hT0 hb
 replace hg := blkb hg hb
 clear hb hB5
 generalize hWn : w5.alloc (Obj.cells #[.int .i64 (Mo.cell n p.s), .int .i64 (Mo.cell n p.r)] 32) = w6 at k1 hC hB6 hT0 hg ⊢
 clear hWn
 generalize hWn : w5.heap.size = bk1 at k1 ⊢
 clear hWn
 try simp only [Act.put, List.setIfInBounds_toArray, List.set_cons_zero, List.set_cons_succ]
 refine wpPlanA_hard _ rfl (by rfl) (fun w7 hS K hK => ?_)
 have hB7 := hB6.call hS rfl
 replace hC := hC.call hS rfl
 replace hT0 := blkb hT0 hS
 replace hg := blkb hg hS
 replace k1 := blkb k1 hS
 clear hS hB6
 go_simp
 refine (c89 _ 2 2 [Mo.cell n p.s, Mo.cell n p.r] _ rfl (by omega) (RdS.of_block (cs := encI [Mo.cell n p.s, Mo.cell n p.r]) k1 rfl)).mono ?_
 rintro e w' ⟨rfl, rfl⟩
 refine hK _ _ hC ?_
 clear hK K
 try simp only [Act.put, List.setIfInBounds_toArray, List.set_cons_zero, List.set_cons_succ]
 repeat (first | (refine wpPlanA_skip _ rfl (by rfl) ?_; simp only [Act.put, List.setIfInBounds_toArray, List.set_cons_zero, List.set_cons_succ]) | (refine wpPlanA_soft _ ?_ rfl (by rfl) ?_ ?_; rotate_left; (intro wq hq hcq; go_simp; first | exact rfl | exact ⟨rfl, rfl⟩); simp only [Act.put, List.setIfInBounds_toArray, List.set_cons_zero, List.set_cons_succ]))
 clear k1
 clear qhT0_0 qhT0_1 qhT0_2 qhg_0 qhg_1 qhg_2
 refine wpPlanA_nil (fun w8 hS => ?_)
 clear hC zhT0 zhg
 have hB8 := hB7.call hS rfl
 replace hT0 := blkb hT0 hS
 replace hg := blkb hg hS
 clear hS hB7
 have qhT0_0 : w8.cell? ⟨w.heap.size, 0, none⟩ = some (.int .i64 p.s) := cell_at hT0 rfl
 have qhT0_1 : w8.cell? ⟨w.heap.size, 1, none⟩ = some (.int .i64 p.r) := cell_at hT0 rfl
 have qhT0_2 : w8.cell? ⟨w.heap.size, 2, none⟩ = some (.bool p.h) := cell_at hT0 rfl
 have qhg_0 : w8.cell? ⟨gb, 0, none⟩ = some (.int .i64 c) := cell_at hg rfl
 have qhg_1 : w8.cell? ⟨gb, 1, none⟩ = some (.int .i64 r) := cell_at hg rfl
 have qhg_2 : w8.cell? ⟨gb, 2, none⟩ = some (.slice A n cap) := cell_at hg rfl
 go_wp2
 go_ret
 exact ⟨rfl, hB8⟩
theorem c25 (c r : Int) (A : Option Addr) (n cap : Nat) (l : List Int) (un len most : Int) (P : Option Addr) (np capp : Nat) (ps : List Pr) (w : World) (hl : n ≤ 1000000) (hp : np ≤ 1000000) (H : RdI w A n l) (HP : RdP w P np ps) :
  Calls Tryz.prog 25 #[.agg #[.int .i64 c, .int .i64 r, .slice A n cap], .agg #[.int .i64 un, .int .i64 len, .int .i64 most, .slice P np capp]] w fun en w' => en = .returned (.int .i64 (Mo.surv c r l un len most ps)) ∧ Below w.heap.size w w' := by
 have HLN := Lib.hid H.len
 have HPN := Lib.hid HP.len
 obtain ⟨E, hE⟩ : ∃ E, E = Mo.first [Mo.ground c r l, Mo.range un 1 1000, Mo.range len 1 256, Mo.range most 0 256, Mo.when (decide (16 < (np : Int))) 5] := ⟨_, rfl⟩
 obtain ⟨V, hV⟩ : ∃ V, V = Mo.surv c r l un len most ps := ⟨_, rfl⟩
 have HE := Lib.hid hE
 have HA : Hid (E ≠ 0 → V = E) := Lib.hid (fun h => by rw [hV]; unfold Mo.surv Mo.surv0; rw [HPN.out, ← hE, Mo.first_nz h])
 have HC : Hid (E = 0 → V = Mo.first (ps.map (Mo.pair n))) := Lib.hid (fun h => by rw [hV]; unfold Mo.surv Mo.surv0; rw [HPN.out, ← hE, Mo.first_z h, HLN.out, Mo.first_one])
 rw [← hV]
 clear hE hV
 obtain ⟨w0, hW⟩ : ∃ W, W = (w.alloc (Obj.cells #[.int .i64 c, .int .i64 r, .slice A n cap] 35)).alloc (Obj.cells #[.int .i64 un, .int .i64 len, .int .i64 most, .slice P np capp] 39) := ⟨_, rfl⟩
 have hT0 : w0.heap[w.heap.size]? = some (.cells #[.int .i64 c, .int .i64 r, .slice A n cap] 35 (0, 0)) := by rw [hW]; exact heap_old (by simp <;> omega) (heap_new (by simp))
 have hT1 : w0.heap[w.heap.size + 1]? = some (.cells #[.int .i64 un, .int .i64 len, .int .i64 most, .slice P np capp] 39 (0, 0)) := by rw [hW]; exact heap_new (by simp)
 have hB0 : Below w.heap.size w w0 := by rw [hW]; exact (((Below.refl _ _).alloc (by first | omega | (simp <;> omega)) _).alloc (by first | omega | (simp <;> omega)) _)
 replace H := H.below hB0
 replace HP := HP.below hB0
 go_enter Tryz.func25, Tryz.ntmps25
 go_wp2_with fail
 rw [← hW]
 clear hW
 have qhT0_0 : w0.cell? ⟨w.heap.size, 0, none⟩ = some (.int .i64 c) := cell_at hT0 rfl
 have qhT0_1 : w0.cell? ⟨w.heap.size, 1, none⟩ = some (.int .i64 r) := cell_at hT0 rfl
 have qhT0_2 : w0.cell? ⟨w.heap.size, 2, none⟩ = some (.slice A n cap) := cell_at hT0 rfl
 have qhT1_0 : w0.cell? ⟨w.heap.size + 1, 0, none⟩ = some (.int .i64 un) := cell_at hT1 rfl
 have qhT1_1 : w0.cell? ⟨w.heap.size + 1, 1, none⟩ = some (.int .i64 len) := cell_at hT1 rfl
 have qhT1_2 : w0.cell? ⟨w.heap.size + 1, 2, none⟩ = some (.int .i64 most) := cell_at hT1 rfl
 have qhT1_3 : w0.cell? ⟨w.heap.size + 1, 3, none⟩ = some (.slice P np capp) := cell_at hT1 rfl
 refine wp_region_plan [(0, true), (2, true), (3, true), (5, true), (6, true), (8, true), (9, true), (11, true), (12, true), (13, true), (14, true), (1, false), (4, false), (7, false), (10, false), (15, false), (16, false), (17, false), (18, true)] w0.heap.size (by kernel_rfl) (by kernel_rfl) (Nat.le_refl _) (fun _ _ d _ _ h => by cases d <;> exact h) ?_
 have hC : Below w0.heap.size w0 w0 := Below.refl _ _
 have zhT0 : w.heap.size < w0.heap.size := (Array.getElem?_eq_some_iff.1 hT0).1
 have zhT1 : w.heap.size + 1 < w0.heap.size := (Array.getElem?_eq_some_iff.1 hT1).1
 repeat (first | (refine wpPlanA_skip _ rfl (by rfl) ?_; simp only [Act.put, List.setIfInBounds_toArray, List.set_cons_zero, List.set_cons_succ]) | (refine wpPlanA_soft _ ?_ rfl (by rfl) ?_ ?_; rotate_left; (intro wq hq hcq; go_simp; first | exact rfl | exact ⟨rfl, rfl⟩); simp only [Act.put, List.setIfInBounds_toArray, List.set_cons_zero, List.set_cons_succ]))
 refine wpPlanA_hard _ rfl (by rfl) (fun w1 hS K hK => ?_)
 have hB1 := hB0.call hS rfl
 replace hC := hC.call hS rfl
 replace hT0 := blkb hT0 hS
 replace hT1 := blkb hT1 hS
 replace H := H.below hS
 replace HP := HP.below hS
 clear hS hB0
 go_simp
 refine (c64 c r A n cap l _ hl H).mono ?_
 rintro e w2 ⟨rfl, hb⟩
 have hB2 := hB1.call hb rfl
 replace hC := hC.call hb rfl
 replace hT0 := blkb hT0 hb
 replace hT1 := blkb hT1 hb
 replace H := H.below hb
 replace HP := HP.below hb
 clear hb hB1
 refine hK _ _ hC ?_
 clear hK K
 try simp only [Act.put, List.setIfInBounds_toArray, List.set_cons_zero, List.set_cons_succ]
 refine wpPlanA_hard _ rfl (by rfl) (fun w3 hS K hK => ?_)
 have hB3 := hB2.call hS rfl
 replace hC := hC.call hS rfl
 replace hT0 := blkb hT0 hS
 replace hT1 := blkb hT1 hS
 replace H := H.below hS
 replace HP := HP.below hS
 clear hS hB2
 go_simp
 refine (c93 un 1 1000 _).mono ?_
 rintro e w' ⟨rfl, rfl⟩
 refine hK _ _ hC ?_
 clear hK K
 try simp only [Act.put, List.setIfInBounds_toArray, List.set_cons_zero, List.set_cons_succ]
 refine wpPlanA_hard _ rfl (by rfl) (fun w4 hS K hK => ?_)
 have hB4 := hB3.call hS rfl
 replace hC := hC.call hS rfl
 replace hT0 := blkb hT0 hS
 replace hT1 := blkb hT1 hS
 replace H := H.below hS
 replace HP := HP.below hS
 clear hS hB3
 go_simp
 refine (c93 len 1 256 _).mono ?_
 rintro e w' ⟨rfl, rfl⟩
 refine hK _ _ hC ?_
 clear hK K
 try simp only [Act.put, List.setIfInBounds_toArray, List.set_cons_zero, List.set_cons_succ]
 refine wpPlanA_hard _ rfl (by rfl) (fun w5 hS K hK => ?_)
 have hB5 := hB4.call hS rfl
 replace hC := hC.call hS rfl
 replace hT0 := blkb hT0 hS
 replace hT1 := blkb hT1 hS
 replace H := H.below hS
 replace HP := HP.below hS
 clear hS hB4
 go_simp
 refine (c93 most 0 256 _).mono ?_
 rintro e w' ⟨rfl, rfl⟩
 refine hK _ _ hC ?_
 clear hK K
 try simp only [Act.put, List.setIfInBounds_toArray, List.set_cons_zero, List.set_cons_succ]
 refine wpPlanA_hard _ rfl (by rfl) (fun w6 hS K hK => ?_)
 have hB6 := hB5.call hS rfl
 replace hC := hC.call hS rfl
 replace hT0 := blkb hT0 hS
 replace hT1 := blkb hT1 hS
 replace H := H.below hS
 replace HP := HP.below hS
 clear hS hB5
 go_simp
 refine (c94 (decide (16 < (np : Int))) 5 _).mono ?_
 rintro e w' ⟨rfl, rfl⟩
 refine hK _ _ hC ?_
 clear hK K
 try simp only [Act.put, List.setIfInBounds_toArray, List.set_cons_zero, List.set_cons_succ]
 refine wpPlanA_hard _ rfl (by rfl) (fun w7 hS K hK => ?_)
 have hB7 := hB6.call hS rfl
 replace hC := hC.call hS rfl
 replace hT0 := blkb hT0 hS
 replace hT1 := blkb hT1 hS
 replace H := H.below hS
 replace HP := HP.below hS
 clear hS hB6
 go_simp
 have hb : Below w7.heap.size w7 (w7.alloc (Obj.cells #[.int .i64 (Mo.ground c r l), .int .i64 (Mo.range un 1 1000), .int .i64 (Mo.range len 1 256), .int .i64 (Mo.range most 0 256), .int .i64 (Mo.when (decide (16 < (np : Int))) 5)] 32)) := (Below.refl _ _).alloc (Nat.le_refl _) _
 have k1 : (w7.alloc (Obj.cells #[.int .i64 (Mo.ground c r l), .int .i64 (Mo.range un 1 1000), .int .i64 (Mo.range len 1 256), .int .i64 (Mo.range most 0 256), .int .i64 (Mo.when (decide (16 < (np : Int))) 5)] 32)).heap[w7.heap.size]? = some (Obj.cells #[.int .i64 (Mo.ground c r l), .int .i64 (Mo.range un 1 1000), .int .i64 (Mo.range len 1 256), .int .i64 (Mo.range most 0 256), .int .i64 (Mo.when (decide (16 < (np : Int))) 5)] 32) := heap_new rfl
 refine hK _ _ (hC.alloc hC.size _) ?_
 clear hK K
 replace hC := hC.call hb rfl
 have hB8 := hB7.call hb rfl
 replace hT0 := blkb hT0 hb
 replace hT1 := blkb hT1 hb
 replace H := H.below hb
 replace HP := HP.below hb
 clear hb hB7
 generalize hWn : w7.alloc (Obj.cells #[.int .i64 (Mo.ground c r l), .int .i64 (Mo.range un 1 1000), .int .i64 (Mo.range len 1 256), .int .i64 (Mo.range most 0 256), .int .i64 (Mo.when (decide (16 < (np : Int))) 5)] 32) = w8 at k1 hC hB8 hT0 hT1 H HP ⊢
 clear hWn
 generalize hWn : w7.heap.size = bk1 at k1 ⊢
 clear hWn
 try simp only [Act.put, List.setIfInBounds_toArray, List.set_cons_zero, List.set_cons_succ]
 refine wpPlanA_hard _ rfl (by rfl) (fun w9 hS K hK => ?_)
 have hB9 := hB8.call hS rfl
 replace hC := hC.call hS rfl
 replace hT0 := blkb hT0 hS
 replace hT1 := blkb hT1 hS
 replace H := H.below hS
 replace HP := HP.below hS
 replace k1 := blkb k1 hS
 clear hS hB8
 go_simp
 refine (c89 _ 5 5 [Mo.ground c r l, Mo.range un 1 1000, Mo.range len 1 256, Mo.range most 0 256, Mo.when (decide (16 < (np : Int))) 5] _ rfl (by omega) (RdS.of_block (cs := encI [Mo.ground c r l, Mo.range un 1 1000, Mo.range len 1 256, Mo.range most 0 256, Mo.when (decide (16 < (np : Int))) 5]) k1 rfl)).mono ?_
 rintro e w' ⟨rfl, rfl⟩
 refine hK _ _ hC ?_
 clear hK K
 try simp only [Act.put, List.setIfInBounds_toArray, List.set_cons_zero, List.set_cons_succ]
 repeat (first | (refine wpPlanA_skip _ rfl (by rfl) ?_; simp only [Act.put, List.setIfInBounds_toArray, List.set_cons_zero, List.set_cons_succ]) | (refine wpPlanA_soft _ ?_ rfl (by rfl) ?_ ?_; rotate_left; (intro wq hq hcq; go_simp; first | exact rfl | exact ⟨rfl, rfl⟩); simp only [Act.put, List.setIfInBounds_toArray, List.set_cons_zero, List.set_cons_succ]))
 clear k1
 clear qhT0_0 qhT0_1 qhT0_2 qhT1_0 qhT1_1 qhT1_2 qhT1_3
 refine wpPlanA_nil (fun w10 hS => ?_)
 clear hC zhT0 zhT1
 have hB10 := hB9.call hS rfl
 replace hT0 := blkb hT0 hS
 replace hT1 := blkb hT1 hS
 replace H := H.below hS
 replace HP := HP.below hS
 clear hS hB9
 have qhT0_0 : w10.cell? ⟨w.heap.size, 0, none⟩ = some (.int .i64 c) := cell_at hT0 rfl
 have qhT0_1 : w10.cell? ⟨w.heap.size, 1, none⟩ = some (.int .i64 r) := cell_at hT0 rfl
 have qhT0_2 : w10.cell? ⟨w.heap.size, 2, none⟩ = some (.slice A n cap) := cell_at hT0 rfl
 have qhT1_0 : w10.cell? ⟨w.heap.size + 1, 0, none⟩ = some (.int .i64 un) := cell_at hT1 rfl
 have qhT1_1 : w10.cell? ⟨w.heap.size + 1, 1, none⟩ = some (.int .i64 len) := cell_at hT1 rfl
 have qhT1_2 : w10.cell? ⟨w.heap.size + 1, 2, none⟩ = some (.int .i64 most) := cell_at hT1 rfl
 have qhT1_3 : w10.cell? ⟨w.heap.size + 1, 3, none⟩ = some (.slice P np capp) := cell_at hT1 rfl
 rw [← HE.out]
 by_cases hE0 : E = 0
 rotate_left
 ·
   have hef : (E != 0) = true := by simpa using hE0
   have HAE := Lib.hid (HA.out hE0)
   clear hE0
   go_wp2
   go_ret
   exact ⟨ret_int HAE.out.symm, hB10⟩
 have hef : (E != 0) = false := by simp [hE0]
 have HCE := Lib.hid (HC.out hE0)
 clear hE0
 go_wp2_with fail
 refine (c95 P np capp ps _ (Mo.pair n) _ hp HP (fun W x _ hW => c96 c r A n cap x _ W (blkb hT0 hW))).mono ?_
 rintro e w11 ⟨A1, cap1, rfl, hr1, hb⟩
 clear qhT0_0 qhT0_1 qhT0_2 qhT1_0 qhT1_1 qhT1_2 qhT1_3
 have hS := hb
 have hB11 := hB10.call hS rfl
 replace hT0 := blkb hT0 hS
 replace hT1 := blkb hT1 hS
 replace H := H.below hS
 replace HP := HP.below hS
 clear hS hB10
 have qhT0_0 : w11.cell? ⟨w.heap.size, 0, none⟩ = some (.int .i64 c) := cell_at hT0 rfl
 have qhT0_1 : w11.cell? ⟨w.heap.size, 1, none⟩ = some (.int .i64 r) := cell_at hT0 rfl
 have qhT0_2 : w11.cell? ⟨w.heap.size, 2, none⟩ = some (.slice A n cap) := cell_at hT0 rfl
 have qhT1_0 : w11.cell? ⟨w.heap.size + 1, 0, none⟩ = some (.int .i64 un) := cell_at hT1 rfl
 have qhT1_1 : w11.cell? ⟨w.heap.size + 1, 1, none⟩ = some (.int .i64 len) := cell_at hT1 rfl
 have qhT1_2 : w11.cell? ⟨w.heap.size + 1, 2, none⟩ = some (.int .i64 most) := cell_at hT1 rfl
 have qhT1_3 : w11.cell? ⟨w.heap.size + 1, 3, none⟩ = some (.slice P np capp) := cell_at hT1 rfl
 clear hb
 go_wp2_with fail
 refine (c89 A1 np cap1 _ _ hr1.len hp hr1).mono ?_
 rintro e w' ⟨rfl, rfl⟩
 go_wp2
 go_ret
 exact ⟨ret_int HCE.out.symm, hB11⟩
theorem c90 (c r : Int) (A : Option Addr) (n cap : Nat) (M : Option Addr) (m capm : Nat) (ms : List Int) (w : World) (hm : m ≤ 1000000) (HM : RdI w M m ms) :
  Calls Tryz.prog 90 #[.agg #[.int .i64 c, .int .i64 r, .slice A n cap], .slice M m capm] w fun en w' => en = .returned (.int .i64 (Mo.first [Mo.when ((m : Int) != (n : Int)) 2, Mo.allw ms (-1000) 1000])) ∧ Below w.heap.size w w' := by
 obtain ⟨w0, hW⟩ : ∃ W, W = w.alloc (Obj.cells #[.int .i64 c, .int .i64 r, .slice A n cap] 35) := ⟨_, rfl⟩
 have hT0 : w0.heap[w.heap.size]? = some (.cells #[.int .i64 c, .int .i64 r, .slice A n cap] 35 (0, 0)) := by rw [hW]; exact heap_new (by simp)
 have hB0 : Below w.heap.size w w0 := by rw [hW]; exact ((Below.refl _ _).alloc (by first | omega | (simp <;> omega)) _)
 replace HM := HM.below hB0
 go_enter Tryz.func90, Tryz.ntmps90
 go_wp2_with fail
 rw [← hW]
 clear hW
 have qhT0_0 : w0.cell? ⟨w.heap.size, 0, none⟩ = some (.int .i64 c) := cell_at hT0 rfl
 have qhT0_1 : w0.cell? ⟨w.heap.size, 1, none⟩ = some (.int .i64 r) := cell_at hT0 rfl
 have qhT0_2 : w0.cell? ⟨w.heap.size, 2, none⟩ = some (.slice A n cap) := cell_at hT0 rfl
 refine (c94 ((m : Int) != (n : Int)) 2 _).mono ?_
 rintro e w' ⟨rfl, rfl⟩
 go_wp2_with fail
 refine (c113 M m capm ms _ _ _ hm HM).mono ?_
 rintro e w1 ⟨rfl, hb⟩
 clear qhT0_0 qhT0_1 qhT0_2
 have hS := hb
 have hB1 := hB0.call hS rfl
 replace hT0 := blkb hT0 hS
 replace HM := HM.below hS
 clear hS hB0
 have qhT0_0 : w1.cell? ⟨w.heap.size, 0, none⟩ = some (.int .i64 c) := cell_at hT0 rfl
 have qhT0_1 : w1.cell? ⟨w.heap.size, 1, none⟩ = some (.int .i64 r) := cell_at hT0 rfl
 have qhT0_2 : w1.cell? ⟨w.heap.size, 2, none⟩ = some (.slice A n cap) := cell_at hT0 rfl
 clear hb
 go_wp2_with fail
 refine (c89 _ 2 2 [Mo.when ((m : Int) != (n : Int)) 2, Mo.allw ms (-1000) 1000] _ rfl (by omega) (RdS.of_new (cs := encI [Mo.when ((m : Int) != (n : Int)) 2, Mo.allw ms (-1000) 1000]) rfl rfl)).mono ?_
 rintro e w' ⟨rfl, rfl⟩
 have hBf := hB1.alloc hB1.size (Obj.cells (encI [Mo.when ((m : Int) != (n : Int)) 2, Mo.allw ms (-1000) 1000]).toArray 32)
 go_wp2
 go_ret
 exact ⟨rfl, hBf⟩
end Go.Proofs.YtdimmlljjmmdbaaGreatDoor
namespace Go.Proofs.YtdimmlljjmmdbaaGreatDoor
open Go.RowKit
set_option maxHeartbeats 8000000
set_option maxRecDepth 20000
theorem own_empty {w : World} {base g : Nat} (hB : base ≤ g) (h : w.heap[g]? = some (.cells #[] 3 (0, 0))) : w.ownsRow base 3 1 (.slice (some ⟨g, 0, none⟩) 0 0) 0 [] :=
 ⟨rfl, .inr ⟨g, 0, #[], rfl, hB, h, Nat.le_refl _, by unfold maxLen; omega, rfl, rfl⟩⟩
/-- what an owned row of integers is -/
theorem own_ints {w : World} {base : Nat} {v : Value} {n : Nat} {l : List Int} (hn : 0 < n) (h : w.ownsRow base 3 1 v n (encI l)) : ∃ g cap cs, v = .slice (some ⟨g, 0, none⟩) n cap ∧ base ≤ g ∧ w.heap[g]? = some (.cells cs 3 (0, 0)) ∧ n ≤ cap ∧ cap ≤ 9223372036854775807 ∧ cs.size = cap ∧ cs.toList.take n = encI l := by
 obtain ⟨h1, ⟨_, h0⟩ | ⟨g, cap, cur, rfl, hg, hh, hc, hm, hs, ht⟩⟩ := h
 ·omega
 ·unfold maxLen at hm
  exact ⟨g, cap, cur, rfl, hg, hh, hc, by omega, by omega, by rw [Nat.mul_one] at ht; exact ht⟩
theorem eq22n (g o n c : Nat) (w : World) : (Op.equalIn 10000 22 (.slice (some ⟨g, o, none⟩) n c) (.slice none 0 0)).run Tryz.prog w = .ok false w := by
 rfl
theorem nil22 (g o n c : Nat) (w : World) : (binOp .eql 22 (.slice (some ⟨g, o, none⟩) n c) (.slice none 0 0)).run Tryz.prog w = .ok (.bool false) w := by
 simp only [binOp]
 simp [Op.equal, Op.maxDepth, eq22n]
theorem c124 (b o n cap : Nat) (l : List Int) (w : World) (hn : n ≤ 1000000) (h0 : 0 < n) (H : RdI w (some ⟨b, o, none⟩) n l) :
  Calls Tryz.prog 124 #[.slice (some ⟨b, o, none⟩) n cap] w fun en w' => ∃ v, en = .returned v ∧ w'.ownsRow w.heap.size 3 1 v n (encI l) ∧ Below w.heap.size w w' := by
 obtain ⟨i0, hi, hz0, hz1, hz2⟩ := info_parts info3
 obtain ⟨W, hW⟩ : ∃ W, W = w.alloc (Obj.cells #[] 3) := ⟨_, rfl⟩
 have hB : Below w.heap.size w W := by rw [hW]; exact (Below.refl _ _).alloc (Nat.le_refl _) _
 have hown : W.ownsRow w.heap.size 3 1 (.slice (some ⟨w.heap.size, 0, none⟩) 0 0) 0 [] := own_empty (Nat.le_refl _) (by rw [hW]; exact heap_new rfl)
 have hrd := H.below hB
 have hlen : (encI l).length = n * 1 := hrd.1
 have hnw := RdS.news hrd (by omega)
 have hsz := hB.size
 have q22 := nil22
 go_enter Tryz.func124, Tryz.ntmps124
 go_wp2_with (at_builtin; rw [← hW]; refine wpList_append_own _ rfl _ _ 22 rfl w.heap.size 3 i0 (.int .i64 0) 1 8 Tryz.underlying22 hi hz0 hz1 hz2 rfl (by decide) _ _ _ rfl hown ⟨b, o, none⟩ n cap (encI l) rfl hlen hnw ?c1 ?c2 ?c3 ?c4 ?_)
 case c1 => intro x hx; simp [encI] at hx; obtain ⟨y, _, rfl⟩ := hx; rfl
 case c2 => unfold maxLen; omega
 case c3 => omega
 case c4 => exact hsz
 intro x' w3 hown3 hg3 _
 try rw [Nat.zero_add, List.nil_append] at hown3
 rw [← hW] at hg3
 have hB3 : Below w.heap.size w w3 := hB.grown hg3 hsz (fun g hg => by cases hg; exact Nat.le_refl _)
 clear hg3
 have HO := Lib.hid hown3
 clear hown3
 go_wp2
 go_ret
 exact ⟨_, rfl, HO.out, hB3⟩
theorem c22 (A : Option Addr) (n cap : Nat) (l : List Int) (w : World) (hn : n ≤ 1000000) (H : RdI w A n l) :
  Calls Tryz.prog 22 #[.slice A n cap] w fun en w' => ∃ v, en = .returned v ∧ w'.ownsRow w.heap.size 3 1 v n (encI l) ∧ Below w.heap.size w w' := by
 obtain ⟨i0, hi, hz0, hz1, hz2⟩ := info_parts info3
 obtain ⟨W, hW⟩ : ∃ W, W = w.alloc (Obj.cells #[] 3) := ⟨_, rfl⟩
 have hB : Below w.heap.size w W := by rw [hW]; exact (Below.refl _ _).alloc (Nat.le_refl _) _
 have hown : W.ownsRow w.heap.size 3 1 (.slice (some ⟨w.heap.size, 0, none⟩) 0 0) 0 [] := own_empty (Nat.le_refl _) (by rw [hW]; exact heap_new rfl)
 have hrd := H.below hB
 have hlen : (encI l).length = n * 1 := hrd.1
 have hsz := hB.size
 cases A with
 | none =>
  obtain rfl : n = 0 := RdS.none0 hrd
  obtain rfl : l = [] := List.eq_nil_of_length_eq_zero (by simpa [encI] using hlen)
  go_enter Tryz.func22, Tryz.ntmps22
  go_wp2
  go_ret
  exact ⟨_, rfl, by rw [← hW]; exact hown, by rw [← hW]; exact hB⟩
 | some ad =>
  have hnw := RdS.news hrd (by omega)
  go_enter Tryz.func22, Tryz.ntmps22
  go_wp2_with (at_builtin; rw [← hW]; refine wpList_append_own _ rfl _ _ 22 rfl w.heap.size 3 i0 (.int .i64 0) 1 8 Tryz.underlying22 hi hz0 hz1 hz2 rfl (by decide) _ _ _ rfl hown ad n cap (encI l) rfl hlen hnw ?c1 ?c2 ?c3 ?c4 ?_)
  case c1 => intro x hx; simp [encI] at hx; obtain ⟨y, _, rfl⟩ := hx; rfl
  case c2 => unfold maxLen; omega
  case c3 => omega
  case c4 => exact hsz
  intro x' w3 hown3 hg3 _
  try rw [Nat.zero_add, List.nil_append] at hown3
  rw [← hW] at hg3
  have hB3 : Below w.heap.size w w3 := hB.grown hg3 hsz (fun g hg => by cases hg; exact Nat.le_refl _)
  clear hg3
  have HO := Lib.hid hown3
  clear hown3
  go_wp2
  go_ret
  exact ⟨_, rfl, HO.out, hB3⟩
end Go.Proofs.YtdimmlljjmmdbaaGreatDoor
namespace Go.Proofs.YtdimmlljjmmdbaaGreatDoor
open Go.RowKit
set_option maxHeartbeats 8000000
set_option maxRecDepth 20000
/-- the samples of the cells for a pair -/
noncomputable def nsK (c : Nat) (l : List Int) (un : Int) (a b : Nat) (k : Nat) : Int := (Im.at0 (Im.times c l a) k + Im.at0 (Im.times c l b) k) / un
noncomputable def nsL (c : Nat) (l : List Int) (un : Int) (a b : Nat) : List Int := (List.range l.length).map (nsK c l un a b)
noncomputable def dlL (c : Nat) (l : List Int) (un len most : Int) (a b : Nat) (hole : Bool) : List Int := Im.delays c l (nsL c l un a b) len most hole
theorem time_le {c r : Nat} {l t : List Int} (g : Im.Gr c r l) (hc : c ≤ 16) (hr : r ≤ 16) {s : Nat} (hs : s < l.length) (h : Im.IsT c l s t) {k : Nat} (hk : k < l.length) : 0 ≤ Im.at0 t k ∧ Im.at0 t k ≤ 20000 := by
 refine ⟨h.nn k hk, ?_⟩
 have h1 := Im.feas_bound g h.feas hs _ k hk rfl
 have h2 := Im.gap_lt g hk hs
 rw [h.src] at h1
 omega
/-- a row of integers in the head of a block of the call's own -/
def RowI (w : World) (B g cap n : Nat) (l : List Int) : Prop := ∃ cs : Array Value, w.heap[g]? = some (.cells cs 3 (0, 0)) ∧ cs.size = cap ∧ n ≤ cap ∧ cap ≤ 9223372036854775807 ∧ l.length = n ∧ cs.toList.take n = encI l ∧ B ≤ g
theorem RowI.below {w w' : World} {B g cap n : Nat} {l : List Int} (h : RowI w B g cap n l) (hb : Below w.heap.size w w') : RowI w' B g cap n l := by
 obtain ⟨cs, h1, h2⟩ := h
 exact ⟨cs, blkb h1 hb, h2⟩
theorem RowI.cell {w : World} {B g cap n : Nat} {l : List Int} (h : RowI w B g cap n l) {k : Nat} (hk : k < n) : w.cell? ⟨g, k, none⟩ = some (.int .i64 (Im.at0 l k)) ∧ w.frozen? ⟨g, k, none⟩ = false ∧ g < w.heap.size := by
 obtain ⟨cs, h1, h2, h3, _, h4, h5, _⟩ := h
 refine ⟨cell_at h1 ?_, free_at h1, (Array.getElem?_eq_some_iff.1 h1).1⟩
 have : cs.toList[k]? = (encI l)[k]? := by rw [← h5, List.getElem?_take, if_pos hk]
 rw [Array.getElem?_toList] at this
 rw [this]
 simp [encI, Im.at0, List.getD_eq_getElem?_getD, h4, hk]
theorem RowI.lower {w : World} {B B' g cap n : Nat} {l : List Int} (h : RowI w B g cap n l) (hb : B' ≤ B) : RowI w B' g cap n l := by
 obtain ⟨cs, h1, h2, h3, h4, h5, h6, h7⟩ := h
 exact ⟨cs, h1, h2, h3, h4, h5, h6, Nat.le_trans hb h7⟩
theorem RowI.rd {w : World} {B g cap n : Nat} {l : List Int} (h : RowI w B g cap n l) : RdI w (some ⟨g, 0, none⟩) n l := by
 have hl : l.length = n := by obtain ⟨cs, _, _, _, _, h4, _⟩ := h; exact h4
 refine ⟨by simp [encI, hl], fun h0 => ⟨g, 0, rfl, (h.cell h0).2.2, fun j hj => ?_⟩⟩
 have hj2 : j < n := by simpa [encI, hl] using hj
 rw [Nat.zero_add, (h.cell hj2).1]
 simp [encI, Im.at0, List.getD_eq_getElem?_getD, hl, hj2]
theorem RowI.set {w : World} {B g cap n : Nat} {l : List Int} (h : RowI w B g cap n l) (k : Nat) (x : Int) : RowI (w.setCell ⟨g, k, none⟩ (.int .i64 x)) B g cap n (l.set k x) := by
 obtain ⟨cs, h1, h2, h3, h4, h5, h6, h7⟩ := h
 refine ⟨cs.setIfInBounds k (.int .i64 x), set_blk h1 _, by simp [h2], h3, h4, by simp [h5], ?_, h7⟩
 rw [Array.toList_setIfInBounds, List.take_set, h6]
 simp [encI, List.map_set]
theorem RowI.of_own {w : World} {B : Nat} {v : Value} {n : Nat} {l : List Int} (hn : 0 < n) (h : w.ownsRow B 3 1 v n (encI l)) : ∃ g cap, v = .slice (some ⟨g, 0, none⟩) n cap ∧ RowI w B g cap n l := by
 have hl := h.1
 obtain ⟨g, cap, cs, rfl, h1, h2, h3, h4, h5, h6⟩ := own_ints hn h
 exact ⟨g, cap, rfl, cs, h2, h5, h3, h4, by simpa [encI] using hl, h6, h1⟩
theorem RowI.own {w : World} {B g cap n : Nat} {l : List Int} (h : RowI w B g cap n l) : w.ownsRow B 3 1 (.slice (some ⟨g, 0, none⟩) n cap) n (encI l) := by
 obtain ⟨cs, h1, h2, h3, h4, h5, h6, h7⟩ := h
 exact ⟨by simp [encI, h5], .inr ⟨g, cap, cs, rfl, h7, h1, h3, by unfold maxLen; omega, by omega, by rw [Nat.mul_one]; exact h6⟩⟩
theorem nsL_at {c : Nat} {l : List Int} {un : Int} {a b k : Nat} (hk : k < l.length) : Im.at0 (nsL c l un a b) k = nsK c l un a b k := Im.at0_map_range _ _ _ hk
theorem nsL_len (c : Nat) (l : List Int) (un : Int) (a b : Nat) : (nsL c l un a b).length = l.length := by simp [nsL]
theorem nsK_le {c r : Nat} {l : List Int} (g : Im.Gr c r l) (hc : c ≤ 16) (hr : r ≤ 16) {un : Int} (hu : 1 ≤ un) {a b : Nat} (ha : a < l.length) (hb : b < l.length) (h1 : Im.IsT c l a (Im.times c l a)) (h2 : Im.IsT c l b (Im.times c l b)) {k : Nat} (hk : k < l.length) : 0 ≤ nsK c l un a b k ∧ nsK c l un a b k ≤ 40000 := by
 have b1 := time_le g hc hr ha h1 hk
 have b2 := time_le g hc hr hb h2 hk
 unfold nsK
 have := Int.ediv_le_self (a := Im.at0 (Im.times c l a) k + Im.at0 (Im.times c l b) k) un (by omega)
 exact ⟨Int.ediv_nonneg (by omega) (by omega), by omega⟩
/-- the samples, the first k of them settled -/
noncomputable def dlP (c : Nat) (l ns : List Int) (len most : Int) (hole : Bool) (k : Nat) : List Int := (List.range l.length).map fun i => if i < k then Im.dly c l ns len most hole i else Im.at0 ns i
theorem dlP_zero {c : Nat} {l ns : List Int} {len most : Int} {hole : Bool} (h : ns.length = l.length) : dlP c l ns len most hole 0 = ns := by
 apply List.ext_getElem (by simp [dlP, h])
 intro i h1 h2
 simp [dlP, Im.at0, List.getD_eq_getElem?_getD, h2]
theorem dlP_full {c : Nat} {l ns : List Int} {len most : Int} {hole : Bool} : dlP c l ns len most hole l.length = Im.delays c l ns len most hole := by
 apply List.ext_getElem (by simp [dlP, Im.delays])
 intro i h1 h2
 have : i < l.length := by simpa [dlP] using h1
 simp [dlP, Im.delays, this]
theorem dlP_keep {c : Nat} {l ns : List Int} {len most : Int} {hole : Bool} {k : Nat} (h : Im.dly c l ns len most hole k = Im.at0 ns k) : dlP c l ns len most hole (k + 1) = dlP c l ns len most hole k := by
 unfold dlP
 apply List.map_congr_left
 intro i _
 by_cases h1 : i < k
 ·rw [if_pos h1, if_pos (by omega)]
 ·rw [if_neg h1]
  by_cases h2 : i = k
  ·subst h2; rw [if_pos (by omega), h]
  ·rw [if_neg (by omega)]
theorem dlP_set {c : Nat} {l ns : List Int} {len most : Int} {hole : Bool} {k : Nat} (hk : k < l.length) (h : Im.dly c l ns len most hole k = -1) : (dlP c l ns len most hole k).set k (-1) = dlP c l ns len most hole (k + 1) := by
 apply List.ext_getElem (by simp [dlP])
 intro i h1 h2
 have hi : i < l.length := by simpa [dlP] using h2
 by_cases h3 : k = i
 ·subst h3
  simp [dlP, h]
 ·rw [List.getElem_set_ne h3]
  simp only [dlP, List.getElem_map, List.getElem_range]
  by_cases h4 : i < k
  ·rw [if_pos h4, if_pos (by omega)]
  ·rw [if_neg h4, if_neg (by omega)]
theorem c99 (c r : Nat) (A : Option Addr) (n cap : Nat) (l : List Int) (un len most : Int) (P : Option Addr) (np capp : Nat) (a b : Nat) (hole : Bool) (w : World) (g : Im.Gr c r l) (hc : c ≤ 16) (hr : r ≤ 16) (hu : 1 ≤ un ∧ un ≤ 1000) (ha : a < n) (hb0 : b < n) (H : RdI w A n l) (hst : Steps w) :
  Calls Tryz.prog 99 #[.agg #[.int .i64 c, .int .i64 r, .slice A n cap], .agg #[.int .i64 un, .int .i64 len, .int .i64 most, .slice P np capp], .agg #[.int .i64 a, .int .i64 b, .bool hole]] w fun en w' => ∃ v, en = .returned v ∧ w'.ownsRow w.heap.size 3 1 v n (encI (dlL c l un len most a b hole)) ∧ Below w.heap.size w w' := by
 have hln := H.len
 have hn0 : 0 < n := by omega
 have hn256 : n ≤ 256 := by have := g.len; have : c * r ≤ 256 := Nat.mul_le_mul hc hr; omega
 obtain ⟨i0, hi, hz0, hz1, hz2⟩ := info_parts info3
 have hmk := fun W => run_make_fill (P := Tryz.prog) 22 3 i0 (.int .i64 0) (fun k => .int .i64 (nsK c l un a b k)) Tryz.underlying22 hi hz0 hz1 rfl n (by omega) (by rw [hz2]; omega) W
 have HMK := Lib.hid hmk
 have HLN := Lib.hid hln
 clear hi hz0 hz1 hz2 hmk hln
 obtain ⟨w0, hW⟩ : ∃ W, W = ((w.alloc (Obj.cells #[.int .i64 c, .int .i64 r, .slice A n cap] 35)).alloc (Obj.cells #[.int .i64 un, .int .i64 len, .int .i64 most, .slice P np capp] 39)).alloc (Obj.cells #[.int .i64 a, .int .i64 b, .bool hole] 148) := ⟨_, rfl⟩
 have hT0 : w0.heap[w.heap.size]? = some (.cells #[.int .i64 c, .int .i64 r, .slice A n cap] 35 (0, 0)) := by rw [hW]; exact heap_old (by simp <;> omega) (heap_old (by simp <;> omega) (heap_new (by simp)))
 have hT1 : w0.heap[w.heap.size + 1]? = some (.cells #[.int .i64 un, .int .i64 len, .int .i64 most, .slice P np capp] 39 (0, 0)) := by rw [hW]; exact heap_old (by simp <;> omega) (heap_new (by simp))
 have hT2 : w0.heap[w.heap.size + 1 + 1]? = some (.cells #[.int .i64 a, .int .i64 b, .bool hole] 148 (0, 0)) := by rw [hW]; exact heap_new (by simp)
 have hB0 : Below w.heap.size w w0 := by rw [hW]; exact ((((Below.refl _ _).alloc (by first | omega | (simp <;> omega)) _).alloc (by first | omega | (simp <;> omega)) _).alloc (by first | omega | (simp <;> omega)) _)
 replace H := H.below hB0
 replace hst := hst.below hB0
 go_enter Tryz.func99, Tryz.ntmps99
 go_wp2_with fail
 rw [← hW]
 clear hW
 have qhT0_0 : w0.cell? ⟨w.heap.size, 0, none⟩ = some (.int .i64 c) := cell_at hT0 rfl
 have qhT0_1 : w0.cell? ⟨w.heap.size, 1, none⟩ = some (.int .i64 r) := cell_at hT0 rfl
 have qhT0_2 : w0.cell? ⟨w.heap.size, 2, none⟩ = some (.slice A n cap) := cell_at hT0 rfl
 have qhT1_0 : w0.cell? ⟨w.heap.size + 1, 0, none⟩ = some (.int .i64 un) := cell_at hT1 rfl
 have qhT1_1 : w0.cell? ⟨w.heap.size + 1, 1, none⟩ = some (.int .i64 len) := cell_at hT1 rfl
 have qhT1_2 : w0.cell? ⟨w.heap.size + 1, 2, none⟩ = some (.int .i64 most) := cell_at hT1 rfl
 have qhT1_3 : w0.cell? ⟨w.heap.size + 1, 3, none⟩ = some (.slice P np capp) := cell_at hT1 rfl
 have qhT2_0 : w0.cell? ⟨w.heap.size + 1 + 1, 0, none⟩ = some (.int .i64 a) := cell_at hT2 rfl
 have qhT2_1 : w0.cell? ⟨w.heap.size + 1 + 1, 1, none⟩ = some (.int .i64 b) := cell_at hT2 rfl
 have qhT2_2 : w0.cell? ⟨w.heap.size + 1 + 1, 2, none⟩ = some (.bool hole) := cell_at hT2 rfl
 refine wp_region_plan [(0, true), (1, true), (2, true), (4, true), (5, true), (6, true), (3, false), (7, false), (8, true), (9, true)] w0.heap.size (by kernel_rfl) (by kernel_rfl) (Nat.le_refl _) (fun _ _ d _ _ h => by cases d <;> exact h) ?_
 have hC : Below w0.heap.size w0 w0 := Below.refl _ _
 have zhT0 : w.heap.size < w0.heap.size := (Array.getElem?_eq_some_iff.1 hT0).1
 have zhT1 : w.heap.size + 1 < w0.heap.size := (Array.getElem?_eq_some_iff.1 hT1).1
 have zhT2 : w.heap.size + 1 + 1 < w0.heap.size := (Array.getElem?_eq_some_iff.1 hT2).1
 repeat (first | (refine wpPlanA_skip _ rfl (by rfl) ?_; simp only [Act.put, List.setIfInBounds_toArray, List.set_cons_zero, List.set_cons_succ]) | (refine wpPlanA_soft _ ?_ rfl (by rfl) ?_ ?_; rotate_left; (intro wq hq hcq; go_simp; first | exact rfl | exact ⟨rfl, rfl⟩); simp only [Act.put, List.setIfInBounds_toArray, List.set_cons_zero, List.set_cons_succ]))
 refine wpPlanA_hard _ rfl (by rfl) (fun w1 hS K hK => ?_)
 have hB1 := hB0.call hS rfl
 replace hC := hC.call hS rfl
 replace hT0 := blkb hT0 hS
 replace hT1 := blkb hT1 hS
 replace hT2 := blkb hT2 hS
 replace H := H.below hS
 replace hst := hst.below hS
 clear hS hB0
 go_simp
 refine (c127 c r A n cap l a _ g hc hr ha H hst).mono ?_
 rintro e w2 ⟨o1, t1, rfl, hq1, ht1, hI1, hb⟩
 have hB2 := hB1.call hb rfl
 replace hC := hC.call hb rfl
 replace hT0 := blkb hT0 hb
 replace hT1 := blkb hT1 hb
 replace hT2 := blkb hT2 hb
 replace H := H.below hb
 replace hst := hst.below hb
 clear hb hB1
 refine hK _ _ hC ?_
 clear hK K
 try simp only [Act.put, List.setIfInBounds_toArray, List.set_cons_zero, List.set_cons_succ]
 refine wpPlanA_hard _ rfl (by rfl) (fun w3 hS K hK => ?_)
 have hB3 := hB2.call hS rfl
 replace hC := hC.call hS rfl
 replace hT0 := blkb hT0 hS
 replace hT1 := blkb hT1 hS
 replace hT2 := blkb hT2 hS
 replace H := H.below hS
 replace hst := hst.below hS
 replace ht1 := blkb ht1 hS
 clear hS hB2
 go_simp
 refine (c127 c r A n cap l b _ g hc hr hb0 H hst).mono ?_
 rintro e w4 ⟨o2, t2, rfl, hq2, ht2, hI2, hb⟩
 have hB4 := hB3.call hb rfl
 replace hC := hC.call hb rfl
 replace hT0 := blkb hT0 hb
 replace hT1 := blkb hT1 hb
 replace hT2 := blkb hT2 hb
 replace H := H.below hb
 replace hst := hst.below hb
 replace ht1 := blkb ht1 hb
 clear hb hB3
 refine hK _ _ hC ?_
 clear hK K
 try simp only [Act.put, List.setIfInBounds_toArray, List.set_cons_zero, List.set_cons_succ]
 repeat (first | (refine wpPlanA_skip _ rfl (by rfl) ?_; simp only [Act.put, List.setIfInBounds_toArray, List.set_cons_zero, List.set_cons_succ]) | (refine wpPlanA_soft _ ?_ rfl (by rfl) ?_ ?_; rotate_left; (intro wq hq hcq; go_simp; first | exact rfl | exact ⟨rfl, rfl⟩); simp only [Act.put, List.setIfInBounds_toArray, List.set_cons_zero, List.set_cons_succ]))
 clear qhT0_0 qhT0_1 qhT0_2 qhT1_0 qhT1_1 qhT1_2 qhT1_3 qhT2_0 qhT2_1 qhT2_2
 refine wpPlanA_nil (fun w5 hS => ?_)
 clear hC zhT0 zhT1 zhT2
 have hB5 := hB4.call hS rfl
 replace hT0 := blkb hT0 hS
 replace hT1 := blkb hT1 hS
 replace hT2 := blkb hT2 hS
 replace H := H.below hS
 replace hst := hst.below hS
 replace ht1 := blkb ht1 hS
 replace ht2 := blkb ht2 hS
 clear hS hB4
 have qhT0_0 : w5.cell? ⟨w.heap.size, 0, none⟩ = some (.int .i64 c) := cell_at hT0 rfl
 have qhT0_1 : w5.cell? ⟨w.heap.size, 1, none⟩ = some (.int .i64 r) := cell_at hT0 rfl
 have qhT0_2 : w5.cell? ⟨w.heap.size, 2, none⟩ = some (.slice A n cap) := cell_at hT0 rfl
 have qhT1_0 : w5.cell? ⟨w.heap.size + 1, 0, none⟩ = some (.int .i64 un) := cell_at hT1 rfl
 have qhT1_1 : w5.cell? ⟨w.heap.size + 1, 1, none⟩ = some (.int .i64 len) := cell_at hT1 rfl
 have qhT1_2 : w5.cell? ⟨w.heap.size + 1, 2, none⟩ = some (.int .i64 most) := cell_at hT1 rfl
 have qhT1_3 : w5.cell? ⟨w.heap.size + 1, 3, none⟩ = some (.slice P np capp) := cell_at hT1 rfl
 have qhT2_0 : w5.cell? ⟨w.heap.size + 1 + 1, 0, none⟩ = some (.int .i64 a) := cell_at hT2 rfl
 have qhT2_1 : w5.cell? ⟨w.heap.size + 1 + 1, 1, none⟩ = some (.int .i64 b) := cell_at hT2 rfl
 have qhT2_2 : w5.cell? ⟨w.heap.size + 1 + 1, 2, none⟩ = some (.bool hole) := cell_at hT2 rfl
 obtain rfl : t1 = Im.times c l a := (Im.times_eq hI1).symm
 obtain rfl : t2 = Im.times c l b := (Im.times_eq hI2).symm
 have HT1 := Lib.hid hI1
 have HT2 := Lib.hid hI2
 clear qhT0_0 qhT0_1 qhT0_2 qhT1_0 qhT1_1 qhT1_2 qhT1_3 qhT2_0 qhT2_1 qhT2_2
 clear hI1 hI2 hq1 hq2
 have hmk := HMK.out
 have q2 : w5.cell? ⟨w.heap.size, 2, none⟩ = some (.slice A n cap) := cell_at hT0 rfl
 obtain ⟨gs, hgs⟩ : ∃ g, g = w5.heap.size := ⟨_, rfl⟩
 have HGS : Hid (w5.heap.size ≤ gs) := Lib.hid (by omega)
 go_wp2_with fail
 obtain ⟨w6, hwn⟩ : ∃ V, V = w5.alloc (.cells (fillA (.int .i64 0) (fun k => .int .i64 (nsK c l un a b k)) n 0) 3) := ⟨_, rfl⟩
 have hbn : Below w5.heap.size w5 w6 := by rw [hwn]; exact (Below.refl _ _).alloc (Nat.le_refl _) _
 have hsg : w6.heap[gs]? = some (.cells (fillA (.int .i64 0) (fun k => .int .i64 (nsK c l un a b k)) n 0) 3 (0, 0)) := by rw [hwn]; exact heap_new hgs
 have hord : w.heap.size < gs ∧ w.heap.size + 1 < gs ∧ w.heap.size + 1 + 1 < gs ∧ o1 < gs ∧ o2 < gs := by
  rw [hgs]
  exact ⟨(Array.getElem?_eq_some_iff.1 hT0).1, (Array.getElem?_eq_some_iff.1 hT1).1, (Array.getElem?_eq_some_iff.1 hT2).1, (Array.getElem?_eq_some_iff.1 ht1).1, (Array.getElem?_eq_some_iff.1 ht2).1⟩
 rw [← hgs, ← hwn]
 have HORD := Lib.hid hord
 clear hwn hgs hmk q2 hord
 go_loopw [28] (fun i wr => ∃ k : Nat, k ≤ n ∧ i = .int .i64 k ∧ Hid (wr.heap[gs]? = some (.cells (fillA (.int .i64 0) (fun k => .int .i64 (nsK c l un a b k)) n k) 3 (0, 0))) ∧ Below w5.heap.size w5 wr) (fun i _ => n - (intOf i).toNat)
 case atStart => exact ⟨0, Nat.zero_le _, rfl, Lib.hid hsg, hbn⟩
 case round =>
  clear hsg hbn
  obtain ⟨k, hk, rfl, HS, hbr⟩ := hrel
  obtain ⟨w6, hww⟩ : ∃ W, W = wr := ⟨_, rfl⟩
  subst hww
  have hB6 := hB5.call hbr rfl
  replace hT0 := blkb hT0 hbr
  replace hT1 := blkb hT1 hbr
  replace hT2 := blkb hT2 hbr
  replace H := H.below hbr
  replace hst := hst.below hbr
  replace ht1 := blkb ht1 hbr
  replace ht2 := blkb ht2 hbr
  clear hB5
  have qhT0_0 : w6.cell? ⟨w.heap.size, 0, none⟩ = some (.int .i64 c) := cell_at hT0 rfl
  have qhT0_1 : w6.cell? ⟨w.heap.size, 1, none⟩ = some (.int .i64 r) := cell_at hT0 rfl
  have qhT0_2 : w6.cell? ⟨w.heap.size, 2, none⟩ = some (.slice A n cap) := cell_at hT0 rfl
  have qhT1_0 : w6.cell? ⟨w.heap.size + 1, 0, none⟩ = some (.int .i64 un) := cell_at hT1 rfl
  have qhT1_1 : w6.cell? ⟨w.heap.size + 1, 1, none⟩ = some (.int .i64 len) := cell_at hT1 rfl
  have qhT1_2 : w6.cell? ⟨w.heap.size + 1, 2, none⟩ = some (.int .i64 most) := cell_at hT1 rfl
  have qhT1_3 : w6.cell? ⟨w.heap.size + 1, 3, none⟩ = some (.slice P np capp) := cell_at hT1 rfl
  have qhT2_0 : w6.cell? ⟨w.heap.size + 1 + 1, 0, none⟩ = some (.int .i64 a) := cell_at hT2 rfl
  have qhT2_1 : w6.cell? ⟨w.heap.size + 1 + 1, 1, none⟩ = some (.int .i64 b) := cell_at hT2 rfl
  have qhT2_2 : w6.cell? ⟨w.heap.size + 1 + 1, 2, none⟩ = some (.bool hole) := cell_at hT2 rfl
  by_cases hlt : k < n
  ·have hkn2 : (k : Int) < (n : Int) := by omega
   have hk02 : (0 : Int) ≤ (k : Int) := by omega
   have hL1 : k < l.length := by rw [HLN.out]; exact hlt
   have q1 : w6.cell? ⟨o1, k, none⟩ = some (.int .i64 (Im.at0 (Im.times c l a) k)) := cell_at ht1 (by simp [encI, Im.at0, List.getD_eq_getElem?_getD, HT1.out.len, HLN.out, hlt])
   have q2 : w6.cell? ⟨o2, k, none⟩ = some (.int .i64 (Im.at0 (Im.times c l b) k)) := cell_at ht2 (by simp [encI, Im.at0, List.getD_eq_getElem?_getD, HT2.out.len, HLN.out, hlt])
   have hb1 := time_le g hc hr (by rw [HLN.out]; exact ha) HT1.out hL1
   have hb2 := time_le g hc hr (by rw [HLN.out]; exact hb0) HT2.out hL1
   have HV : Hid (nsK c l un a b k = (Im.at0 (Im.times c l a) k + Im.at0 (Im.times c l b) k) / un) := Lib.hid rfl
   generalize Im.at0 (Im.times c l a) k = x1 at q1 hb1 HV
   generalize Im.at0 (Im.times c l b) k = x2 at q2 hb2 HV
   have hw1 : IntKind.i64.wrap (x1 + x2) = x1 + x2 := wrapI (by omega)
   have hd1 : (x1 + x2).tdiv un = (x1 + x2) / un := Int.tdiv_eq_ediv_of_nonneg (by omega)
   have hu0 : ¬ un = 0 := by omega
   have hd2 : 0 ≤ (x1 + x2) / un := Int.ediv_nonneg (by omega) (by omega)
   have hd3 : (x1 + x2) / un ≤ x1 + x2 := Int.ediv_le_self _ (by omega)
   have hw2 : IntKind.i64.wrap ((x1 + x2) / un) = (x1 + x2) / un := wrapI (by omega)
   have hwk : IntKind.i64.wrap ((k : Int) + 1) = ((k + 1 : Nat) : Int) := by rw [wrapI (by omega)]; simp
   generalize hxy : (x1 + x2) / un = x3 at hd1 hw2 hd2 hd3 HV
   clear hxy
   clear hb1 hb2 hd2 hd3
   have z1 : o1 < w6.heap.size := (Array.getElem?_eq_some_iff.1 ht1).1
   have z2 : o2 < w6.heap.size := (Array.getElem?_eq_some_iff.1 ht2).1
   have z3 : w.heap.size + 1 < w6.heap.size := (Array.getElem?_eq_some_iff.1 hT1).1
   go_wp2
   refine wp_region_splitG 15 (by kernel_rfl) (by kernel_rfl) ?_
   simp only [List.take_succ_cons, List.take_zero, List.drop_succ_cons, List.drop_zero]
   repeat (go_big_quiet_step ((first | fail)))
   refine wpQuiet_nil (gw_out ?_)
   intro wq hbq
   have hsq := blkb HS.out hbq
   have hbr2 := hbr.call hbq rfl
   have qf : wq.frozen? ⟨gs, k, none⟩ = false := free_at hsq
   have qc : wq.cell? ⟨gs, k, none⟩ = some (.int .i64 0) := cell_at hsq (by rw [fillA_get _ _ _ _ _ hlt, if_neg (Nat.lt_irrefl _)])
   have HS2 : Hid ((wq.setCell ⟨gs, k, none⟩ (.int .i64 x3)).heap[gs]? = some (.cells (fillA (.int .i64 0) (fun k => .int .i64 (nsK c l un a b k)) n (k + 1)) 3 (0, 0))) := by
    have := set_blk (i := k) hsq (.int .i64 (nsK c l un a b k))
    rw [fillA_set (.int .i64 0) (fun k => .int .i64 (nsK c l un a b k)) n k hlt, HV.out] at this
    exact Lib.hid this
   have hbs : Below w5.heap.size w5 (wq.setCell ⟨gs, k, none⟩ (.int .i64 x3)) := hbr2.setCell (p := ⟨gs, k, none⟩) (by show _ ≤ gs; exact HGS.out) _
   have HN := Lib.hid hbs
   clear hsq hbr2 hbs q1 q2 z1 z2 z3
   go_wp2
   go_roundw
   case rel => exact ⟨k + 1, by omega, rfl, HS2, HN.out⟩
   case measure => simp [intOf]; omega
  ·obtain rfl : n = k := by omega
   have hri : RowI w6 w.heap.size gs n n (nsL c l un a b) := ⟨_, HS.out, fillA_size _ _ _ _, Nat.le_refl _, by omega, by rw [nsL_len, HLN.out], by
    rw [fillA_full]
    simp [encI, nsL, HLN.out, List.map_map, Function.comp_def, List.take_of_length_le], by have := HORD.out; omega⟩
   have hnsb : Hid (∀ k, k < n → 0 ≤ Im.at0 (nsL c l un a b) k ∧ Im.at0 (nsL c l un a b) k ≤ 1000000) := Lib.hid (fun k hk => by
    rw [← HLN.out] at hk
    rw [nsL_at hk]
    have := nsK_le g hc hr hu.1 (a := a) (b := b) (by rw [HLN.out]; exact ha) (by rw [HLN.out]; exact hb0) HT1.out HT2.out hk
    omega)
   have hnsl : Hid ((nsL c l un a b).length = l.length) := Lib.hid (nsL_len _ _ _ _ _)
   have HDL : Hid (dlL c l un len most a b hole = Im.delays c l (nsL c l un a b) len most hole) := Lib.hid rfl
   generalize (nsL c l un a b) = ns at hri hnsb hnsl HDL
   clear HS ht1 ht2
   go_wp2_with fail
   refine (c124 gs 0 n n ns _ (by omega) hn0 hri.rd).mono ?_
   rintro e w7 ⟨vd, rfl, hown, hb⟩
   obtain ⟨gd, capd, rfl, hrd⟩ := RowI.of_own hn0 hown
   clear hown
   have HGD : Hid (w6.heap.size ≤ gd ∧ gs < w6.heap.size) := Lib.hid ⟨hrd.choose_spec.2.2.2.2.2.2, (Array.getElem?_eq_some_iff.1 hri.choose_spec.1).1⟩
   have HRD : Hid (RowI w7 w6.heap.size gd capd n (dlP c l ns len most hole 0)) := by rw [dlP_zero hnsl.out]; exact Lib.hid hrd
   have hbr0 : Below w6.heap.size w6 w7 := hb
   clear hrd hb
   go_wp2_with fail
   have HSZ : Hid (w.heap.size ≤ w6.heap.size) := Lib.hid hB6.size
   go_loopw [51] (fun i wr => ∃ k : Nat, k ≤ n ∧ i = .int .i64 k ∧ Hid (RowI wr w6.heap.size gd capd n (dlP c l ns len most hole k)) ∧ Below w6.heap.size w6 wr) (fun i _ => n - (intOf i).toNat)
   case atStart => exact ⟨0, Nat.zero_le _, rfl, HRD, hbr0⟩
   case round =>
    clear HRD hbr0
    obtain ⟨k, hk, rfl, HRD, hbr⟩ := hrel
    obtain ⟨w7, hww⟩ : ∃ W, W = wr := ⟨_, rfl⟩
    subst hww
    have hB7 := hB6.call hbr rfl
    replace hT0 := blkb hT0 hbr
    replace hT1 := blkb hT1 hbr
    replace hT2 := blkb hT2 hbr
    replace H := H.below hbr
    replace hst := hst.below hbr
    replace hri := hri.below hbr
    clear hB6
    have qhT0_0 : w7.cell? ⟨w.heap.size, 0, none⟩ = some (.int .i64 c) := cell_at hT0 rfl
    have qhT0_1 : w7.cell? ⟨w.heap.size, 1, none⟩ = some (.int .i64 r) := cell_at hT0 rfl
    have qhT0_2 : w7.cell? ⟨w.heap.size, 2, none⟩ = some (.slice A n cap) := cell_at hT0 rfl
    have qhT1_0 : w7.cell? ⟨w.heap.size + 1, 0, none⟩ = some (.int .i64 un) := cell_at hT1 rfl
    have qhT1_1 : w7.cell? ⟨w.heap.size + 1, 1, none⟩ = some (.int .i64 len) := cell_at hT1 rfl
    have qhT1_2 : w7.cell? ⟨w.heap.size + 1, 2, none⟩ = some (.int .i64 most) := cell_at hT1 rfl
    have qhT1_3 : w7.cell? ⟨w.heap.size + 1, 3, none⟩ = some (.slice P np capp) := cell_at hT1 rfl
    have qhT2_0 : w7.cell? ⟨w.heap.size + 1 + 1, 0, none⟩ = some (.int .i64 a) := cell_at hT2 rfl
    have qhT2_1 : w7.cell? ⟨w.heap.size + 1 + 1, 1, none⟩ = some (.int .i64 b) := cell_at hT2 rfl
    have qhT2_2 : w7.cell? ⟨w.heap.size + 1 + 1, 2, none⟩ = some (.bool hole) := cell_at hT2 rfl
    clear qhT0_0 qhT0_1 qhT0_2 qhT1_0 qhT1_1 qhT1_2 qhT1_3 qhT2_0 qhT2_1 qhT2_2
    have hwk : IntKind.i64.wrap ((k : Int) + 1) = ((k + 1 : Nat) : Int) := by rw [wrapI (by omega)]; simp
    by_cases hlt : k < n
    rotate_left
    ·obtain rfl : n = k := by omega
     have HF : Hid (RowI w7 w6.heap.size gd capd n (dlL c l un len most a b hole)) := by rw [HDL.out, ← dlP_full, HLN.out]; exact HRD
     go_wp2
     go_ret
     exact ⟨_, rfl, (HF.out.lower HSZ.out).own, hB7⟩
    have hkn2 : (k : Int) < (n : Int) := by omega
    have hk02 : (0 : Int) ≤ (k : Int) := by omega
    have hkl : k < l.length := by rw [HLN.out]; exact hlt
    have HK1 := Lib.hid (dlP_keep (c := c) (l := l) (ns := ns) (len := len) (most := most) (hole := hole) (k := k))
    have HK2 := Lib.hid (dlP_set (c := c) (ns := ns) (len := len) (most := most) (hole := hole) hkl)
    have HK3 : Hid (Im.dly c l ns len most hole k = if hole || decide (len ≤ Im.at0 ns k) || Im.alia c l ns most k then -1 else Im.at0 ns k) := Lib.hid rfl
    have hx0 := hnsb.out k hlt
    have q1 := (hri.cell hlt).1
    have q2 : w7.cell? ⟨w.heap.size + 1 + 1, 2, none⟩ = some (.bool hole) := cell_at hT2 rfl
    generalize hX : Im.at0 ns k = x at q1 HK1 HK3 hx0
    have HX := Lib.hid hX
    clear hX
    cases hole
    rotate_left
    ·have qf : w7.frozen? ⟨gd, k, none⟩ = false := (HRD.out.cell hlt).2.1
     have qc := (HRD.out.cell hlt).1
     have HS2 : Hid (RowI (w7.setCell ⟨gd, k, none⟩ (.int .i64 (-1))) w6.heap.size gd capd n (dlP c l ns len most true (k + 1))) := by
      rw [← HK2.out (by rw [HK3.out]; rfl)]
      exact Lib.hid (HRD.out.set k (-1))
     have HN := Lib.hid (hbr.setCell (p := ⟨gd, k, none⟩) (by show _ ≤ gd; exact HGD.out.1) (.int .i64 (-1)))
     clear hbr
     go_wp2
     go_roundw
     case rel => exact ⟨k + 1, by omega, rfl, HS2, HN.out⟩
     case measure => simp [intOf]; omega
    have q3 : w7.cell? ⟨w.heap.size + 1, 1, none⟩ = some (.int .i64 len) := cell_at hT1 rfl
    have q4 : w7.cell? ⟨w.heap.size + 1, 2, none⟩ = some (.int .i64 most) := cell_at hT1 rfl
    by_cases hlen : len ≤ x
    ·have qf : w7.frozen? ⟨gd, k, none⟩ = false := (HRD.out.cell hlt).2.1
     have qc := (HRD.out.cell hlt).1
     have HS2 : Hid (RowI (w7.setCell ⟨gd, k, none⟩ (.int .i64 (-1))) w6.heap.size gd capd n (dlP c l ns len most false (k + 1))) := by
      rw [← HK2.out (by rw [HK3.out]; simp [hlen])]
      exact Lib.hid (HRD.out.set k (-1))
     have HN := Lib.hid (hbr.setCell (p := ⟨gd, k, none⟩) (by show _ ≤ gd; exact HGD.out.1) (.int .i64 (-1)))
     clear hbr
     go_wp2
     go_roundw
     case rel => exact ⟨k + 1, by omega, rfl, HS2, HN.out⟩
     case measure => simp [intOf]; omega
    have q5 : w7.cell? ⟨w.heap.size, 0, none⟩ = some (.int .i64 c) := cell_at hT0 rfl
    have q6 : w7.cell? ⟨w.heap.size, 1, none⟩ = some (.int .i64 r) := cell_at hT0 rfl
    have q7 : w7.cell? ⟨w.heap.size, 2, none⟩ = some (.slice A n cap) := cell_at hT0 rfl
    go_wp2_with fail
    refine (c141 c r A n cap l (some ⟨gs, 0, none⟩) n ns most k _ g hc hr hlt H hri.rd hnsb.out hst).mono ?_
    rintro e w9 ⟨rfl, hb9⟩
    have hr9 := HRD.out.below hb9
    have hbr9 := hbr.call hb9 rfl
    have HK4 : Hid (Im.alia c l ns most k = Im.alia c l ns most k) := Lib.hid rfl
    generalize Im.alia c l ns most k = al at HK3 HK4 ⊢
    clear q1 q2 q3 q4 q5 q6 q7 hb9 hbr
    cases al
    ·have HS2 : Hid (RowI w9 w6.heap.size gd capd n (dlP c l ns len most false (k + 1))) := by
      rw [HK1.out (by rw [HK3.out]; simp; intro h; omega)]
      exact Lib.hid hr9
     have HN := Lib.hid hbr9
     clear hr9 hbr9
     go_wp2
     go_roundw
     case rel => exact ⟨k + 1, by omega, rfl, HS2, HN.out⟩
     case measure => simp [intOf]; omega
    ·have qf : w9.frozen? ⟨gd, k, none⟩ = false := (hr9.cell hlt).2.1
     have qc := (hr9.cell hlt).1
     have HS2 : Hid (RowI (w9.setCell ⟨gd, k, none⟩ (.int .i64 (-1))) w6.heap.size gd capd n (dlP c l ns len most false (k + 1))) := by
      rw [← HK2.out (by rw [HK3.out]; simp)]
      exact Lib.hid (hr9.set k (-1))
     have HN := Lib.hid (hbr9.setCell (p := ⟨gd, k, none⟩) (by show _ ≤ gd; exact HGD.out.1) (.int .i64 (-1)))
     clear hbr9
     go_wp2
     go_roundw
     case rel => exact ⟨k + 1, by omega, rfl, HS2, HN.out⟩
     case measure => simp [intOf]; omega
end Go.Proofs.YtdimmlljjmmdbaaGreatDoor
